/- Regions that draw their order, first part: the run in the order of the text, as a row of states. -/
import Derived.Test.YtjpkfdmjhgnmbaaGreatGvRegt
namespace Go.Proofs.YtjpkfdmjhgnmbaaGreat.Gv
open Go
section
variable {E : Env} {P : Program} {G : Gh} {φ : Mp} {h h' : H} {w : World} {s : Fr} {a : Act} {v : V} {o : Oper}

theorem runD_nil {n : Nat} {all : List Oper} {ms : List Nat} {j : Nat} {call : Call} {tr : List (Fr × H)} {k : List (Fr × H) → Bool} :
    (runD E n all ms [] j).v call s h tr k = (bif k ((s, h) :: tr) then .ok s h else .bad "draw: another order" 0) := rfl
theorem runD_cons {n : Nat} {all : List Oper} {ms : List Nat} {j : Nat} {l : List Oper} : runD E n all ms (o :: l) j = (runD E n all ms l (j + 1)).use (fun r => match putD n o.dst with
      | none => ⟨fun _ _ _ _ _ => .bad "dst" 0⟩
      | some p => p.use fun p => (drawOp E all ms j o).use fun b => ⟨fun call s h tr k => match b call s h with
        | .ok v h' => bif Nat.ble h.next h'.next then r call (p v s) h' ((s, h) :: tr) k else .bad "next" 0
        | .bad w n => .bad w n⟩ : (Call → Fr → H → List (Fr × H) → (List (Fr × H) → Bool) → RS) → Box (Call → Fr → H → List (Fr × H) → (List (Fr × H) → Bool) → RS)) := rfl

def upd {α : Type} (f : Nat → α) (j : Nat) (x : α) (i : Nat) : α := if i = j then x else f i
theorem upd_self {α : Type} (f : Nat → α) (j : Nat) (x : α) : upd f j x j = x := if_pos rfl
theorem upd_other {α : Type} (f : Nat → α) {j i : Nat} (x : α) (h : i ≠ j) : upd f j x i = f i := if_neg h
/-- One place of the row. -/
def RunAt (E : Env) (n : Nat) (all : List Oper) (ms : List Nat) (call : Call) (S : Nat → Fr) (M : Nat → H) (U : Nat → V) (i : Nat) : Prop :=
  ∀ o, all[i]? = some o → ∃ p, putD n o.dst = some p ∧ (drawOp E all ms i o).v call (S i) (M i) = .ok (U i) (M (i + 1)) ∧ S (i + 1) = p.v (U i) (S i) ∧ (M i).next ≤ (M (i + 1)).next

theorem runD_row {n : Nat} {all : List Oper} {ms : List Nat} {call : Call} : ∀ (l : List Oper) (j : Nat), (∀ i, l[i]? = all[j + i]?) → ∀ (s : Fr) (h : H) (tr : List (Fr × H)) (k : List (Fr × H) → Bool) (s' : Fr) (h' : H),
    (runD E n all ms l j).v call s h tr k = .ok s' h' → ∃ (S : Nat → Fr) (M : Nat → H) (U : Nat → V) (L : List (Fr × H)), S j = s ∧ M j = h ∧ S (j + l.length) = s' ∧ M (j + l.length) = h' ∧
      (∀ i, j ≤ i → i < j + l.length → RunAt E n all ms call S M U i) ∧ k L = true ∧ (∀ i, j ≤ i → i ≤ j + l.length → L[j + l.length - i]? = some (S i, M i)) ∧ (∀ x, L[l.length + 1 + x]? = tr[x]?)
  | [], j, hl, s, h, tr, k, s2, h2, e => by
    rw [runD_nil] at e
    cases hk : k ((s, h) :: tr) with
    | false => rw [hk] at e; cases e
    | true =>
      rw [hk] at e
      cases e
      refine ⟨fun _ => s, fun _ => h, fun _ => .undef, (s, h) :: tr, rfl, rfl, rfl, rfl, fun i h1 h2 => ?_, hk, fun i h1 h2 => ?_, fun x => ?_⟩
      · simp at h2; omega
      · simp at h2
        have : i = j := by omega
        subst this
        simp
      · simp [Nat.add_comm 1 x]
  | o :: l, j, hl, s, h, tr, k, s', h', e => by
    have ho : all[j]? = some o := by have := hl 0; simp at this; exact this.symm
    have hl' : ∀ i, l[i]? = all[j + 1 + i]? := fun i => by
      have := hl (i + 1)
      rw [List.getElem?_cons_succ] at this
      rw [this]
      congr 1
      omega
    rw [runD_cons, Box.use_v] at e
    split at e
    · cases e
    · rename_i p hp
      rw [Box.use_v, Box.use_v] at e
      dsimp only at e
      split at e
      · rename_i v1 h1 hr
        cases hn : Nat.ble h.next h1.next with
        | false => rw [hn] at e; cases e
        | true =>
          rw [hn, cond_true] at e
          rw [nble, decide_eq_true_eq] at hn
          obtain ⟨S, M, U, L, hS, hM, hS', hM', hrun, hk, hL, hT⟩ := runD_row l (j + 1) hl' _ _ _ _ _ _ e
          have hne : ∀ i, j + 1 ≤ i → i ≠ j := fun i hi => by omega
          refine ⟨upd S j s, upd M j h, upd U j v1, L, upd_self _ _ _, upd_self _ _ _, ?_, ?_, ?_, hk, ?_, ?_⟩
          · simp only [List.length_cons]
            rw [upd_other _ _ (by omega), show j + (l.length + 1) = j + 1 + l.length from by omega]
            exact hS'
          · simp only [List.length_cons]
            rw [upd_other _ _ (by omega), show j + (l.length + 1) = j + 1 + l.length from by omega]
            exact hM'
          · intro i h1i h2i
            simp only [List.length_cons] at h2i
            by_cases hij : i = j
            · subst hij
              intro o' ho'
              rw [ho] at ho'
              cases ho'
              refine ⟨p, hp, ?_, ?_, ?_⟩
              · rw [upd_self, upd_self, upd_self, upd_other _ _ (hne (i + 1) (Nat.le_refl _))]
                rw [hr, hM]
              · rw [upd_other _ _ (hne (i + 1) (Nat.le_refl _)), upd_self, upd_self]
                exact hS
              · rw [upd_self, upd_other _ _ (hne (i + 1) (Nat.le_refl _))]
                rw [hM]; exact hn
            · have := hrun i (by omega) (by omega)
              intro o' ho'
              obtain ⟨p', a1, a2, a3, a4⟩ := this o' ho'
              refine ⟨p', a1, ?_, ?_, ?_⟩
              · simp only [upd_other _ _ hij, upd_other _ _ (hne (i + 1) (by omega))]; exact a2
              · simp only [upd_other _ _ hij, upd_other _ _ (hne (i + 1) (by omega))]; exact a3
              · simp only [upd_other _ _ hij, upd_other _ _ (hne (i + 1) (by omega))]; exact a4
          · intro i h1i h2i
            simp only [List.length_cons] at h2i ⊢
            by_cases hij : i = j
            · subst hij
              rw [upd_self, upd_self]
              have := hT 0
              rw [show i + (l.length + 1) - i = l.length + 1 + 0 from by omega, this]
              rfl
            · rw [upd_other _ _ hij, upd_other _ _ hij]
              have := hL i (by omega) (by omega)
              rw [show j + (l.length + 1) - i = j + 1 + l.length - i from by omega]
              exact this
          · intro x
            simp only [List.length_cons]
            rw [show l.length + 1 + 1 + x = l.length + 1 + (x + 1) from by omega, hT (x + 1)]
            rfl
      · cases e

theorem triesF_cons {all : List Oper} {ms : List Nat} {p : Nat × Nat} {l : List (Nat × Nat)} {call : Call} {tr : List (Fr × H)} :
    (triesF E all ms (p :: l)).v call tr = (bif (tryD E all ms p.1 p.2).v call tr then (triesF E all ms l).v call tr else false) := by
  show (((triesF E all ms l).use fun r => (tryD E all ms p.1 p.2).use fun t => ⟨fun call tr => bif t call tr then r call tr else false⟩ : Box (Call → List (Fr × H) → Bool))).v call tr = _
  rw [Box.use_v, Box.use_v]
theorem triesF_ok {all : List Oper} {ms : List Nat} {call : Call} {tr : List (Fr × H)} : ∀ (l : List (Nat × Nat)), (triesF E all ms l).v call tr = true → ∀ p ∈ l, (tryD E all ms p.1 p.2).v call tr = true
  | [], _, p, hp => by cases hp
  | q :: l, e, p, hp => by
    rw [triesF_cons] at e
    cases hq : (tryD E all ms q.1 q.2).v call tr with
    | false => rw [hq] at e; cases e
    | true =>
      rw [hq, cond_true] at e
      cases hp with
      | head => exact hq
      | tail _ hp => exact triesF_ok l e p hp
theorem triesL_mem {all : List Oper} {ms : List Nat} : ∀ (l : List Oper) (j i : Nat) (o : Oper) (c : Nat), l[i]? = some o → isRead o = true → c ∈ elsewhere all ms (j + i) → (j + i, c) ∈ triesL all ms j l
  | [], j, i, o, c, hl, _, _ => by simp at hl
  | q :: l, j, i, o, c, hl, hr, hc => by
    unfold triesL
    rw [List.mem_append]
    cases i with
    | zero =>
      simp at hl
      subst hl
      left
      rw [if_pos hr]
      exact List.mem_map.2 ⟨c, hc, rfl⟩
    | succ i =>
      right
      have := triesL_mem (all := all) (ms := ms) l (j + 1) i o c (by simpa using hl) hr (by rw [show j + 1 + i = j + (i + 1) from by omega]; exact hc)
      rw [show j + (i + 1) = j + 1 + i from by omega]
      exact this

/-- The whole run, as a row of states. -/
structure Row (E : Env) (n : Nat) (all : List Oper) (call : Call) (S : Nat → Fr) (M : Nat → H) (U : Nat → V) : Prop where
  ok : okDraw all (masks all) = true
  run : ∀ i, i < all.length → RunAt E n all (masks all) call S M U i
  tries : ∀ (i : Nat) (o : Oper) (c : Nat), all[i]? = some o → isRead o = true → c ∈ elsewhere all (masks all) i → ∃ k u k', (drawOp E all (masks all) i o).v call (S i) (M i) = .ok (U i) k ∧
    (drawOp E all (masks all) i o).v call (S i) (M c) = .ok u k' ∧ sameV (U i) u = true

theorem drawF_row {n : Nat} {all : List Oper} {call : Call} {s' : Fr} (e : (drawF E n all).v call s h = .ok s' h') :
    ∃ S M U, S 0 = s ∧ M 0 = h ∧ S all.length = s' ∧ M all.length = h' ∧ Row E n all call S M U := by
  unfold drawF at e
  rw [Box.use_v] at e
  cases hok : okDraw all (masks all) with
  | false => simp only [hok] at e; cases e
  | true =>
    simp only [hok, cond_true, Box.use_v] at e
    obtain ⟨S, M, U, L, h1, h2, h3, h4, hrun, hk, hL, _⟩ := runD_row all 0 (fun i => by simp) _ _ _ _ _ _ e
    rw [Nat.zero_add] at h3 h4
    refine ⟨S, M, U, h1, h2, h3, h4, hok, fun i hi => hrun i (Nat.zero_le _) (by omega), fun i o c ho hr hc => ?_⟩
    have hi : i < all.length := (List.getElem?_eq_some_iff.1 ho).1
    have hcl : c ≤ all.length := by
      unfold elsewhere at hc
      have := List.mem_range.1 (List.mem_filter.1 hc).1
      omega
    have ht := triesF_ok _ hk (i, c) (by have := triesL_mem (all := all) (ms := masks all) all 0 i o c ho hr (by simpa using hc); simpa using this)
    unfold tryD at ht
    simp only [ho, Box.use_v] at ht
    have l1 := hL i (Nat.zero_le _) (by omega)
    have l2 := hL c (Nat.zero_le _) (by omega)
    rw [Nat.zero_add] at l1 l2
    rw [l1, l2] at ht
    dsimp only at ht
    split at ht
    · rename_i v k hv
      split at ht
      · rename_i u k' hu
        obtain ⟨p, _, hrr, _⟩ := hrun i (Nat.zero_le _) (by omega) o ho
        rw [hrr] at hv
        cases hv
        exact ⟨_, u, k', hrr, hu, ht⟩
      · cases ht
    · cases ht
theorem Row.next {n : Nat} {all : List Oper} {call : Call} {S : Nat → Fr} {M : Nat → H} {U : Nat → V} (R : Row E n all call S M U) : ∀ (j : Nat), j ≤ all.length → ∀ i, i ≤ j → (M i).next ≤ (M j).next
  | 0, _, i, hi => by have : i = 0 := by omega
                      subst this; exact Nat.le_refl _
  | j + 1, hj, i, hi => by
    by_cases hij : i = j + 1
    · subst hij; exact Nat.le_refl _
    · obtain ⟨p, _, _, _, h4⟩ := R.run j (by omega) all[j] (by simp)
      exact Nat.le_trans (Row.next R j (by omega) i (by omega)) h4
theorem drawF_next {n : Nat} {all : List Oper} {call : Call} {s' : Fr} (e : (drawF E n all).v call s h = .ok s' h') : h.next ≤ h'.next := by
  obtain ⟨S, M, U, _, rfl, _, rfl, R⟩ := drawF_row e
  exact R.next _ (Nat.le_refl _) 0 (Nat.zero_le _)
end
end Go.Proofs.YtjpkfdmjhgnmbaaGreat.Gv
