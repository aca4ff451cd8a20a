/- Regions that draw their order: the checks by bit masks are the checks pair by pair. -/
import Derived.Test.YtmfmjhklajmhoaaGreatGvRegt
import Derived.Orders
namespace Go.Proofs.YtmfmjhklajmhoaaGreat.Gv
open Go
theorem onAll_ok {f : Nat → Oper → Bool} : ∀ {l : List Oper} {i : Nat}, onAll f i l = true → ∀ (k : Nat) (o : Oper), l[k]? = some o → f (i + k) o = true
 | [], i, _, k, o, h => by simp at h
 | x :: l, i, e, k, o, h => by
   unfold onAll at e
   rw [Bool.and_eq_true] at e
   cases k with
   | zero => simp at h; subst h; exact e.1
   | succ k =>
     have := onAll_ok e.2 k o (by simpa using h)
     rw [show i + (k + 1) = i + 1 + k from by omega]
     exact this
theorem onAll_mk {f : Nat → Oper → Bool} : ∀ {l : List Oper} {i : Nat}, (∀ (k : Nat) (o : Oper), l[k]? = some o → f (i + k) o = true) → onAll f i l = true
 | [], i, _ => rfl
 | x :: l, i, h => by
   unfold onAll
   rw [Bool.and_eq_true]
   refine ⟨by have := h 0 x (by simp); simpa using this, onAll_mk fun k o hk => ?_⟩
   have := h (k + 1) o (by simpa using hk)
   rw [show i + (k + 1) = i + 1 + k from by omega] at this
   exact this
theorem tb_eq (m i : Nat) : tb m i = Nat.testBit m i := by
 rw [tb, nbeq, Nat.testBit]
 show decide ((m >>> i) &&& 1 = 1) = (1 &&& (m >>> i) != 0)
 rw [Nat.and_comm 1, Nat.and_one_is_mod]
 rcases Nat.mod_two_eq_zero_or_one (m >>> i) with h | h <;> rw [h] <;> rfl
theorem tb_or (m n i : Nat) : tb (Nat.lor m n) i = (tb m i || tb n i) := by
 rw [tb_eq, tb_eq, tb_eq]; exact Nat.testBit_or m n i
theorem tb_one (j i : Nat) : tb (Nat.shiftLeft 1 j) i = decide (j = i) := by
 rw [tb_eq]; show Nat.testBit (1 <<< j) i = _
 rw [Nat.one_shiftLeft, Nat.testBit_two_pow]
theorem dsts_ok : ∀ {l : List Oper} {acc : Nat}, dstsB l acc = true → (∀ (i : Nat) (q : Oper) (t : Nat), l[i]? = some q → q.dst = some t → tb acc t = false) ∧
 ∀ (i j : Nat) (q o : Oper) (t : Nat), l[i]? = some q → l[j]? = some o → q.dst = some t → o.dst = some t → i = j
 | [], acc, _ => ⟨fun i q t h => by simp at h, fun i j q o t h => by simp at h⟩
 | o :: l, acc, h => by
   rw [dstsB] at h
   cases hd : o.dst with
   | none =>
     rw [hd] at h
     obtain ⟨a, b⟩ := dsts_ok (show dstsB l acc = true from h)
     refine ⟨fun i q t hi ht => ?_, fun i j q r t hi hj hq hr => ?_⟩
     · cases i with
       | zero => simp at hi; subst hi; rw [hd] at ht; cases ht
       | succ i => exact a i q t (by simpa using hi) ht
     · cases i with
       | zero => simp at hi; subst hi; rw [hd] at hq; cases hq
       | succ i => cases j with
         | zero => simp at hj; subst hj; rw [hd] at hr; cases hr
         | succ j => rw [b i j q r t (by simpa using hi) (by simpa using hj) hq hr]
   | some u =>
     rw [hd] at h
     cases hu : tb acc u with
     | true => simp [hu] at h
     | false =>
       simp only [hu, cond_false] at h
       obtain ⟨a, b⟩ := dsts_ok h
       have a' : ∀ (i : Nat) (q : Oper) (t : Nat), l[i]? = some q → q.dst = some t → tb acc t = false ∧ t ≠ u := by
        intro i q t hi ht
        have := a i q t hi ht
        rw [tb_or, tb_one, Bool.or_eq_false_iff] at this
        exact ⟨this.1, by have := this.2; simp at this; omega⟩
       refine ⟨fun i q t hi ht => ?_, fun i j q r t hi hj hq hr => ?_⟩
       · cases i with
         | zero => simp at hi; subst hi; rw [hd] at ht; cases ht; exact hu
         | succ i => exact (a' i q t (by simpa using hi) ht).1
       · cases i with
         | zero =>
           simp at hi; subst hi; rw [hd] at hq; cases hq
           cases j with
           | zero => rfl
           | succ j => exact absurd rfl (a' j r _ (by simpa using hj) hr).2
         | succ i => cases j with
           | zero => simp at hj; subst hj; rw [hd] at hr; cases hr; exact absurd rfl (a' i q _ (by simpa using hi) hq).2
           | succ j => rw [b i j q r t (by simpa using hi) (by simpa using hj) hq hr]
theorem who_ok (t : Nat) : ∀ {l : List Oper} {i0 k : Nat} {q : Oper}, l[k]? = some q → q.dst = some t → ∃ i r, whoB t i0 l = some (i0 + i) ∧ l[i]? = some r ∧ r.dst = some t
 | [], i0, k, q, h, _ => by simp at h
 | o :: l, i0, k, q, h, hq => by
   rw [whoB]
   have next : (o.dst ≠ some t) → ∃ i r, whoB t (i0 + 1) l = some (i0 + i) ∧ (o :: l)[i]? = some r ∧ r.dst = some t := by
    intro hne
    cases k with
    | zero => simp at h; subst h; exact absurd hq hne
    | succ k =>
      obtain ⟨i, r, e, hi, hr⟩ := who_ok t (i0 := i0 + 1) (k := k) (q := q) (by simpa using h) hq
      exact ⟨i + 1, r, by rw [e]; congr 1; omega, by simpa using hi, hr⟩
   cases hd : o.dst with
   | none => exact next (by rw [hd]; simp)
   | some u =>
     by_cases hu : u = t
     · subst hu
       refine ⟨0, o, ?_, by simp, hd⟩
       show (bif Nat.beq u u then some i0 else whoB u (i0 + 1) l) = some i0
       rw [nbeq, decide_eq_true rfl]; rfl
     · simp only [nbeq, decide_eq_false hu, cond_false]
       exact next (by rw [hd]; intro e; cases e; exact hu rfl)
theorem land_sub {L m : Nat} (h : Nat.beq (Nat.land L m) L = true) (i : Nat) (hi : tb L i = true) : tb m i = true := by
 rw [nbeq, decide_eq_true_eq] at h
 rw [tb_eq] at hi ⊢
 have h2 : Nat.testBit (L &&& m) i = Nat.testBit L i := congrArg (fun x => Nat.testBit x i) h
 rw [Nat.testBit_and, hi, Bool.true_and] at h2
 exact h2
theorem go_ok {all : List Oper} {ms0 : List Nat} : ∀ {l : List Oper} {ms : List Nat} {j L : Nat}, goB all ms0 j L l ms = true → ∀ (k : Nat) (o : Oper), l[k]? = some o →
 (okAfter ms0 (j + k) o = true ∧ notSel o = true ∧ looksB all ms0 (j + k) o = true) ∧
 (isLoud o = true → ∃ m, ms[k]? = some m ∧ (∀ i, tb L i = true → tb m i = true) ∧ ∀ k' o', k' < k → l[k']? = some o' → isLoud o' = true → tb m (j + k') = true)
 | [], _, _, _, _, k, o, hk => by simp at hk
 | _ :: _, [], _, _, h, _, _, _ => by simp [goB] at h
 | o :: l, m :: ms, j, L, h, k, r, hk => by
   simp only [goB, Bool.and_eq_true] at h
   obtain ⟨⟨⟨h1, h2⟩, h3⟩, h4⟩ := h
   cases hl : isLoud o with
   | true =>
     simp only [hl, cond_true, Bool.and_eq_true] at h4
     cases k with
     | zero =>
       simp at hk; subst hk
       exact ⟨⟨h1, h2, h3⟩, fun _ => ⟨m, by simp, land_sub h4.1, fun k' o' hk' => absurd hk' (Nat.not_lt_zero _)⟩⟩
     | succ k =>
       obtain ⟨a, b⟩ := go_ok h4.2 k r (by simpa using hk)
       rw [show j + (k + 1) = j + 1 + k from by omega]
       refine ⟨a, fun hr => ?_⟩
       obtain ⟨m', hm, c, d⟩ := b hr
       refine ⟨m', by simpa using hm, fun i hi => c i (by rw [tb_or, hi, Bool.true_or]), fun k' o' hk' ho' hl' => ?_⟩
       cases k' with
       | zero => exact c j (by rw [tb_or, tb_one, decide_eq_true rfl, Bool.or_true])
       | succ k' => rw [show j + (k' + 1) = j + 1 + k' from by omega]; exact d k' o' (by omega) (by simpa using ho') hl'
   | false =>
     simp only [hl, cond_false] at h4
     cases k with
     | zero =>
       simp at hk; subst hk
       exact ⟨⟨h1, h2, h3⟩, fun hr => by rw [hl] at hr; cases hr⟩
     | succ k =>
       obtain ⟨a, b⟩ := go_ok h4 k r (by simpa using hk)
       rw [show j + (k + 1) = j + 1 + k from by omega]
       refine ⟨a, fun hr => ?_⟩
       obtain ⟨m', hm, c, d⟩ := b hr
       refine ⟨m', by simpa using hm, c, fun k' o' hk' ho' hl' => ?_⟩
       cases k' with
       | zero => simp at ho'; subst ho'; rw [hl] at hl'; cases hl'
       | succ k' => rw [show j + (k' + 1) = j + 1 + k' from by omega]; exact d k' o' (by omega) (by simpa using ho') hl'
theorem okDrawB_ok {all : List Oper} {ms : List Nat} (h : okDrawB all ms = true) : okDraw all ms = true := by
 rw [okDrawB, Bool.and_eq_true] at h
 have hd := (dsts_ok h.1).2
 refine onAll_mk fun j o ho => ?_
 obtain ⟨⟨h1, h2, h3⟩, h4⟩ := go_ok h.2 j o ho
 rw [Nat.zero_add] at h1 h3 ⊢
 rw [h1, h2, Bool.true_and, Bool.true_and]
 refine onAll_mk fun i q hq => ?_
 rw [Nat.zero_add, okPair, nbeq]
 by_cases hij : i = j
 · rw [decide_eq_true hij]; rfl
 · rw [decide_eq_false hij, Bool.false_or, Bool.and_eq_true]
   constructor
   · cases ht : q.dst with
     | none => rfl
     | some t =>
       rw [Bool.and_eq_true]
       constructor
       · by_cases hm : t ∈ looksL all o
         · rw [looksB, List.all_eq_true] at h3
           have h5 := h3 t hm
           obtain ⟨i', r, e, hr, hrt⟩ := who_ok t (i0 := 0) hq ht
           have : i' = i := hd i' i r q t hr hq hrt ht
           subst this
           rw [e] at h5
           simp only [Nat.zero_add, nbeq, decide_eq_false hij, Bool.false_or] at h5
           rw [h5, Bool.true_or]
         · rw [show (looksL all o).elem t = false from by rw [← Bool.not_eq_true]; intro x; exact hm (List.elem_iff.1 x)]
           simp
       · cases hu : o.dst with
         | none => rfl
         | some u =>
           show (!Nat.beq u t) = true
           rw [nbeq]
           by_cases hut : u = t
           · subst hut; exact absurd (hd i j q o u hq ho ht hu) hij
           · rw [decide_eq_false hut]; rfl
   · cases hc : (Nat.blt i j && isLoud q && isLoud o) with
     | false => rfl
     | true =>
       simp only [Bool.and_eq_true, nblt, decide_eq_true_eq] at hc
       obtain ⟨m, hm, _, c⟩ := h4 hc.2
       have := c i q hc.1.1 hq hc.1.2
       rw [Nat.zero_add, tb_eq] at this
       rw [pre, List.getD_eq_getElem?_getD, hm]
       simpa using this
end Go.Proofs.YtmfmjhklajmhoaaGreat.Gv
namespace Go.Proofs.YtmfmjhklajmhoaaGreat.Gv
open Go
section
variable {E : Env} {P : Program} {G : Gh} {φ : Mp} {h h' : H} {w : World} {s : Fr} {a : Act} {v : V} {o : Oper}
theorem runD_nil {n : Nat} {all : List Oper} {ms : List Nat} {j : Nat} {call : Call} {tr : List (Fr × H)} {k : List (Fr × H) → Bool} :
 (runD E n all ms [] j).v call s h tr k = (bif k ((s, h) :: tr) then .ok s h else .bad "draw: another order" 0) := rfl
theorem runD_cons {n : Nat} {all : List Oper} {ms : List Nat} {j : Nat} {l : List Oper} : runD E n all ms (o :: l) j = (runD E n all ms l (j + 1)).use (fun r => match putD n o.dst with
 | none => ⟨fun _ _ _ _ _ => .bad "dst" 0⟩
 | some p => p.use fun p => (drawOp E all ms j o).use fun b => ⟨fun call s h tr k => match b call s h with
   | .ok v h' => bif Nat.ble h.next h'.next then r call (p v s) h' ((s, h) :: tr) k else .bad "next" 0
   | .bad w n => .bad w n⟩ : (Call → Fr → H → List (Fr × H) → (List (Fr × H) → Bool) → RS) → Box (Call → Fr → H → List (Fr × H) → (List (Fr × H) → Bool) → RS)) := rfl
def upd {α : Type} (f : Nat → α) (j : Nat) (x : α) (i : Nat) : α := if i = j then x else f i
theorem upd_self {α : Type} (f : Nat → α) (j : Nat) (x : α) : upd f j x j = x := if_pos rfl
theorem upd_other {α : Type} (f : Nat → α) {j i : Nat} (x : α) (h : i ≠ j) : upd f j x i = f i := if_neg h
def RunAt (E : Env) (n : Nat) (all : List Oper) (ms : List Nat) (call : Call) (S : Nat → Fr) (M : Nat → H) (U : Nat → V) (i : Nat) : Prop :=
 ∀ o, all[i]? = some o → ∃ p, putD n o.dst = some p ∧ (drawOp E all ms i o).v call (S i) (M i) = .ok (U i) (M (i + 1)) ∧ S (i + 1) = p.v (U i) (S i) ∧ (M i).next ≤ (M (i + 1)).next
theorem runD_row {n : Nat} {all : List Oper} {ms : List Nat} {call : Call} : ∀ (l : List Oper) (j : Nat), (∀ i, l[i]? = all[j + i]?) → ∀ (s : Fr) (h : H) (tr : List (Fr × H)) (k : List (Fr × H) → Bool) (s' : Fr) (h' : H),
 (runD E n all ms l j).v call s h tr k = .ok s' h' → ∃ (S : Nat → Fr) (M : Nat → H) (U : Nat → V) (L : List (Fr × H)), S j = s ∧ M j = h ∧ S (j + l.length) = s' ∧ M (j + l.length) = h' ∧
  (∀ i, j ≤ i → i < j + l.length → RunAt E n all ms call S M U i) ∧ k L = true ∧ (∀ i, j ≤ i → i ≤ j + l.length → L[j + l.length - i]? = some (S i, M i)) ∧ (∀ x, L[l.length + 1 + x]? = tr[x]?)
 | [], j, hl, s, h, tr, k, s2, h2, e => by
   rw [runD_nil] at e
   cases hk : k ((s, h) :: tr) with
   | false => rw [hk] at e; cases e
   | true =>
     rw [hk] at e
     cases e
     refine ⟨fun _ => s, fun _ => h, fun _ => .undef, (s, h) :: tr, rfl, rfl, rfl, rfl, fun i h1 h2 => ?_, hk, fun i h1 h2 => ?_, fun x => ?_⟩
     · simp at h2; omega
     · simp at h2
       have : i = j := by omega
       subst this
       simp
     · simp [Nat.add_comm 1 x]
 | o :: l, j, hl, s, h, tr, k, s', h', e => by
   have ho : all[j]? = some o := by have := hl 0; simp at this; exact this.symm
   have hl' : ∀ i, l[i]? = all[j + 1 + i]? := fun i => by
    have := hl (i + 1)
    rw [List.getElem?_cons_succ] at this
    rw [this]
    congr 1
    omega
   rw [runD_cons, Box.use_v] at e
   split at e
   · cases e
   · rename_i p hp
     rw [Box.use_v, Box.use_v] at e
     dsimp only at e
     split at e
     · rename_i v1 h1 hr
       cases hn : Nat.ble h.next h1.next with
       | false => rw [hn] at e; cases e
       | true =>
         rw [hn, cond_true] at e
         rw [nble, decide_eq_true_eq] at hn
         obtain ⟨S, M, U, L, hS, hM, hS', hM', hrun, hk, hL, hT⟩ := runD_row l (j + 1) hl' _ _ _ _ _ _ e
         have hne : ∀ i, j + 1 ≤ i → i ≠ j := fun i hi => by omega
         refine ⟨upd S j s, upd M j h, upd U j v1, L, upd_self _ _ _, upd_self _ _ _, ?_, ?_, ?_, hk, ?_, ?_⟩
         · simp only [List.length_cons]
           rw [upd_other _ _ (by omega), show j + (l.length + 1) = j + 1 + l.length from by omega]
           exact hS'
         · simp only [List.length_cons]
           rw [upd_other _ _ (by omega), show j + (l.length + 1) = j + 1 + l.length from by omega]
           exact hM'
         · intro i h1i h2i
           simp only [List.length_cons] at h2i
           by_cases hij : i = j
           · subst hij
             intro o' ho'
             rw [ho] at ho'
             cases ho'
             refine ⟨p, hp, ?_, ?_, ?_⟩
             · rw [upd_self, upd_self, upd_self, upd_other _ _ (hne (i + 1) (Nat.le_refl _))]
               rw [hr, hM]
             · rw [upd_other _ _ (hne (i + 1) (Nat.le_refl _)), upd_self, upd_self]
               exact hS
             · rw [upd_self, upd_other _ _ (hne (i + 1) (Nat.le_refl _))]
               rw [hM]; exact hn
           · have := hrun i (by omega) (by omega)
             intro o' ho'
             obtain ⟨p', a1, a2, a3, a4⟩ := this o' ho'
             refine ⟨p', a1, ?_, ?_, ?_⟩
             · simp only [upd_other _ _ hij, upd_other _ _ (hne (i + 1) (by omega))]; exact a2
             · simp only [upd_other _ _ hij, upd_other _ _ (hne (i + 1) (by omega))]; exact a3
             · simp only [upd_other _ _ hij, upd_other _ _ (hne (i + 1) (by omega))]; exact a4
         · intro i h1i h2i
           simp only [List.length_cons] at h2i ⊢
           by_cases hij : i = j
           · subst hij
             rw [upd_self, upd_self]
             have := hT 0
             rw [show i + (l.length + 1) - i = l.length + 1 + 0 from by omega, this]
             rfl
           · rw [upd_other _ _ hij, upd_other _ _ hij]
             have := hL i (by omega) (by omega)
             rw [show j + (l.length + 1) - i = j + 1 + l.length - i from by omega]
             exact this
         · intro x
           simp only [List.length_cons]
           rw [show l.length + 1 + 1 + x = l.length + 1 + (x + 1) from by omega, hT (x + 1)]
           rfl
     · cases e
theorem triesF_cons {all : List Oper} {ms : List Nat} {p : Nat × Nat} {l : List (Nat × Nat)} {call : Call} {tr : List (Fr × H)} :
 (triesF E all ms (p :: l)).v call tr = (bif (tryD E all ms p.1 p.2).v call tr then (triesF E all ms l).v call tr else false) := by
 show (((triesF E all ms l).use fun r => (tryD E all ms p.1 p.2).use fun t => ⟨fun call tr => bif t call tr then r call tr else false⟩ : Box (Call → List (Fr × H) → Bool))).v call tr = _
 rw [Box.use_v, Box.use_v]
theorem triesF_ok {all : List Oper} {ms : List Nat} {call : Call} {tr : List (Fr × H)} : ∀ (l : List (Nat × Nat)), (triesF E all ms l).v call tr = true → ∀ p ∈ l, (tryD E all ms p.1 p.2).v call tr = true
 | [], _, p, hp => by cases hp
 | q :: l, e, p, hp => by
   rw [triesF_cons] at e
   cases hq : (tryD E all ms q.1 q.2).v call tr with
   | false => rw [hq] at e; cases e
   | true =>
     rw [hq, cond_true] at e
     cases hp with
     | head => exact hq
     | tail _ hp => exact triesF_ok l e p hp
theorem triesL_mem {all : List Oper} {ms : List Nat} : ∀ (l : List Oper) (j i : Nat) (o : Oper) (c : Nat), l[i]? = some o → isRead o = true → c ∈ elsewhere all ms (j + i) → (j + i, c) ∈ triesL all ms j l
 | [], j, i, o, c, hl, _, _ => by simp at hl
 | q :: l, j, i, o, c, hl, hr, hc => by
   unfold triesL
   rw [List.mem_append]
   cases i with
   | zero =>
     simp at hl
     subst hl
     left
     rw [if_pos hr]
     exact List.mem_map.2 ⟨c, hc, rfl⟩
   | succ i =>
     right
     have := triesL_mem (all := all) (ms := ms) l (j + 1) i o c (by simpa using hl) hr (by rw [show j + 1 + i = j + (i + 1) from by omega]; exact hc)
     rw [show j + (i + 1) = j + 1 + i from by omega]
     exact this
structure Row (E : Env) (n : Nat) (all : List Oper) (call : Call) (S : Nat → Fr) (M : Nat → H) (U : Nat → V) : Prop where
 ok : okDraw all (masks all) = true
 run : ∀ i, i < all.length → RunAt E n all (masks all) call S M U i
 tries : ∀ (i : Nat) (o : Oper) (c : Nat), all[i]? = some o → isRead o = true → c ∈ elsewhere all (masks all) i → ∃ k u k', (drawOp E all (masks all) i o).v call (S i) (M i) = .ok (U i) k ∧
  (drawOp E all (masks all) i o).v call (S i) (M c) = .ok u k' ∧ sameV (U i) u = true
theorem drawF_row {n : Nat} {all : List Oper} {call : Call} {s' : Fr} (e : (drawF E n all).v call s h = .ok s' h') :
 ∃ S M U, S 0 = s ∧ M 0 = h ∧ S all.length = s' ∧ M all.length = h' ∧ Row E n all call S M U := by
 unfold drawF at e
 rw [Box.use_v] at e
 cases hok : okDrawB all (masks all) with
 | false => simp only [hok] at e; cases e
 | true =>
   simp only [hok, cond_true, Box.use_v] at e
   obtain ⟨S, M, U, L, h1, h2, h3, h4, hrun, hk, hL, _⟩ := runD_row all 0 (fun i => by simp) _ _ _ _ _ _ e
   rw [Nat.zero_add] at h3 h4
   refine ⟨S, M, U, h1, h2, h3, h4, okDrawB_ok hok, fun i hi => hrun i (Nat.zero_le _) (by omega), fun i o c ho hr hc => ?_⟩
   have hi : i < all.length := (List.getElem?_eq_some_iff.1 ho).1
   have hcl : c ≤ all.length := by
    unfold elsewhere at hc
    have := List.mem_range.1 (List.mem_filter.1 hc).1
    omega
   have ht := triesF_ok _ hk (i, c) (by have := triesL_mem (all := all) (ms := masks all) all 0 i o c ho hr (by simpa using hc); simpa using this)
   unfold tryD at ht
   simp only [ho, Box.use_v] at ht
   have l1 := hL i (Nat.zero_le _) (by omega)
   have l2 := hL c (Nat.zero_le _) (by omega)
   rw [Nat.zero_add] at l1 l2
   rw [l1, l2] at ht
   dsimp only at ht
   split at ht
   · rename_i v k hv
     split at ht
     · rename_i u k' hu
       obtain ⟨p, _, hrr, _⟩ := hrun i (Nat.zero_le _) (by omega) o ho
       rw [hrr] at hv
       cases hv
       exact ⟨_, u, k', hrr, hu, ht⟩
     · cases ht
   · cases ht
theorem Row.next {n : Nat} {all : List Oper} {call : Call} {S : Nat → Fr} {M : Nat → H} {U : Nat → V} (R : Row E n all call S M U) : ∀ (j : Nat), j ≤ all.length → ∀ i, i ≤ j → (M i).next ≤ (M j).next
 | 0, _, i, hi => by have : i = 0 := by omega
                     subst this; exact Nat.le_refl _
 | j + 1, hj, i, hi => by
   by_cases hij : i = j + 1
   · subst hij; exact Nat.le_refl _
   · obtain ⟨p, _, _, _, h4⟩ := R.run j (by omega) all[j] (by simp)
     exact Nat.le_trans (Row.next R j (by omega) i (by omega)) h4
theorem drawF_next {n : Nat} {all : List Oper} {call : Call} {s' : Fr} (e : (drawF E n all).v call s h = .ok s' h') : h.next ≤ h'.next := by
 obtain ⟨S, M, U, _, rfl, _, rfl, R⟩ := drawF_row e
 exact R.next _ (Nat.le_refl _) 0 (Nat.zero_le _)
end
end Go.Proofs.YtmfmjhklajmhoaaGreat.Gv
namespace Go.Proofs.YtmfmjhklajmhoaaGreat.Gv
open Go
theorem orE_bit (ms : List Nat) (k : Nat) : ∀ (l : List Edge), Nat.testBit (orE ms l) k = true ↔ ∃ e ∈ l, Region.binds .any e = true ∧ (k = e.on ∨ Nat.testBit (ms.getD e.on 0) k = true)
 | [] => by simp [orE]
 | e :: l => by
   have ih := orE_bit ms k l
   unfold orE
   by_cases hb : Region.binds .any e = true
   · rw [if_pos hb]
     have h1 : Nat.testBit (Nat.lor (Nat.lor (2 ^ e.on) (ms.getD e.on 0)) (orE ms l)) k = (decide (e.on = k) || Nat.testBit (ms.getD e.on 0) k || Nat.testBit (orE ms l) k) := by
      show Nat.testBit ((2 ^ e.on ||| ms.getD e.on 0) ||| orE ms l) k = _
      rw [Nat.testBit_or, Nat.testBit_or, Nat.testBit_two_pow]
     rw [h1]
     simp only [Bool.or_eq_true, decide_eq_true_eq, ih, List.mem_cons]
     constructor
     · rintro ((h | h) | ⟨e', he', hb', h⟩)
       · exact ⟨e, .inl rfl, hb, .inl h.symm⟩
       · exact ⟨e, .inl rfl, hb, .inr h⟩
       · exact ⟨e', .inr he', hb', h⟩
     · rintro ⟨e', rfl | he', hb', h⟩
       · rcases h with h | h
         · exact .inl (.inl h.symm)
         · exact .inl (.inr h)
       · exact .inr ⟨e', he', hb', h⟩
   · rw [if_neg hb, ih]
     constructor
     · rintro ⟨e', he', h⟩; exact ⟨e', List.mem_cons_of_mem _ he', h⟩
     · rintro ⟨e', he', hb', h⟩
       rcases List.mem_cons.1 he' with rfl | he'
       · exact absurd hb' hb
       · exact ⟨e', he', hb', h⟩
section
variable {all : List Oper} {ms : List Nat}
theorem okDraw_at (h : okDraw all ms = true) {j : Nat} {o : Oper} (ho : all[j]? = some o) : orE ms o.after.toList = ms.getD j 0 ∧ (∀ e ∈ o.after.toList, Region.binds .any e = true → e.on < j) ∧ notSel o = true ∧
 ∀ (i : Nat) (q : Oper), all[i]? = some q → okPair all ms i q j o = true := by
 have h1 := onAll_ok h j o ho
 rw [Nat.zero_add, Bool.and_eq_true, Bool.and_eq_true] at h1
 obtain ⟨⟨h2, h3⟩, h4⟩ := h1
 unfold okAfter at h2
 rw [Bool.and_eq_true, nbeq, decide_eq_true_eq] at h2
 refine ⟨h2.1, fun e he hb => ?_, h3, fun i q hq => ?_⟩
 · have := List.all_eq_true.1 h2.2 e he
   rw [hb, nblt] at this
   simpa using this
 · have := onAll_ok h4 i q hq
   rwa [Nat.zero_add] at this
theorem pre_iff (h : okDraw all ms = true) {i j : Nat} {o : Oper} (ho : all[j]? = some o) : pre ms i j = true ↔ ∃ e ∈ o.after.toList, Region.binds .any e = true ∧ (i = e.on ∨ pre ms i e.on = true) := by
 unfold pre
 rw [← (okDraw_at h ho).1]
 exact orE_bit ms i o.after.toList
theorem pre_lt (h : okDraw all ms = true) {i : Nat} : ∀ (j : Nat), j < all.length → pre ms i j = true → i < j := by
 intro j
 induction j using Nat.strongRecOn with
 | _ j ih =>
   intro hj hp
   have ho : all[j]? = some all[j] := by simp
   obtain ⟨e, he, hb, hx⟩ := (pre_iff h ho).1 hp
   have hlt := (okDraw_at h ho).2.1 e he hb
   rcases hx with rfl | hx
   · exact hlt
   · have := ih e.on hlt (by omega) hx
     omega
theorem okDraw_pair (h : okDraw all ms = true) {i j : Nat} {q o : Oper} (hq : all[i]? = some q) (ho : all[j]? = some o) (hne : i ≠ j) :
 (∀ t, q.dst = some t → (pre ms i j = true ∨ pre ms j i = true ∨ t ∉ looksL all o) ∧ o.dst ≠ some t) ∧ (i < j → isLoud q = true → isLoud o = true → pre ms i j = true) := by
 have hp := (okDraw_at h ho).2.2.2 i q hq
 unfold okPair at hp
 rw [nbeq, decide_eq_false hne, Bool.false_or, Bool.and_eq_true] at hp
 refine ⟨fun t ht => ?_, fun hij h1 h2 => ?_⟩
 · have h1 := hp.1
   rw [ht] at h1
   simp only [Bool.and_eq_true, Bool.or_eq_true, Bool.not_eq_true'] at h1
   refine ⟨?_, fun hd => ?_⟩
   · rcases h1.1 with (h1 | h1) | h1
     · exact .inl h1
     · exact .inr (.inl h1)
     · refine .inr (.inr fun hm => ?_)
       have := List.elem_eq_true_of_mem hm
       rw [this] at h1
       cases h1
   · have h2 := h1.2
     rw [hd] at h2
     simp at h2
 · have h3 := hp.2
   rw [nblt, decide_eq_true hij, h1, h2] at h3
   simpa using h3
theorem Row.get {E : Env} {n : Nat} {call : Call} {S : Nat → Fr} {M : Nat → H} {U : Nat → V} (R : Row E n all call S M U) {t : Nat} (ht : t < 4096) : ∀ (i : Nat), i ≤ all.length →
 (∃ q o, q < i ∧ all[q]? = some o ∧ o.dst = some t ∧ (Fr.get t).v (S i) = U q) ∨ ((∀ q o, q < i → all[q]? = some o → o.dst ≠ some t) ∧ (Fr.get t).v (S i) = (Fr.get t).v (S 0))
 | 0, _ => .inr ⟨fun q o hq => absurd hq (Nat.not_lt_zero _), rfl⟩
 | i + 1, hi => by
   have ho : all[i]? = some all[i] := by simp
   obtain ⟨p, hp, _, hS, _⟩ := R.run i (by omega) all[i] ho
   cases hd : all[i].dst with
   | none =>
     rw [hd] at hp
     cases hp
     have hS' : S (i + 1) = S i := hS
     rw [hS']
     rcases Row.get R ht i (by omega) with ⟨q, o, h1, h2, h3, h4⟩ | ⟨h1, h2⟩
     · exact .inl ⟨q, o, by omega, h2, h3, h4⟩
     · refine .inr ⟨fun q o hq hoq => ?_, h2⟩
       by_cases hqi : q = i
       · subst hqi; rw [ho] at hoq; cases hoq; rw [hd]; simp
       · exact h1 q o (by omega) hoq
   | some d =>
     rw [hd] at hp
     unfold putD at hp
     cases hb : (Nat.blt d n && Nat.blt d 4096) with
     | false => simp only [hb] at hp; cases hp
     | true =>
       simp only [hb, cond_true] at hp
       cases hp
       rw [Bool.and_eq_true, nblt, nblt, decide_eq_true_eq, decide_eq_true_eq] at hb
       rw [hS, Fr.get_set _ _ hb.2 ht]
       by_cases htd : t = d
       · subst htd
         rw [if_pos rfl]
         exact .inl ⟨i, all[i], by omega, ho, hd, rfl⟩
       · rw [if_neg htd]
         rcases Row.get R ht i (by omega) with ⟨q, o, h1, h2, h3, h4⟩ | ⟨h1, h2⟩
         · exact .inl ⟨q, o, by omega, h2, h3, h4⟩
         · refine .inr ⟨fun q o hq hoq => ?_, h2⟩
           by_cases hqi : q = i
           · subst hqi; rw [ho] at hoq; cases hoq; rw [hd]; simp; exact fun e => htd e.symm
           · exact h1 q o (by omega) hoq
end
end Go.Proofs.YtmfmjhklajmhoaaGreat.Gv
namespace Go.Proofs.YtmfmjhklajmhoaaGreat.Gv
open Go
section
variable {E : Env} {P : Program} {G : Gh} {φ : Mp} {h h' : H} {w : World} {s : Fr} {a : Act} {v : V} {o : Oper}
theorem pickF_cons (t : Nat) (ts : List Nat) : (pickF (t :: ts)).v s = (Fr.set t).v ((Fr.get t).v s) ((pickF ts).v s) := by
 show ((pickF ts).use fun k => (Fr.get t).use fun g => (Fr.set t).use fun p => (⟨fun s => p (g s) (k s)⟩ : Box (Fr → Fr))).v s = _
 simp only [Box.use_v]
theorem pickF_get {t : Nat} (ht : t < 4096) : ∀ (ts : List Nat), (∀ x ∈ ts, x < 4096) → (Fr.get t).v ((pickF ts).v s) = if t ∈ ts then (Fr.get t).v s else .undef
 | [], _ => by rw [if_neg (by simp)]; exact Fr.get_new t ht
 | x :: ts, hts => by
   rw [pickF_cons, Fr.get_set _ _ (hts x (by simp)) ht]
   by_cases hx : t = x
   · subst hx; rw [if_pos rfl, if_pos (by simp)]
   · rw [if_neg hx, pickF_get ht ts (fun y hy => hts y (by simp [hy]))]
     by_cases hm : t ∈ ts
     · rw [if_pos hm, if_pos (by simp [hm])]
     · rw [if_neg hm, if_neg (by simp [hm, hx])]
def Looks (G : Gh) (φ : Mp) (s : Fr) (a : Act) (ts : List Nat) : Prop := ∀ t ∈ ts, t < 4096 → conc G φ ((Fr.get t).v s) = some (a.tmps.getD t undef)
theorem ofFn_get (m : Nat) (f : Nat → Value) {t : Nat} (ht : t < m) : (Array.ofFn (n := m) fun t => f t.1).getD t undef = f t := by
 simp [ht]
theorem pick_rel {ts : List Nat} (hts : ∀ x ∈ ts, x < 4096) (L : Looks G φ s a ts) : ∃ a' : Act, TRel G φ ((pickF ts).v s) a'.tmps ∧ ∀ t ∈ ts, a'.tmps.getD t undef = a.tmps.getD t undef := by
 obtain ⟨A, hget⟩ : ∃ A : Array Value, ∀ t, t < 4096 → A.getD t undef = if t ∈ ts then a.tmps.getD t undef else undef := ⟨_, fun t ht => ofFn_get 4096 _ ht⟩
 refine ⟨⟨A, []⟩, fun t ht => ?_, fun t hm => ?_⟩
 · rw [pickF_get ht ts hts]
   by_cases hm : t ∈ ts
   · rw [if_pos hm, (hget t ht).trans (if_pos hm)]; exact L t hm ht
   · rw [if_neg hm, (hget t ht).trans (if_neg hm), conc]; rfl
 · exact (hget t (hts t hm)).trans (if_pos hm)
theorem looks_tmp {all : List Oper} {t : Nat} (h : .tmp t ∈ o.op.operands) : t ∈ looksL all o := by
 refine List.mem_append_left _ (List.mem_filterMap.2 ⟨.tmp t, by simpa using h, rfl⟩)
theorem looks_lt {all : List Oper} (hc : o.op.operands.toList.all okOpn = true) : ∀ t ∈ looksL all o, t < 4096 := by
 intro t ht
 unfold looksL at ht
 rw [List.mem_append] at ht
 rcases ht with ht | ht
 · obtain ⟨x, hx, hxt⟩ := List.mem_filterMap.1 ht
   have := List.all_eq_true.1 hc x hx
   cases x with
   | tmp u =>
     simp at hxt
     subst hxt
     rw [okOpn, nblt, decide_eq_true_eq] at this
     exact this
   | _ => cases hxt
 · cases hg : o.guard with
   | none => rw [hg] at ht; cases ht
   | some gw =>
     rw [hg] at ht
     dsimp only at ht
     cases hd : dstOf all gw.1 with
     | none => rw [hd] at ht; cases ht
     | some d =>
       rw [hd] at ht
       simp at ht
       subst ht
       exact (dstOf_ok hd).1
theorem exec_pick {all : List Oper} (hs : notSel o = true) {a' : Act} (hc : ∀ t ∈ looksL all o, a'.tmps.getD t undef = a.tmps.getD t undef) : execOp a'.eval o = execOp a.eval o := by
 refine execOp_congr (ρ := a'.eval) (ρ' := a.eval) o (fun cs b e => ?_) (fun x hx => ?_)
 · unfold notSel at hs; rw [e] at hs; cases hs
 · cases x with
   | tmp t => exact hc t (looks_tmp hx)
   | _ => rfl
theorem stepF_opn {call : Call} (e : (stepF E o).v call s h = .ok v h') : o.op.operands.toList.all okOpn = true := by
 unfold stepF at e
 cases hc : o.op.operands.toList.all okOpn with
 | false => rw [hc] at e; cases e
 | true => rfl
theorem read_ok (ok : EnvOk E P G) {call : Call} (hr : isRead o = true) (T : TRel G φ s a.tmps) (r : HRel G φ h w) (e : (stepF E o).v call s h = .ok v h') :
 h' = h ∧ ∃ u, (execOp a.eval o).run P w = .ok (.value u) w ∧ conc G φ v = some u := by
 have hc := stepF_opn e
 unfold stepF at e
 rw [hc, cond_true] at e
 have e2 : (opF E o).v s h = .ok v h' := by
  unfold stepG at e
  cases ho : o.op with
  | call c => unfold isRead at hr; rw [ho] at hr; cases hr
  | _ => rw [ho] at e; simp only [Box.use_v] at e; exact e
 cases ho : o.op with
 | load t x =>
   rw [ho] at hc
   have hx : okOpn x = true := by simpa [Op.operands] using hc
   unfold opF at e2
   rw [ho] at e2
   simp only [ok.ty] at e2
   cases ht : (mkTI P t).has with
   | false => rw [ht] at e2; cases e2
   | true =>
     rw [ht] at e2
     simp only [Bool.not_true, cond_false, Box.use_v] at e2
     obtain ⟨b, p, hp, e3⟩ := onPtr_ok e2
     have hT := opn_ok T hx
     rw [hp] at hT
     obtain ⟨l, hl, hu⟩ := conc_ptr hT
     obtain ⟨h1, u, h2, h3⟩ := loadF_ok r ht hl e3
     refine ⟨h1, u, ?_, h3⟩
     simp [execOp, ho, Instr.loadAt, Instr.sureAddr, hu, h2]
 | lookup t x k c =>
   rw [ho] at hc
   simp [Op.operands] at hc
   exact lookup_ok ok ho hc.1 hc.2 T r e2
 | _ => unfold isRead at hr; rw [ho] at hr; cases hr
theorem body_loud (ok : EnvOk E P G) {call : Call} (ck : CallOk P G call) {all : List Oper} {ms : List Nat} {j : Nat} (hs : notSel o = true) (hl : isLoud o = true) (L : Looks G φ s a (looksL all o)) (r : HRel G φ h w) (hf : Free φ h.next h'.next)
 (e : (bodyD E all ms j o).v call s h = .ok v h') : Gives P (Post G φ h w v h') ((execOp a.eval o).run P w) := by
 unfold bodyD at e
 rw [hl] at e
 simp only [Box.use_v] at e
 have hc := stepF_opn e
 obtain ⟨a', T, ha⟩ := pick_rel (looks_lt hc) L
 have := step_ok ok ck T r hf e
 rwa [exec_pick hs ha] at this
theorem body_read (ok : EnvOk E P G) {call : Call} {all : List Oper} {ms : List Nat} {j : Nat} (hs : notSel o = true) (hl : isLoud o = false) (hr : isRead o = true) (L : Looks G φ s a (looksL all o)) (r : HRel G φ h w)
 (e : (bodyD E all ms j o).v call s h = .ok v h') : h' = h ∧ ∃ u, (execOp a.eval o).run P w = .ok (.value u) w ∧ conc G φ v = some u := by
 unfold bodyD at e
 rw [hl, hr] at e
 simp only [Box.use_v] at e
 unfold readD at e
 split at e
 · rename_i v1 h1 e1
   cases e
   have hc := stepF_opn e1
   obtain ⟨a', T, ha⟩ := pick_rel (looks_lt hc) L
   obtain ⟨_, u, h2, h3⟩ := read_ok ok hr T r e1
   rw [exec_pick hs ha] at h2
   exact ⟨rfl, u, h2, h3⟩
 · cases e
def Quiet (all : List Oper) (ms : List Nat) (j : Nat) (h h' : H) (h1 : H) : Prop :=
 (h1.next = h.next ∧ h' = h) ∨ (h1.next = h.next + 1 ∧ late all ms j = true ∧ h' = h.more h1)
theorem body_det (ok : EnvOk E P G) {call : Call} (ck : CallOk P G call) {all : List Oper} {ms : List Nat} {j : Nat} (hs : notSel o = true) (hl : isLoud o = false) (hr : isRead o = false) (e : (bodyD E all ms j o).v call s h = .ok v h') :
 ∃ h1, Quiet all ms j h h' h1 ∧ ∀ (φ : Mp) (a : Act) (w : World), Looks G φ s a (looksL all o) → Free φ h.next h1.next → Gives P (Post G φ ⟨.lf, h.next⟩ w v h1) ((execOp a.eval o).run P w) := by
 unfold bodyD at e
 rw [hl, hr] at e
 simp only [Box.use_v] at e
 have key : ∀ v1 h1, (stepF E o).v call ((pickF (looksL all o)).v s) ⟨.lf, h.next⟩ = .ok v1 h1 → ∀ (φ : Mp) (a : Act) (w : World), Looks G φ s a (looksL all o) → Free φ h.next h1.next → Gives P (Post G φ ⟨.lf, h.next⟩ w v1 h1) ((execOp a.eval o).run P w) := by
  intro v1 h1 e1 φ a w L hf
  have hc := stepF_opn e1
  have r0 : HRel G φ ⟨.lf, h.next⟩ w := ⟨fun b x l hb => (nomatch hb), fun b b' x x' l l' hb => (nomatch hb), fun b _ => rfl⟩
  obtain ⟨a', T, ha⟩ := pick_rel (looks_lt hc) L
  have := step_ok ok ck T r0 hf e1
  rwa [exec_pick hs ha] at this
 unfold detD at e
 split at e
 · rename_i v1 h1 e1
   have hk := key _ _ e1
   simp only [nbeq] at e
   by_cases h2 : h1.next = h.next
   · rw [decide_eq_true h2, cond_true] at e
     cases e
     exact ⟨h1, .inl ⟨h2, rfl⟩, hk⟩
   · rw [decide_eq_false h2, cond_false] at e
     cases hc : (late all ms j && decide (h1.next = h.next + 1)) with
     | false => rw [hc] at e; cases e
     | true =>
       rw [hc, cond_true] at e
       cases e
       rw [Bool.and_eq_true, decide_eq_true_eq] at hc
       exact ⟨h1, .inr ⟨hc.2, hc.1, rfl⟩, hk⟩
 · cases e
theorem drawOp_ok {call : Call} {all : List Oper} {ms : List Nat} {j : Nat} (L : Looks G φ s a (looksL all o)) (e : (drawOp E all ms j o).v call s h = .ok v h') :
 (Region.wanted o (yielded all.toArray a.tmps) = true ∧ (bodyD E all ms j o).v call s h = .ok v h') ∨ (Region.wanted o (yielded all.toArray a.tmps) = false ∧ v = .undef ∧ h' = h) := by
 unfold drawOp at e
 rw [Box.use_v] at e
 split at e
 · rename_i hg
   exact .inl ⟨by unfold Region.wanted; simp only [hg], e⟩
 · rename_i i want hg
   split at e
   · cases e
   · rename_i d hd
     rw [Box.use_v] at e
     dsimp only at e
     have hm : d ∈ looksL all o := by
      unfold looksL
      rw [hg]
      simp [hd]
     obtain ⟨w1, w2⟩ := wanted_at (a := a) hg hd (L d hm (dstOf_ok hd).1)
     split at e
     · rename_i b hb
       split at e
       · rename_i hbw
         exact .inl ⟨(w1 b hb).trans hbw, e⟩
       · rename_i hbw
         cases e
         exact .inr ⟨(w1 b hb).trans hbw, rfl, rfl⟩
     · rename_i hb
       cases e
       exact .inr ⟨w2 hb, rfl, rfl⟩
     · cases e
end
end Go.Proofs.YtmfmjhklajmhoaaGreat.Gv
namespace Go.Proofs.YtmfmjhklajmhoaaGreat.Gv
open Go
theorem more_get {h h1 : H} {b : Nat} {x : B} (e : (h.more h1).t.get b = some x) : (b = h.next ∧ h1.t.get b = some x) ∨ (b ≠ h.next ∧ h.t.get b = some x) := by
 unfold H.more at e
 cases hx : h1.t.get h.next with
 | none =>
   rw [hx] at e
   exact .inr (T.get_del e)
 | some y =>
   rw [hx] at e
   rcases T.get_set e with ⟨rfl, rfl⟩ | ⟨h2, h3⟩
   · exact .inl ⟨rfl, hx⟩
   · exact .inr ⟨h2, h3⟩
theorem more_old {h h1 : H} {b : Nat} (hb : b ≠ h.next) : (h.more h1).t.get b = h.t.get b := by
 unfold H.more
 cases hx : h1.t.get h.next with
 | none => exact T.setO_other _ _ _ _ hb
 | some y => exact T.setO_other _ _ _ _ hb
theorem more_next {h h1 : H} : (h.more h1).next = h1.next := by
 unfold H.more
 cases h1.t.get h.next <;> rfl
def QStep (all : List Oper) (M : Nat → H) (j : Nat) : Prop := M (j + 1) = M j ∨ (late all (masks all) j = true ∧ ∃ h1, h1.next = (M j).next + 1 ∧ M (j + 1) = (M j).more h1)
def Made (M : Nat → H) (j b : Nat) (x : B) : Prop := b = (M j).next ∧ b < (M (j + 1)).next ∧ (M (j + 1)).t.get b = some x
structure Mem (G : Gh) (φ0 : Mp) (w0 : World) (M : Nat → H) (N : Nat) (φ : Mp) (c : Nat) (L : Nat → Prop) (w : World) : Prop where
 rel : HRel G φ (M c) w
 fresh : ∀ k, k ≤ c → ∀ b, (M k).next ≤ b → (M k).t.get b = none
 foot : ∀ k, Foot φ (M c) k → k < w0.heap.size → Foot φ0 (M 0) k
 made : ∀ (j b : Nat) (x : B) (l : Loc), c ≤ j → j < N → L j → Made M j b x → φ b = some l → BRel G φ x l w ∧ w0.heap.size ≤ l.blk ∧ ¬ Foot φ (M c) l.blk
 apart : ∀ (j j' b b' : Nat) (x x' : B) (l l' : Loc), c ≤ j → j < N → L j → c ≤ j' → j' < N → L j' → j ≠ j' → Made M j b x → Made M j' b' x' → φ b = some l → φ b' = some l' → l.blk ≠ l'.blk
structure Num (φ0 : Mp) (M : Nat → H) (N : Nat) (φ : Mp) (L : Nat → Prop) : Prop where
 le : φ0.le φ
 new : ∀ b, φ0 b = none → φ b ≠ none → ∃ j, j < N ∧ L j ∧ (M j).next ≤ b ∧ b < (M (j + 1)).next
section
variable {E : Env} {P : Program} {G : Gh} {φ φ0 : Mp} {w w0 : World} {n : Nat} {all : List Oper} {call : Call} {S : Nat → Fr} {M : Nat → H} {U : Nat → V} {c : Nat} {L : Nat → Prop}
theorem Num.free (R : Row E n all call S M U) (X : Num φ0 M all.length φ L) (hf : Free φ0 (M 0).next (M all.length).next) {i : Nat} (hi : i < all.length) (hL : ¬ L i) : Free φ (M i).next (M (i + 1)).next := by
 intro b h1 h2
 have h3 := R.next i (by omega) 0 (Nat.zero_le _)
 have h4 := R.next all.length (Nat.le_refl _) (i + 1) (by omega)
 have h0 : φ0 b = none := hf b (by omega) (by omega)
 cases hb : φ b with
 | none => rfl
 | some l =>
   obtain ⟨j, hj, hLj, h5, h6⟩ := X.new b h0 (by rw [hb]; simp)
   by_cases hij : j = i
   · subst hij; exact absurd hLj hL
   · rcases Nat.lt_or_ge j i with hlt | hge
     · have := R.next i (by omega) (j + 1) (by omega)
       omega
     · have := R.next j (by omega) (i + 1) (by omega)
       omega
theorem Mem.same (Me : Mem G φ0 w0 M all.length φ c L w) (hq : M (c + 1) = M c) : Mem G φ0 w0 M all.length φ (c + 1) L w := by
 have hf : ∀ k, Foot φ (M (c + 1)) k ↔ Foot φ (M c) k := fun k => by rw [hq]
 refine ⟨by rw [hq]; exact Me.rel, fun k hk b hb => ?_, fun k h => Me.foot k ((hf k).1 h), fun j b x l h1 h2 h3 h4 h5 => ?_, fun j j' b b' x x' l l' h1 h2 h3 h1' h2' h3' => Me.apart j j' b b' x x' l l' (by omega) h2 h3 (by omega) h2' h3'⟩
 · by_cases hk' : k = c + 1
   · subst hk'; rw [hq] at hb ⊢; exact Me.fresh c (Nat.le_refl _) b hb
   · exact Me.fresh k (by omega) b hb
 · obtain ⟨a, b', d⟩ := Me.made j b x l (by omega) h2 h3 h4 h5
   exact ⟨a, b', fun hh => d ((hf _).1 hh)⟩
theorem Mem.next (Me : Mem G φ0 w0 M all.length φ c L w) (hq : QStep all M c) (hc : c < all.length) (hL : ¬ L c → φ (M c).next = none) : Mem G φ0 w0 M all.length φ (c + 1) L w := by
 rcases hq with hq | ⟨_, h1, h1n, hq⟩
 · exact Me.same hq
 · have hnx : (M (c + 1)).next = (M c).next + 1 := by rw [hq, more_next, h1n]
   have get : ∀ b x, (M (c + 1)).t.get b = some x → (b = (M c).next ∧ Made M c b x) ∨ (b ≠ (M c).next ∧ (M c).t.get b = some x) := by
    intro b x hb
    have hb' := hb
    rw [hq] at hb'
    rcases more_get hb' with ⟨h2, _⟩ | h2
    · exact .inl ⟨h2, h2, by omega, hb⟩
    · exact .inr h2
   have listed : ∀ l, φ (M c).next = some l → L c := by
    intro l hl
    by_cases hLc : L c
    · exact hLc
    · rw [hL hLc] at hl; cases hl
   refine ⟨⟨fun b x l hb hl => ?_, fun b b' x x' l l' hb hb' hl hl' hll => ?_, fun b hb => ?_⟩, fun k hk b hb => ?_, fun k hk hkw => ?_, fun j b x l h1 h2 h3 h4 h5 => ?_, fun j j' b b' x x' l l' h1 h2 h3 h1' h2' h3' => Me.apart j j' b b' x x' l l' (by omega) h2 h3 (by omega) h2' h3'⟩
   · rcases get b x hb with ⟨rfl, hm⟩ | ⟨_, h⟩
     · exact (Me.made c _ x l (Nat.le_refl _) hc (listed l hl) hm hl).1
     · exact Me.rel.blk b x l h hl
   · rcases get b x hb with ⟨rfl, hm⟩ | ⟨_, h⟩
     · rcases get b' x' hb' with ⟨rfl, hm'⟩ | ⟨_, h'⟩
       · exact .inl rfl
       · have := (Me.made c _ x l (Nat.le_refl _) hc (listed l hl) hm hl).2.2
         exact absurd ⟨b', x', l', h', hl', hll.symm⟩ this
     · rcases get b' x' hb' with ⟨rfl, hm'⟩ | ⟨_, h'⟩
       · have := (Me.made c _ x' l' (Nat.le_refl _) hc (listed l' hl') hm' hl').2.2
         exact absurd ⟨b, x, l, h, hl, hll⟩ this
       · exact Me.rel.inj b b' x x' l l' h h' hl hl' hll
   · cases hx : (M (c + 1)).t.get b with
     | none => rfl
     | some x =>
       rcases get b x hx with ⟨rfl, _⟩ | ⟨_, h⟩
       · omega
       · rw [Me.rel.fresh b (by omega)] at h; cases h
   · by_cases hk' : k = c + 1
     · subst hk'
       cases hx : (M (c + 1)).t.get b with
       | none => rfl
       | some x =>
         rcases get b x hx with ⟨rfl, _⟩ | ⟨_, h⟩
         · omega
         · rw [Me.rel.fresh b (by omega)] at h; cases h
     · exact Me.fresh k (by omega) b hb
   · obtain ⟨b, x, l, hb, hl, rfl⟩ := hk
     rcases get b x hb with ⟨rfl, hm⟩ | ⟨_, h⟩
     · have := (Me.made c _ x l (Nat.le_refl _) hc (listed l hl) hm hl).2.1
       omega
     · exact Me.foot _ ⟨b, x, l, h, hl, rfl⟩ hkw
   · obtain ⟨a1, a2, a3⟩ := Me.made j b x l (by omega) h2 h3 h4 h5
     refine ⟨a1, a2, fun hh => ?_⟩
     obtain ⟨b1, x1, l1, hb1, hl1, hll⟩ := hh
     rcases get b1 x1 hb1 with ⟨rfl, hm⟩ | ⟨_, h⟩
     · exact Me.apart c j _ b x1 x l1 l (Nat.le_refl _) hc (listed l1 hl1) (by omega) h2 h3 (by omega) hm h4 hl1 h5 hll
     · exact a3 ⟨b1, x1, l1, h, hl1, hll⟩
theorem Mem.list (Me : Mem G φ0 w0 M all.length φ c L w) {i : Nat} (hi : ∀ b x, ¬ Made M i b x) {L' : Nat → Prop} (hL : ∀ j, L' j → j = i ∨ L j) : Mem G φ0 w0 M all.length φ c L' w := by
 have key : ∀ j b x, L' j → Made M j b x → L j := by
  intro j b x h1 h2
  rcases hL j h1 with rfl | h
  · exact absurd h2 (hi b x)
  · exact h
 exact ⟨Me.rel, Me.fresh, Me.foot, fun j b x l h1 h2 h3 h4 h5 => Me.made j b x l h1 h2 (key j b x h3 h4) h4 h5,
  fun j j' b b' x x' l l' h1 h2 h3 h1' h2' h3' hne m m' => Me.apart j j' b b' x x' l l' h1 h2 (key j b x h3 m) h1' h2' (key j' b' x' h3' m') hne m m'⟩
theorem Frame.trans' {h0 hc : H} {w' : World} (f : Frame G φ0 h0 w0 w) (g : Frame G φ hc w w') (hft : ∀ k, Foot φ hc k → k < w0.heap.size → Foot φ0 h0 k) : Frame G φ0 h0 w0 w' :=
 ⟨fun hm => Nat.le_trans (f.drawn hm) (g.drawn hm), g.os.trans f.os, g.tape.trans f.tape, g.output.trans f.output, Nat.le_trans f.size g.size, fun k hk hn =>
  (g.block k (Nat.lt_of_lt_of_le hk f.size) fun hh => hn (hft k hh hk)).trans (f.block k hk hn)⟩
theorem Mem.loud (R : Row E n all call S M U) {i : Nat} (_hi : i < all.length) (Me : Mem G φ0 w0 M all.length φ i L w) (hs : w0.heap.size ≤ w.heap.size) {φ' : Mp} {w' : World} (r : HRel G φ' (M (i + 1)) w') (f : Frame G φ (M i) w w') (x : Ext φ φ' (M i) (M (i + 1)) w)
 {L' : Nat → Prop} (hL : ∀ j, L' j → j = i ∨ L j) : Mem G φ0 w0 M all.length φ' (i + 1) L' w' := by
 have old : ∀ j b y l, i + 1 ≤ j → j < all.length → Made M j b y → φ' b = some l → φ b = some l := by
  intro j b y l h1 h2 hm hl
  cases hb : φ b with
  | some l0 => have := x.le b l0 hb; rw [this] at hl; exact hl
  | none =>
    have h3 := R.next j (by omega) (i + 1) h1
    have := x.new b hb (.inr (by rw [hm.1]; exact h3))
    rw [this] at hl; cases hl
 have lst : ∀ j, i + 1 ≤ j → L' j → L j := fun j h1 h2 => (hL j h2).resolve_left (by omega)
 refine ⟨r, fun k hk b hb => ?_, fun k hk hkw => ?_, fun j b y l h1 h2 h3 h4 h5 => ?_, fun j j' b b' y y' l l' h1 h2 h3 h1' h2' h3' hne m m' e e' => ?_⟩
 · by_cases hk' : k = i + 1
   · subst hk'; exact r.fresh b hb
   · exact Me.fresh k (by omega) b hb
 · exact Me.foot k (x.foot k hk (by omega)) hkw
 · obtain ⟨a1, a2, a3⟩ := Me.made j b y l (by omega) h2 (lst j h1 h3) h4 (old j b y l h1 h2 h4 h5)
   have hlt := a1.lt
   exact ⟨a1.mono x.le (f.block _ hlt a3), a2, fun hh => a3 (x.foot _ hh hlt)⟩
 · exact Me.apart j j' b b' y y' l l' (by omega) h2 (lst j h1 h3) (by omega) h2' (lst j' h1' h3') hne m m' (old j b y l h1 h2 m e) (old j' b' y' l' h1' h2' m' e')
theorem down {b : Nat} {x : B} {i : Nat} (hb : b < (M i).next) : ∀ (k : Nat), i ≤ k → (∀ j, i ≤ j → j < k → QStep all M j) → (∀ j, i ≤ j → j < k → (M i).next ≤ (M j).next) → (M k).t.get b = some x → (M i).t.get b = some x
 | 0, hk, _, _, h => by have : i = 0 := by omega
                        subst this; exact h
 | k + 1, hk, hq, hm, h => by
   by_cases hik : i = k + 1
   · subst hik; exact h
   · refine down hb k (by omega) (fun j h1 h2 => hq j h1 (by omega)) (fun j h1 h2 => hm j h1 (by omega)) ?_
     rcases hq k (by omega) (by omega) with hq | ⟨_, h1, h1n, hq⟩
     · rw [hq] at h; exact h
     · rw [hq] at h
       have := hm k (by omega) (by omega)
       rcases more_get h with ⟨h2, _⟩ | ⟨_, h2⟩
       · omega
       · exact h2
theorem up {b : Nat} {x : B} {i : Nat} : ∀ (k : Nat), i ≤ k → (∀ j, i ≤ j → j < k → QStep all M j) → (∀ j, i ≤ j → j < k → ∀ b, (M j).next ≤ b → (M j).t.get b = none) → (M i).t.get b = some x → (M k).t.get b = some x
 | 0, hk, _, _, h => by have : i = 0 := by omega
                        subst this; exact h
 | k + 1, hk, hq, hf, h => by
   by_cases hik : i = k + 1
   · subst hik; exact h
   · have ih := up k (by omega) (fun j h1 h2 => hq j h1 (by omega)) (fun j h1 h2 => hf j h1 (by omega)) h
     rcases hq k (by omega) (by omega) with hq | ⟨_, h1, h1n, hq⟩
     · rw [hq]; exact ih
     · rw [hq]
       have hne : b ≠ (M k).next := fun e => by
        have := hf k (by omega) (by omega) b (by omega)
        rw [this] at ih; cases ih
       rw [more_old hne]; exact ih
theorem Mem.det (R : Row E n all call S M U) {i : Nat} (hi : i < all.length) (hLi : ¬ L i) (Me : Mem G φ0 w0 M all.length φ c L w) (hcl : c ≤ all.length) (hs : w0.heap.size ≤ w.heap.size) (hfr : Free φ (M i).next (M (i + 1)).next) {h1 : H} (Qu : Quiet all (masks all) i (M i) (M (i + 1)) h1)
 (hqs : late all (masks all) i = true → ∀ j, i ≤ j → j < c → QStep all M j)
 {φ' : Mp} {w' : World} (r : HRel G φ' h1 w') (f : Frame G φ ⟨.lf, (M i).next⟩ w w') (x : Ext φ φ' ⟨.lf, (M i).next⟩ h1 w) {L' : Nat → Prop} (hL : ∀ j, L' j → j = i ∨ L j) : Mem G φ0 w0 M all.length φ' c L' w' := by
 have nofoot : ∀ k, ¬ Foot φ ⟨.lf, (M i).next⟩ k := fun k ⟨b, y, l, hb, _⟩ => (nomatch hb)
 have f1 : ∀ k, k < w.heap.size → w'.heap[k]? = w.heap[k]? := fun k hk => f.block k hk (nofoot k)
 have f4 : ∀ b y l, h1.t.get b = some y → φ' b = some l → BRel G φ' y l w' ∧ w.heap.size ≤ l.blk := by
  intro b y l hb hl
  refine ⟨r.blk b y l hb hl, ?_⟩
  rcases Nat.lt_or_ge l.blk w.heap.size with h | h
  · exact absurd (x.foot _ ⟨b, y, l, hb, hl, rfl⟩ h) (nofoot _)
  · exact h
 have hm1 : (M (i + 1)).next = h1.next := by
  rcases Qu with ⟨a, b⟩ | ⟨a, _, b⟩
  · rw [b, a]
  · rw [b, more_next]
 have f3 : ∀ b l, φ b = none → φ' b = some l → b = (M i).next ∧ h1.next = (M i).next + 1 ∧ M (i + 1) = (M i).more h1 ∧ late all (masks all) i = true := by
  intro b l hb hl
  have hr : (M i).next ≤ b ∧ b < h1.next := by
   by_cases hh : b < (M i).next ∨ h1.next ≤ b
   · have := x.new b hb hh
     rw [this] at hl; cases hl
   · omega
  rcases Qu with ⟨a, _⟩ | ⟨a, hlt, e⟩
  · omega
  · exact ⟨by omega, a, e, hlt⟩
 have f5 : ∀ b l l', φ b = some l → φ' b = some l' → l = l' := fun b l l' h1 h2 => by have := x.le b l h1; rw [this] at h2; exact Option.some.inj h2
 have mk : ∀ y, (M (i + 1)).t.get (M i).next = some y → M (i + 1) = (M i).more h1 → h1.t.get (M i).next = some y := by
  intro y hy e
  rw [e] at hy
  rcases more_get hy with ⟨_, h⟩ | ⟨h, _⟩
  · exact h
  · exact absurd rfl h
 have live : ∀ b y l, (M c).t.get b = some y → φ b = none → φ' b = some l → i < c ∧ BRel G φ' y l w' ∧ w.heap.size ≤ l.blk ∧ b = (M i).next := by
  intro b y l hb hb0 hl
  obtain ⟨e1, e2, e3, e4⟩ := f3 b l hb0 hl
  have hic : i < c := by
   rcases Nat.lt_or_ge i c with h | h
   · exact h
   · have := R.next i (by omega) c h
     rw [Me.fresh c (Nat.le_refl _) b (by omega)] at hb
     cases hb
  have hd := down (all := all) (i := i + 1) (b := b) (by omega) c (by omega) (fun j h1 h2 => hqs e4 j (by omega) h2) (fun j h1 h2 => R.next j (by omega) (i + 1) h1) hb
  subst e1
  obtain ⟨k1, k2⟩ := f4 _ y l (mk y hd e3) hl
  exact ⟨hic, k1, k2, rfl⟩
 have oldm : ∀ j b y l, L' j → Made M j b y → φ b = some l → L j := by
  intro j b y l h1' h2 h3
  rcases hL j h1' with rfl | h
  · have := hfr b (by rw [h2.1]; exact Nat.le_refl _) h2.2.1
    rw [this] at h3; cases h3
  · exact h
 have newm : ∀ j b y l, j < all.length → Made M j b y → φ b = none → φ' b = some l → j = i ∧ BRel G φ' y l w' ∧ w.heap.size ≤ l.blk := by
  intro j b y l hj hm hb hl
  obtain ⟨e1, e2, e3, _⟩ := f3 b l hb hl
  have hji : j = i := by
   rcases Nat.lt_trichotomy j i with h | h | h
   · have := R.next i (by omega) (j + 1) (by omega)
     have := hm.2.1
     omega
   · exact h
   · have := R.next j (by omega) (i + 1) (by omega)
     have := hm.1
     omega
  subst hji
  have hy := hm.2.2
  rw [e1] at hy
  subst e1
  obtain ⟨k1, k2⟩ := f4 _ y l (mk y hy e3) hl
  exact ⟨rfl, k1, k2⟩
 refine ⟨⟨fun b y l hb hl => ?_, fun b b' y y' l l' hb hb' hl hl' hll => ?_, Me.rel.fresh⟩, Me.fresh, fun k hk hkw => ?_, fun j b y l g1 g2 g3 g4 g5 => ?_, fun j j' b b' y y' l l' g1 g2 g3 g1' g2' g3' hne m m' e e' => ?_⟩
 · cases hb0 : φ b with
   | some l0 =>
     have := f5 b l0 l hb0 hl; subst this
     have hB := Me.rel.blk b y l0 hb hb0
     exact hB.mono x.le (f1 _ hB.lt)
   | none => exact (live b y l hb hb0 hl).2.1
 · cases hb0 : φ b with
   | some l0 =>
     have := f5 b l0 l hb0 hl; subst this
     have hB := (Me.rel.blk b y l0 hb hb0).lt
     cases hb0' : φ b' with
     | some l0' =>
       have := f5 b' l0' l' hb0' hl'; subst this
       exact Me.rel.inj b b' y y' l0 l0' hb hb' hb0 hb0' hll
     | none =>
       have := (live b' y' l' hb' hb0' hl').2.2.1
       omega
   | none =>
     have h2 := live b y l hb hb0 hl
     cases hb0' : φ b' with
     | some l0' =>
       have := f5 b' l0' l' hb0' hl'; subst this
       have hB := (Me.rel.blk b' y' l0' hb' hb0').lt
       have := h2.2.2.1
       omega
     | none => exact .inl (by rw [h2.2.2.2, (live b' y' l' hb' hb0' hl').2.2.2])
 · obtain ⟨b, y, l, hb, hl, rfl⟩ := hk
   cases hb0 : φ b with
   | some l0 =>
     have := f5 b l0 l hb0 hl; subst this
     exact Me.foot _ ⟨b, y, l0, hb, hb0, rfl⟩ hkw
   | none => have := (live b y l hb hb0 hl).2.2.1; omega
 · cases hb0 : φ b with
   | some l0 =>
     have := f5 b l0 l hb0 g5; subst this
     obtain ⟨a1, a2, a3⟩ := Me.made j b y l0 g1 g2 (oldm j b y l0 g3 g4 hb0) g4 hb0
     refine ⟨a1.mono x.le (f1 _ a1.lt), a2, fun hh => ?_⟩
     obtain ⟨b1, y1, l1, hb1, hl1, hll⟩ := hh
     cases hb10 : φ b1 with
     | some l10 =>
       have := f5 b1 l10 l1 hb10 hl1; subst this
       exact a3 ⟨b1, y1, l10, hb1, hb10, hll⟩
     | none =>
       have := (live b1 y1 l1 hb1 hb10 hl1).2.2.1
       have := a1.lt
       omega
   | none =>
     obtain ⟨rfl, k1, k2⟩ := newm j b y l g2 g4 hb0 g5
     refine ⟨k1, by omega, fun hh => ?_⟩
     obtain ⟨b1, y1, l1, hb1, hl1, hll⟩ := hh
     cases hb10 : φ b1 with
     | some l10 =>
       have := f5 b1 l10 l1 hb10 hl1; subst this
       have := (Me.rel.blk b1 y1 l10 hb1 hb10).lt
       omega
     | none =>
       have := (live b1 y1 l1 hb1 hb10 hl1).1
       omega
 · cases hb0 : φ b with
   | some l0 =>
     have := f5 b l0 l hb0 e; subst this
     have hB := (Me.made j b y l0 g1 g2 (oldm j b y l0 g3 m hb0) m hb0).1.lt
     cases hb0' : φ b' with
     | some l0' =>
       have := f5 b' l0' l' hb0' e'; subst this
       exact Me.apart j j' b b' y y' l0 l0' g1 g2 (oldm j b y l0 g3 m hb0) g1' g2' (oldm j' b' y' l0' g3' m' hb0') hne m m' hb0 hb0'
     | none =>
       have := (newm j' b' y' l' g2' m' hb0' e').2.2
       omega
   | none =>
     obtain ⟨rfl, k1, k2⟩ := newm j b y l g2 m hb0 e
     cases hb0' : φ b' with
     | some l0' =>
       have := f5 b' l0' l' hb0' e'; subst this
       have hB := (Me.made j' b' y' l0' g1' g2' (oldm j' b' y' l0' g3' m' hb0') m' hb0').1.lt
       omega
     | none =>
       have := (newm j' b' y' l' g2' m' hb0' e').1
       exact absurd this.symm hne
end
end Go.Proofs.YtmfmjhklajmhoaaGreat.Gv
