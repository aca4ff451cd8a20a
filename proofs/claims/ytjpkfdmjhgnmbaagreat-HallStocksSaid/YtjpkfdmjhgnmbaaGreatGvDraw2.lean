/- Regions that draw their order, second part: what the checks of the edges say. -/
import Derived.Test.YtjpkfdmjhgnmbaaGreatGvDraw1
import Derived.Orders
namespace Go.Proofs.YtjpkfdmjhgnmbaaGreat.Gv
open Go

theorem onAll_ok {f : Nat → Oper → Bool} : ∀ {l : List Oper} {i : Nat}, onAll f i l = true → ∀ (k : Nat) (o : Oper), l[k]? = some o → f (i + k) o = true
  | [], i, _, k, o, h => by simp at h
  | x :: l, i, e, k, o, h => by
    unfold onAll at e
    rw [Bool.and_eq_true] at e
    cases k with
    | zero => simp at h; subst h; exact e.1
    | succ k =>
      have := onAll_ok e.2 k o (by simpa using h)
      rw [show i + (k + 1) = i + 1 + k from by omega]
      exact this
theorem onAll_mk {f : Nat → Oper → Bool} : ∀ {l : List Oper} {i : Nat}, (∀ (k : Nat) (o : Oper), l[k]? = some o → f (i + k) o = true) → onAll f i l = true
  | [], i, _ => rfl
  | x :: l, i, h => by
    unfold onAll
    rw [Bool.and_eq_true]
    refine ⟨by have := h 0 x (by simp); simpa using this, onAll_mk fun k o hk => ?_⟩
    have := h (k + 1) o (by simpa using hk)
    rw [show i + (k + 1) = i + 1 + k from by omega] at this
    exact this

theorem orE_bit (ms : List Nat) (k : Nat) : ∀ (l : List Edge), Nat.testBit (orE ms l) k = true ↔ ∃ e ∈ l, Region.binds .any e = true ∧ (k = e.on ∨ Nat.testBit (ms.getD e.on 0) k = true)
  | [] => by simp [orE]
  | e :: l => by
    have ih := orE_bit ms k l
    unfold orE
    by_cases hb : Region.binds .any e = true
    · rw [if_pos hb]
      have h1 : Nat.testBit (Nat.lor (Nat.lor (2 ^ e.on) (ms.getD e.on 0)) (orE ms l)) k = (decide (e.on = k) || Nat.testBit (ms.getD e.on 0) k || Nat.testBit (orE ms l) k) := by
        show Nat.testBit ((2 ^ e.on ||| ms.getD e.on 0) ||| orE ms l) k = _
        rw [Nat.testBit_or, Nat.testBit_or, Nat.testBit_two_pow]
      rw [h1]
      simp only [Bool.or_eq_true, decide_eq_true_eq, ih, List.mem_cons]
      constructor
      · rintro ((h | h) | ⟨e', he', hb', h⟩)
        · exact ⟨e, .inl rfl, hb, .inl h.symm⟩
        · exact ⟨e, .inl rfl, hb, .inr h⟩
        · exact ⟨e', .inr he', hb', h⟩
      · rintro ⟨e', rfl | he', hb', h⟩
        · rcases h with h | h
          · exact .inl (.inl h.symm)
          · exact .inl (.inr h)
        · exact .inr ⟨e', he', hb', h⟩
    · rw [if_neg hb, ih]
      constructor
      · rintro ⟨e', he', h⟩; exact ⟨e', List.mem_cons_of_mem _ he', h⟩
      · rintro ⟨e', he', hb', h⟩
        rcases List.mem_cons.1 he' with rfl | he'
        · exact absurd hb' hb
        · exact ⟨e', he', hb', h⟩

section
variable {all : List Oper} {ms : List Nat}
theorem okDraw_at (h : okDraw all ms = true) {j : Nat} {o : Oper} (ho : all[j]? = some o) : orE ms o.after.toList = ms.getD j 0 ∧ (∀ e ∈ o.after.toList, Region.binds .any e = true → e.on < j) ∧ notSel o = true ∧
    ∀ (i : Nat) (q : Oper), all[i]? = some q → okPair all ms i q j o = true := by
  have h1 := onAll_ok h j o ho
  rw [Nat.zero_add, Bool.and_eq_true, Bool.and_eq_true] at h1
  obtain ⟨⟨h2, h3⟩, h4⟩ := h1
  unfold okAfter at h2
  rw [Bool.and_eq_true, nbeq, decide_eq_true_eq] at h2
  refine ⟨h2.1, fun e he hb => ?_, h3, fun i q hq => ?_⟩
  · have := List.all_eq_true.1 h2.2 e he
    rw [hb, nblt] at this
    simpa using this
  · have := onAll_ok h4 i q hq
    rwa [Nat.zero_add] at this
theorem pre_iff (h : okDraw all ms = true) {i j : Nat} {o : Oper} (ho : all[j]? = some o) : pre ms i j = true ↔ ∃ e ∈ o.after.toList, Region.binds .any e = true ∧ (i = e.on ∨ pre ms i e.on = true) := by
  unfold pre
  rw [← (okDraw_at h ho).1]
  exact orE_bit ms i o.after.toList
theorem pre_lt (h : okDraw all ms = true) {i : Nat} : ∀ (j : Nat), j < all.length → pre ms i j = true → i < j := by
  intro j
  induction j using Nat.strongRecOn with
  | _ j ih =>
    intro hj hp
    have ho : all[j]? = some all[j] := by simp
    obtain ⟨e, he, hb, hx⟩ := (pre_iff h ho).1 hp
    have hlt := (okDraw_at h ho).2.1 e he hb
    rcases hx with rfl | hx
    · exact hlt
    · have := ih e.on hlt (by omega) hx
      omega
theorem okDraw_pair (h : okDraw all ms = true) {i j : Nat} {q o : Oper} (hq : all[i]? = some q) (ho : all[j]? = some o) (hne : i ≠ j) :
    (∀ t, q.dst = some t → (pre ms i j = true ∨ pre ms j i = true ∨ t ∉ looksL all o) ∧ o.dst ≠ some t) ∧ (i < j → isLoud q = true → isLoud o = true → pre ms i j = true) := by
  have hp := (okDraw_at h ho).2.2.2 i q hq
  unfold okPair at hp
  rw [nbeq, decide_eq_false hne, Bool.false_or, Bool.and_eq_true] at hp
  refine ⟨fun t ht => ?_, fun hij h1 h2 => ?_⟩
  · have h1 := hp.1
    rw [ht] at h1
    simp only [Bool.and_eq_true, Bool.or_eq_true, Bool.not_eq_true'] at h1
    refine ⟨?_, fun hd => ?_⟩
    · rcases h1.1 with (h1 | h1) | h1
      · exact .inl h1
      · exact .inr (.inl h1)
      · refine .inr (.inr fun hm => ?_)
        have := List.elem_eq_true_of_mem hm
        rw [this] at h1
        cases h1
    · have h2 := h1.2
      rw [hd] at h2
      simp at h2
  · have h3 := hp.2
    rw [nblt, decide_eq_true hij, h1, h2] at h3
    simpa using h3

/-- Which temporaries hold what, in the order of the text. -/
theorem Row.get {E : Env} {n : Nat} {call : Call} {S : Nat → Fr} {M : Nat → H} {U : Nat → V} (R : Row E n all call S M U) {t : Nat} (ht : t < 4096) : ∀ (i : Nat), i ≤ all.length →
    (∃ q o, q < i ∧ all[q]? = some o ∧ o.dst = some t ∧ (Fr.get t).v (S i) = U q) ∨ ((∀ q o, q < i → all[q]? = some o → o.dst ≠ some t) ∧ (Fr.get t).v (S i) = (Fr.get t).v (S 0))
  | 0, _ => .inr ⟨fun q o hq => absurd hq (Nat.not_lt_zero _), rfl⟩
  | i + 1, hi => by
    have ho : all[i]? = some all[i] := by simp
    obtain ⟨p, hp, _, hS, _⟩ := R.run i (by omega) all[i] ho
    cases hd : all[i].dst with
    | none =>
      rw [hd] at hp
      cases hp
      have hS' : S (i + 1) = S i := hS
      rw [hS']
      rcases Row.get R ht i (by omega) with ⟨q, o, h1, h2, h3, h4⟩ | ⟨h1, h2⟩
      · exact .inl ⟨q, o, by omega, h2, h3, h4⟩
      · refine .inr ⟨fun q o hq hoq => ?_, h2⟩
        by_cases hqi : q = i
        · subst hqi; rw [ho] at hoq; cases hoq; rw [hd]; simp
        · exact h1 q o (by omega) hoq
    | some d =>
      rw [hd] at hp
      unfold putD at hp
      cases hb : (Nat.blt d n && Nat.blt d 4096) with
      | false => simp only [hb] at hp; cases hp
      | true =>
        simp only [hb, cond_true] at hp
        cases hp
        rw [Bool.and_eq_true, nblt, nblt, decide_eq_true_eq, decide_eq_true_eq] at hb
        rw [hS, Fr.get_set _ _ hb.2 ht]
        by_cases htd : t = d
        · subst htd
          rw [if_pos rfl]
          exact .inl ⟨i, all[i], by omega, ho, hd, rfl⟩
        · rw [if_neg htd]
          rcases Row.get R ht i (by omega) with ⟨q, o, h1, h2, h3, h4⟩ | ⟨h1, h2⟩
          · exact .inl ⟨q, o, by omega, h2, h3, h4⟩
          · refine .inr ⟨fun q o hq hoq => ?_, h2⟩
            by_cases hqi : q = i
            · subst hqi; rw [ho] at hoq; cases hoq; rw [hd]; simp; exact fun e => htd e.symm
            · exact h1 q o (by omega) hoq
end
end Go.Proofs.YtjpkfdmjhgnmbaaGreat.Gv
