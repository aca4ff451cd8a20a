/- A region that draws its order, shown by what holds between its operations: each operation once, whatever the order. -/
import Derived.Orders
import Derived.RegionTactic
namespace Go.Proofs.YtgmbppfkkiobhaaGreat.Wire
open Go
/-- How many operations are left. -/
def leftB (l : Array Bool) : Nat := l.toList.count false
theorem leftB_set {l : Array Bool} {i : Nat} (h : l.getD i true = false) : leftB (l.setIfInBounds i true) + 1 = leftB l := by
  rcases Nat.lt_or_ge i l.size with hi | hi
  · have hi' : i < l.toList.length := by simpa using hi
    have hv : l.toList[i] = false := by
      have : l.getD i true = l[i] := by simp [Array.getD, hi]
      rw [this] at h
      simpa using h
    unfold leftB
    rw [Array.toList_setIfInBounds, List.count_set hi', hv]
    have hpos : 0 < l.toList.count false := List.count_pos_iff.2 (hv ▸ List.getElem_mem hi')
    rw [if_pos (by rfl), if_neg (by decide)]
    omega
  · simp [Array.getD, Nat.not_lt.2 hi] at h
section
variable {P : Program} {md : Region.Mode} {ops : Array Oper} {Q : Exit → Act → World → Prop}
theorem wpAny_inv (I : Array Bool → Act → World → Prop) (hd : ∀ l a w, I l a w → Region.ready md ops l = [] → Q .normal a w)
    (hs : ∀ l a w, I l a w → ∀ i ∈ Region.ready md ops l, wpOp P ops Q i (fun a' w' => I (l.setIfInBounds i true) a' w') a w) :
    ∀ (fuel : Nat) (l : Array Bool) (a : Act) (w : World), leftB l ≤ fuel → I l a w → wpAny P md ops Q fuel l a w
  | 0, l, a, w, hl, h => by
    have hr : Region.ready md ops l = [] := by
      rcases hc : Region.ready md ops l with _ | ⟨i, t⟩
      · rfl
      · have hi : i ∈ Region.ready md ops l := by rw [hc]; simp
        have := leftB_set (mem_ready.1 hi).1
        omega
    exact ⟨hr, hd l a w h hr⟩
  | fuel + 1, l, a, w, hl, h => ⟨hd l a w h, fun i hi => wpOp_mono (fun a' w' h' => wpAny_inv I hd hs fuel _ a' w' (by have := leftB_set (mem_ready.1 hi).1; omega) h') (hs l a w h i hi)⟩
end
/-- Operation i is over. -/
def fl (l : Array Bool) (i : Nat) : Prop := l.getD i false = true
theorem fl_set {l : Array Bool} {i k : Nat} (h : fl (l.setIfInBounds i true) k) : k = i ∨ fl l k := by
  by_cases e : k = i
  · exact .inl e
  · refine .inr ?_
    unfold fl at *
    rw [getD_set_ne false (fun e2 => e e2.symm)] at h
    exact h
theorem fl_more {l : Array Bool} {i k : Nat} (h : fl l k) : fl (l.setIfInBounds i true) k := by
  unfold fl at *
  exact getD_set_true h
theorem getD_flip {l : Array Bool} {i : Nat} (h : l.getD i true = false) : l.getD i false = false := by
  simp only [Array.getD] at *
  split at h
  · rename_i hi
    simp only [hi, dif_pos]
    exact h
  · cases h
theorem fl_none {n k : Nat} : ¬ fl (Array.replicate n false) k := by
  unfold fl
  intro h
  simp only [Array.getD] at h
  split at h
  · simp at h
  · cases h
theorem fl_self {l : Array Bool} {i : Nat} (h : i < l.size) : fl (l.setIfInBounds i true) i := by
  unfold fl
  simp [Array.getD, h]
theorem wpOp_at {P : Program} {ops : Array Oper} {Q : Exit → Act → World → Prop} {i : Nat} {o : Oper} {K : Act → World → Prop} {a : Act} {w : World} (h : ops[i]? = some o) (hg : o.guard = none) (hw : o.wp P a w K Q) : wpOp P ops Q i K a w := by
  unfold wpOp
  rw [h]
  show (if Region.wanted o (yielded ops a.tmps) = true then _ else _)
  rw [if_pos (by unfold Region.wanted; rw [hg])]
  exact .inl hw
/-- Nothing is ready: then what waits for nothing is over. -/
theorem fl_all {md : Region.Mode} {ops : Array Oper} {l : Array Bool} (hr : Region.ready md ops l = []) (hs : l.size = ops.size) {i : Nat} {o : Oper} (ho : ops[i]? = some o) (h : ∀ e ∈ o.after, Region.binds md e = true → fl l e.on) : fl l i := by
  unfold fl
  cases hb : l.getD i false with
  | true => rfl
  | false =>
    exfalso
    have hi : i < l.size := by rw [hs]; exact (Array.getElem?_eq_some_iff.1 ho).1
    have h0 : l.getD i true = false := by
      simp only [Array.getD, hi, dif_pos] at hb ⊢
      exact hb
    have : i ∈ Region.ready md ops l := mem_ready.2 ⟨h0, o, ho, h⟩
    rw [hr] at this
    cases this
end Go.Proofs.YtgmbppfkkiobhaaGreat.Wire
