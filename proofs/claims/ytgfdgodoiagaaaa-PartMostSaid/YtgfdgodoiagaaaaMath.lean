/- Plain facts of fitsB and mostB. -/
import Derived.Test.YtgfdgodoiagaaaaMost
namespace Go.Proofs.Ytgfdgodoiagaaaa
theorem down_mono {a b u : Int} (hu : 0 < u) (h : a ≤ b) : a - a % u ≤ b - b % u := by
  have h1 := Int.mul_ediv_add_emod a u
  have h2 := Int.mul_ediv_add_emod b u
  have h3 : a / u ≤ b / u := Int.ediv_le_ediv hu h
  have h4 : u * (a / u) ≤ u * (b / u) := Int.mul_le_mul_of_nonneg_left h3 (by omega)
  omega
theorem down_mod {a u : Int} : (a - a % u) % u = 0 := by
  have h1 := Int.mul_ediv_add_emod a u
  have : a - a % u = u * (a / u) := by omega
  rw [this, Int.mul_emod_right]
/-- Where the asset's unit and least are at least 1. -/
theorem mostB_eq {u l left free : Int} (hu : 1 ≤ u) (hl : 1 ≤ l) (hleft : 1 ≤ left) (hfree : 0 ≤ free) :
    mostB u l left free = if left ≤ free then left else if l ≤ min free (left - l) - min free (left - l) % u then min free (left - l) - min free (left - l) % u else 0 := by
  by_cases h1 : left ≤ free
  · rw [if_pos h1]; unfold mostB; rw [if_pos h1]; omega
  rw [if_neg h1]
  have hq : mostQ l left free = min free (left - l) := by unfold mostQ; rw [if_pos (by omega)]
  by_cases h2 : free < 1
  · have : mostB u l left free = 0 := by unfold mostB; rw [if_neg h1, if_pos (.inr h2)]
    rw [this]
    have hf : free = 0 := by omega
    subst hf
    by_cases h3 : 0 ≤ left - l
    · have : min 0 (left - l) = 0 := by omega
      rw [this]; simp
    · have : min 0 (left - l) = left - l := by omega
      rw [this]
      have h4 := Int.emod_nonneg (left - l) (show u ≠ 0 by omega)
      rw [if_neg (by omega)]
  rw [most_tail u l left free _ hq h1 (by omega)]
  have h4 := Int.emod_nonneg (min free (left - l)) (show u ≠ 0 by omega)
  by_cases h3 : min free (left - l) < 1
  · rw [if_pos h3, if_neg (by omega)]
  rw [if_neg h3]
  have h5 := emod_le' (a := min free (left - l)) (u := u) h3 (by omega)
  by_cases h6 : l ≤ min free (left - l) - min free (left - l) % u
  · rw [if_pos h6]
    have : fitsB u l left (min free (left - l) - min free (left - l) % u) = true := by
      rw [fitsB_part (by omega) (by omega), decide_eq_true_eq]
      exact ⟨by omega, down_mod, by omega, by omega⟩
    rw [this]; rfl
  · rw [if_neg h6]
    have : fitsB u l left (min free (left - l) - min free (left - l) % u) = false := by
      by_cases h7 : min free (left - l) - min free (left - l) % u < 1
      · exact fitsB_no (.inl h7)
      · rw [fitsB_part (by omega) (by omega), decide_eq_false_iff_not]
        omega
    rw [this]; rfl
theorem mostB_mono {u l left a b : Int} (hu : 1 ≤ u) (hl : 1 ≤ l) (hleft : 1 ≤ left) (ha : 0 ≤ a) (hab : a ≤ b) : mostB u l left a ≤ mostB u l left b := by
  rw [mostB_eq hu hl hleft ha, mostB_eq hu hl hleft (by omega)]
  have h4 := Int.emod_nonneg (min a (left - l)) (show u ≠ 0 by omega)
  have h5 := Int.emod_nonneg (min b (left - l)) (show u ≠ 0 by omega)
  have hm := down_mono (a := min a (left - l)) (b := min b (left - l)) (u := u) (by omega) (by omega)
  split <;> split <;> (try split) <;> (try split) <;> omega
theorem mostB_range {u l left a : Int} (hu : 1 ≤ u) (hl : 1 ≤ l) (hleft : 1 ≤ left) (ha : 0 ≤ a) : 0 ≤ mostB u l left a ∧ mostB u l left a ≤ left := by
  rw [mostB_eq hu hl hleft ha]
  have h4 := Int.emod_nonneg (min a (left - l)) (show u ≠ 0 by omega)
  split
  · omega
  · split <;> omega
theorem mostB_whole {u l left : Int} (hleft : 1 ≤ left) : mostB u l left left = left := by
  unfold mostB; rw [if_pos (Int.le_refl _)]; omega
theorem mostB_zero {u l left : Int} (hleft : 1 ≤ left) : mostB u l left 0 = 0 := by
  unfold mostB; rw [if_neg (by omega), if_pos (.inr (by omega))]
end Go.Proofs.Ytgfdgodoiagaaaa
