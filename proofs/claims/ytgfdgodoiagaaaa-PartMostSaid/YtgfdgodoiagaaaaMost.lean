/- Contract of part.Most: it returns mostB of the asset's unit and least, left and free, for every input. -/
import Derived.Test.YtgfdgodoiagaaaaFits
namespace Go.Proofs.Ytgfdgodoiagaaaa
open Go.RowKit
def mostQ (l left free : Int) : Int := if 0 < l then min free (left - l) else free
def mostB (u l left free : Int) : Int :=
  if left ≤ free then max left 0 else if u < 1 ∨ free < 1 then 0 else
  if mostQ l left free < 1 then 0 else
  if fitsB u l left (mostQ l left free - mostQ l left free % u) then mostQ l left free - mostQ l left free % u else 0

def IntPost (b : Int) (w : World) (e : Ending) (w' : World) : Prop := e = .returned (.int .i64 b) ∧ Below w.heap.size w w'
theorem intPost {b b' : Int} {w w' : World} (h : b = b') (h2 : Below w.heap.size w w') : IntPost b w (.returned (.int .i64 b')) w' := ⟨by rw [h], h2⟩

theorem emod_le' {a u : Int} (h : ¬ a < 1) (hu : ¬ u < 1) : a % u ≤ a := by
  have h1 := Int.mul_ediv_add_emod a u
  have h2 : 0 ≤ a / u := Int.ediv_nonneg (by omega) (by omega)
  have h3 : 0 ≤ u * (a / u) := Int.mul_nonneg (by omega) h2
  omega

section
variable (nm : ByteArray) (c p : Bool) (u l pr cu cl left free : Int) (w : World)

theorem most_tail (q : Int) (hq : mostQ l left free = q) (hf : ¬ left ≤ free) (hu : ¬ (u < 1 ∨ free < 1)) : 
    mostB u l left free = if q < 1 then 0 else if fitsB u l left (q - q % u) then q - q % u else 0 := by
  unfold mostB; rw [if_neg hf, if_neg hu, hq]

set_option maxHeartbeats 400000 in
theorem most_any (hleft : -9223372036854775808 ≤ left ∧ left ≤ 9223372036854775807) (hfree : -9223372036854775808 ≤ free ∧ free ≤ 9223372036854775807)
   (hl : -9223372036854775808 ≤ l ∧ l ≤ 9223372036854775807) :
    Calls Try.prog 9 #[assetV nm c p u l pr cu cl, .int .i64 left, .int .i64 free] w (IntPost (mostB u l left free) w) := by
  obtain ⟨hleft1, hleft2⟩ := hleft
  obtain ⟨hfree1, hfree2⟩ := hfree
  obtain ⟨hl1, hl2⟩ := hl
  by_cases hge : left ≤ free
  · have H := Lib.hid (show mostB u l left free = max left 0 by unfold mostB; rw [if_pos hge])
    go_enter Try.func9, Try.ntmps9
    go_wp2
    all_goals
      go_ret
      exact intPost (H.out.trans (by omega)) ((Below.refl _ _).alloc (Nat.le_refl _) _)
  by_cases hu : u < 1
  · have H := Lib.hid (show mostB u l left free = 0 by unfold mostB; rw [if_neg hge, if_pos (.inl hu)])
    go_enter Try.func9, Try.ntmps9
    go_wp2
    all_goals
      go_ret
      exact intPost (H.out.trans (by omega)) ((Below.refl _ _).alloc (Nat.le_refl _) _)
  by_cases hf1 : free < 1
  · have H := Lib.hid (show mostB u l left free = 0 by unfold mostB; rw [if_neg hge, if_pos (.inr hf1)])
    go_enter Try.func9, Try.ntmps9
    go_wp2
    all_goals
      go_ret
      exact intPost (H.out.trans (by omega)) ((Below.refl _ _).alloc (Nat.le_refl _) _)
  have key : ∀ q : Int, mostQ l left free = q → mostB u l left free = if q < 1 then 0 else if fitsB u l left (q - q % u) then q - q % u else 0 :=
    fun q hq => most_tail u l left free q hq hge (by omega)
  have K := Lib.hid key
  clear key
  by_cases h0 : 0 < l
  case neg =>
    have hq : mostQ l left free = free := by unfold mostQ; rw [if_neg h0]
    have hm0 : 0 ≤ (free) % u := Int.emod_nonneg _ (by omega)
    have hm1 : (free) % u ≤ free := emod_le' hf1 hu
    have K2 := Lib.hid ((K.out _ hq).trans (if_neg hf1))
    clear hq
    cases hb : fitsB u l left (free - (free) % u)
    all_goals
      have HB := Lib.hid hb
      go_enter Try.func9, Try.ntmps9
      go_wp2_with (go_at_call 7; refine (fits_any _ _ _ _ _ _ _ _ _ _ _ hleft2).mono ?_; rw [hb]; rintro e w1 ⟨rfl, hb1⟩; clear hb)
      all_goals
        go_ret
        exact intPost (K2.out.trans (by rw [HB.out]; rfl)) ((((Below.refl _ _).alloc (Nat.le_refl _) _)).trans (hb1.mono (by simp)))
  by_cases hmn : free ≤ left - l
  case pos =>
    have hq : mostQ l left free = free := by unfold mostQ; rw [if_pos h0]; omega
    have hm0 : 0 ≤ (free) % u := Int.emod_nonneg _ (by omega)
    have hm1 : (free) % u ≤ free := emod_le' hf1 hu
    have K2 := Lib.hid ((K.out _ hq).trans (if_neg hf1))
    clear hq
    cases hb : fitsB u l left (free - (free) % u)
    all_goals
      have HB := Lib.hid hb
      go_enter Try.func9, Try.ntmps9
      go_wp2_with (go_at_call 7; refine (fits_any _ _ _ _ _ _ _ _ _ _ _ hleft2).mono ?_; rw [hb]; rintro e w1 ⟨rfl, hb1⟩; clear hb)
      all_goals
        go_ret
        exact intPost (K2.out.trans (by rw [HB.out]; rfl)) ((((Below.refl _ _).alloc (Nat.le_refl _) _)).trans (hb1.mono (by simp)))
  by_cases hf1 : left - l < 1
  case pos =>
    have hq : mostQ l left free = left - l := by unfold mostQ; rw [if_pos h0]; omega
    have K2 := Lib.hid ((K.out _ hq).trans (if_pos hf1))
    clear hq
    go_enter Try.func9, Try.ntmps9
    go_wp2
    all_goals
      go_ret
      exact intPost K2.out ((Below.refl _ _).alloc (Nat.le_refl _) _)
  case neg =>
    have hq : mostQ l left free = left - l := by unfold mostQ; rw [if_pos h0]; omega
    have hm0 : 0 ≤ (left - l) % u := Int.emod_nonneg _ (by omega)
    have hm1 : (left - l) % u ≤ left - l := emod_le' hf1 hu
    have K2 := Lib.hid ((K.out _ hq).trans (if_neg hf1))
    clear hq
    cases hb : fitsB u l left (left - l - (left - l) % u)
    all_goals
      have HWR9 := Lib.hid (show wrap64 (left - l - (left - l) % u) = left - l - (left - l) % u from IntWalk.wrap64_in _ (by omega))
      have HB := Lib.hid hb
      go_enter Try.func9, Try.ntmps9
      go_wp2_with (go_at_call 7; (try rw [HWR9.out]); refine (fits_any _ _ _ _ _ _ _ _ _ _ _ hleft2).mono ?_; rw [hb]; rintro e w1 ⟨rfl, hb1⟩; clear hb)
      all_goals
        go_ret
        exact intPost (K2.out.trans (by rw [HB.out]; first | rfl | (rw [HWR9.out]; rfl))) ((((Below.refl _ _).alloc (Nat.le_refl _) _)).trans (hb1.mono (by simp)))
end
end Go.Proofs.Ytgfdgodoiagaaaa
