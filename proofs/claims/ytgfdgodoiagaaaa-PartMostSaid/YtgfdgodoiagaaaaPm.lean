/- complinelaw23.PartMost returns true where its arguments are within its bounds. -/
import Derived.Test.YtgfdgodoiagaaaaSteps
import Derived.LoopTactic
import Derived.Handy
namespace Go.Proofs.Ytgfdgodoiagaaaa
open Go.RowKit
theorem mostB_fits {u l left free : Int} (hu : 1 ≤ u) (hl : 1 ≤ l) (hleft : 1 ≤ left) (hfree : 0 ≤ free) (hq : 0 < mostB u l left free) : mostB u l left free ≤ free ∧ fitsB u l left (mostB u l left free) = true := by
  rw [mostB_eq hu hl hleft hfree] at hq ⊢
  have h4 := Int.emod_nonneg (min free (left - l)) (show u ≠ 0 by omega)
  split
  · exact ⟨by omega, fitsB_whole (by omega) rfl⟩
  · rename_i h1
    rw [if_neg h1] at hq
    split
    · rw [fitsB_part (by omega) (by omega), decide_eq_true_eq]
      exact ⟨by omega, by omega, down_mod, by omega, by omega⟩
    · rename_i h2
      rw [if_neg h2] at hq
      omega
theorem mostB_above {u l left free k : Int} (hu : 1 ≤ u) (hl : 1 ≤ l) (hleft : 1 ≤ left) (hfree : 0 ≤ free) (h1 : mostB u l left free < k) (h2 : k ≤ free) (h3 : k ≤ left) : fitsB u l left k = false := by
  rw [mostB_eq hu hl hleft hfree] at h1
  split at h1
  · omega
  rename_i h5
  have h4 := Int.emod_nonneg (min free (left - l)) (show u ≠ 0 by omega)
  by_cases h6 : k < 1
  · exact fitsB_no (.inl h6)
  rw [fitsB_part (by omega) (by omega), decide_eq_false_iff_not]
  rintro ⟨_, hm, hlk, hll⟩
  have h7 := down_mono (a := k) (b := min free (left - l)) (u := u) (by omega) (by omega)
  split at h1 <;> omega
theorem mostB_last {u l left free : Int} (hu : 1 ≤ u) (hl : 1 ≤ l) (hleft : 1 ≤ left) (hfree : 0 ≤ free) : mostB u l left free = 0 ∨ mostB u l left free = left ∨ (l ≤ left - mostB u l left free ∧ mostB u l left free % u = 0) := by
  rw [mostB_eq hu hl hleft hfree]
  have h4 := Int.emod_nonneg (min free (left - l)) (show u ≠ 0 by omega)
  split
  · exact .inr (.inl rfl)
  · split
    · exact .inr (.inr ⟨by omega, down_mod⟩)
    · exact .inl rfl
def lyA (u l : Int) : Obj := .cells #[.string ByteArray.empty, .bool false, .bool false, .int .i64 u, .int .i64 l, .int .i64 0, .int .i64 0, .int .i64 0] 23
def AtA (b : Nat) (u l : Int) (w : World) : Prop := w.cell? ⟨b, 0, none⟩ = some (.string ByteArray.empty) ∧ w.cell? ⟨b, 1, none⟩ = some (.bool false) ∧ w.cell? ⟨b, 2, none⟩ = some (.bool false) ∧ w.cell? ⟨b, 3, none⟩ = some (.int .i64 u) ∧
  w.cell? ⟨b, 4, none⟩ = some (.int .i64 l) ∧ w.cell? ⟨b, 5, none⟩ = some (.int .i64 0) ∧ w.cell? ⟨b, 6, none⟩ = some (.int .i64 0) ∧ w.cell? ⟨b, 7, none⟩ = some (.int .i64 0)
theorem atA_of {w w1 : World} {u l : Int} {B : Nat} (hb : Below B (w.alloc (lyA u l)) w1) (hB : w.heap.size < B) : AtA w.heap.size u l w1 := by
  have hh : ∀ o, w1.cell? ⟨w.heap.size, o, none⟩ = (w.alloc (lyA u l)).cell? ⟨w.heap.size, o, none⟩ := fun o => hb.cell (p := ⟨w.heap.size, o, none⟩) hB
  unfold AtA
  have h0 : (w.alloc (lyA u l)).heap[w.heap.size]? = some (lyA u l) := by
    show (w.heap.push (lyA u l))[w.heap.size]? = _
    simp
  simp only [hh]
  simp only [World.cell?, h0]
  simp [lyA]
section
variable (u l left free : Int) (w : World)
set_option maxHeartbeats 1000000 in
theorem pm_in (hu : 1 ≤ u ∧ u ≤ 100) (hl : 1 ≤ l ∧ l ≤ 1000) (hleft : 1 ≤ left ∧ left ≤ 3000) (hfree : 0 ≤ free ∧ free ≤ 3000) :
    Calls Try.prog 4 #[.int .i64 u, .int .i64 l, .int .i64 left, .int .i64 free] w (Gv.TrueBelow w) := by
  obtain ⟨q, hq⟩ : ∃ q, mostB u l left free = q := ⟨_, rfl⟩
  have hr := mostB_range (u := u) (l := l) (left := left) (a := free) hu.1 hl.1 hleft.1 hfree.1
  have hf := mostB_fits (u := u) (l := l) (left := left) (free := free) hu.1 hl.1 hleft.1 hfree.1
  have ha := fun k => mostB_above (u := u) (l := l) (left := left) (free := free) (k := k) hu.1 hl.1 hleft.1 hfree.1
  have he := mostB_last (u := u) (l := l) (left := left) (free := free) hu.1 hl.1 hleft.1 hfree.1
  rw [hq] at hr hf he
  simp only [hq] at ha
  have HA := Lib.hid ha
  clear ha
  obtain ⟨hu1, hu2⟩ := hu
  obtain ⟨hl1, hl2⟩ := hl
  obtain ⟨hleft1, hleft2⟩ := hleft
  obtain ⟨hfree1, hfree2⟩ := hfree
  obtain ⟨hr1, hr2⟩ := hr
  have key : (q = 0 ∨ (0 < q ∧ q = left) ∨ (0 < q ∧ ¬ q = left ∧ l ≤ left - q ∧ q % u = 0)) := by
    rcases he with h | h | h
    · exact .inl h
    · by_cases h0 : q = 0
      · exact .inl h0
      · exact .inr (.inl ⟨by omega, h⟩)
    · by_cases h0 : q = 0
      · exact .inl h0
      · by_cases h1 : q = left
        · exact .inr (.inl ⟨by omega, h1⟩)
        · exact .inr (.inr ⟨by omega, h1, h⟩)
  clear he
  have HQ := Lib.hid hq
  clear hq
  rcases key with hz | ⟨hz, hzl⟩ | ⟨hz, hzn, hzl, hzu⟩
  case inr.inr =>
    obtain ⟨hf1, hf2⟩ := hf hz
    clear hf
    have HF := Lib.hid hf2
    clear hf2
    go_enter Try.func4, Try.ntmps4
    go_wp2_with (first
      | (go_at_call 9; refine (most_any _ _ _ _ _ _ _ _ _ _ _ (by omega) (by omega) (by omega)).mono ?_; rw [HQ.out]; rintro e w1 ⟨rfl, hb1⟩; obtain ⟨c0, c1, c2, c3, c4, c5, c6, c7⟩ := atA_of (u := u) (l := l) hb1 (by simp))
      | (go_at_call 7; refine (fits_any _ _ _ _ _ _ _ _ _ _ _ (by omega)).mono ?_; rw [HF.out]; rintro e w2 ⟨rfl, hb2⟩))
    have hb12 : Below (w.heap.size + 1) (w.alloc (lyA u l)) w2 := by
      have h1 := hb1.trans (hb2.mono (by have := hb1.size; simp at this ⊢; omega))
      simp only [World.size_alloc] at h1
      exact h1
    go_loopw [11] (fun k wr => ∃ n : Int, k = .int .i64 n ∧ q < n ∧ n ≤ 3001 ∧ Below (w.heap.size + 1) (w.alloc (lyA u l)) wr) (fun k _ => (3001 - intOf k).toNat)
    case atStart => exact ⟨q + 1, rfl, by omega, by omega, hb12⟩
    case round =>
      obtain ⟨n, rfl, hn1, hn2, hbw⟩ := hrel
      obtain ⟨d0, d1, d2, d3, d4, d5, d6, d7⟩ := atA_of (u := u) (l := l) hbw (by omega)
      have hsz := hbw.size
      simp only [World.size_alloc] at hsz
      go_wp2_with (first
        | (go_at_call 6; refine (alive_any _).mono ?_; rintro e w3 ⟨rfl, hb3⟩)
        | (go_at_call 7; refine (fits_any _ _ _ _ _ _ _ _ _ _ _ (by omega)).mono ?_; rw [HA.out n hn1 (by omega) (by omega)]; rintro e w3 ⟨rfl, hb3⟩))
      case roundEnd =>
        go_roundw
        case rel => exact ⟨n + 1, rfl, by omega, by omega, hbw.trans (hb3.mono (by omega))⟩
        case measure => simp [intOf]; omega
      all_goals
        go_ret
        exact ⟨rfl, ((Below.refl _ w).alloc (Nat.le_refl _) _).trans ((hbw.trans (hb3.mono (by omega))).mono (by omega))⟩
  case inr.inl =>
    subst hzl
    obtain ⟨hf1, hf2⟩ := hf hz
    clear hf
    have HF := Lib.hid hf2
    clear hf2
    go_enter Try.func4, Try.ntmps4
    go_wp2_with (first
      | (go_at_call 9; refine (most_any _ _ _ _ _ _ _ _ _ _ _ (by omega) (by omega) (by omega)).mono ?_; rw [HQ.out]; rintro e w1 ⟨rfl, hb1⟩; obtain ⟨c0, c1, c2, c3, c4, c5, c6, c7⟩ := atA_of (u := u) (l := l) hb1 (by simp))
      | (go_at_call 7; refine (fits_any _ _ _ _ _ _ _ _ _ _ _ (by omega)).mono ?_; rw [HF.out]; rintro e w2 ⟨rfl, hb2⟩))
    have hb12 : Below (w.heap.size + 1) (w.alloc (lyA u l)) w2 := by
      have h1 := hb1.trans (hb2.mono (by have := hb1.size; simp at this ⊢; omega))
      simp only [World.size_alloc] at h1
      exact h1
    go_loopw [11] (fun k wr => ∃ n : Int, k = .int .i64 n ∧ q < n ∧ n ≤ 3001 ∧ Below (w.heap.size + 1) (w.alloc (lyA u l)) wr) (fun k _ => (3001 - intOf k).toNat)
    case atStart => exact ⟨_, rfl, by omega, by omega, hb12⟩
    case round =>
      obtain ⟨n, rfl, hn1, hn2, hbw⟩ := hrel
      obtain ⟨d0, d1, d2, d3, d4, d5, d6, d7⟩ := atA_of (u := u) (l := l) hbw (by omega)
      have hsz := hbw.size
      simp only [World.size_alloc] at hsz
      go_wp2_with (first
        | (go_at_call 6; refine (alive_any _).mono ?_; rintro e w3 ⟨rfl, hb3⟩)
        | (go_at_call 7; refine (fits_any _ _ _ _ _ _ _ _ _ _ _ (by omega)).mono ?_; rw [HA.out n hn1 (by omega) (by omega)]; rintro e w3 ⟨rfl, hb3⟩))
      all_goals
        go_ret
        exact ⟨rfl, ((Below.refl _ w).alloc (Nat.le_refl _) _).trans ((hbw.trans (hb3.mono (by omega))).mono (by omega))⟩
  case inl =>
    subst hz
    clear hf
    go_enter Try.func4, Try.ntmps4
    go_wp2_with (first
      | (go_at_call 9; refine (most_any _ _ _ _ _ _ _ _ _ _ _ (by omega) (by omega) (by omega)).mono ?_; rw [HQ.out]; rintro e w1 ⟨rfl, hb1⟩; obtain ⟨c0, c1, c2, c3, c4, c5, c6, c7⟩ := atA_of (u := u) (l := l) hb1 (by simp)))
    have hb12 : Below (w.heap.size + 1) (w.alloc (lyA u l)) w1 := by
      have h1 := hb1
      simp only [World.size_alloc] at h1
      exact h1
    go_loopw [11] (fun k wr => ∃ n : Int, k = .int .i64 n ∧ 0 < n ∧ n ≤ 3001 ∧ Below (w.heap.size + 1) (w.alloc (lyA u l)) wr) (fun k _ => (3001 - intOf k).toNat)
    case atStart => exact ⟨0 + 1, rfl, by omega, by omega, hb12⟩
    case round =>
      obtain ⟨n, rfl, hn1, hn2, hbw⟩ := hrel
      obtain ⟨d0, d1, d2, d3, d4, d5, d6, d7⟩ := atA_of (u := u) (l := l) hbw (by omega)
      have hsz := hbw.size
      simp only [World.size_alloc] at hsz
      go_wp2_with (first
        | (go_at_call 6; refine (alive_any _).mono ?_; rintro e w3 ⟨rfl, hb3⟩)
        | (go_at_call 7; refine (fits_any _ _ _ _ _ _ _ _ _ _ _ (by omega)).mono ?_; rw [HA.out n hn1 (by omega) (by omega)]; rintro e w3 ⟨rfl, hb3⟩))
      case roundEnd =>
        go_roundw
        case rel => exact ⟨n + 1, rfl, by omega, by omega, hbw.trans (hb3.mono (by omega))⟩
        case measure => simp [intOf]; omega
      all_goals
        go_ret
        exact ⟨rfl, ((Below.refl _ w).alloc (Nat.le_refl _) _).trans ((hbw.trans (hb3.mono (by omega))).mono (by omega))⟩
end
end Go.Proofs.Ytgfdgodoiagaaaa
