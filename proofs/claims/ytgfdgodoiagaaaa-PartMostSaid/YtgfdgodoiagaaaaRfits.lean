/- Contracts of complineref22.Fits and complineref22.Most: they return fitsB and mostB of the asset's unit and least, left and qty (free), for every input. -/
import Derived.Test.YtgfdgodoiagaaaaMost
namespace Go.Proofs.Ytgfdgodoiagaaaa
open Go.RowKit
section
variable (nm : ByteArray) (c p : Bool) (u l pr cu cl left qty free : Int) (w : World)
set_option maxHeartbeats 400000 in
theorem rfits_any (h1 : left ≤ 9223372036854775807) :
    Calls Try.prog 8 #[assetV nm c p u l pr cu cl, .int .i64 left, .int .i64 qty] w (FitsPost (fitsB u l left qty) w) := by
  by_cases hq : qty < 1
  · have H := Lib.hid (fitsB_no (u := u) (l := l) (left := left) (.inl hq))
    go_enter Try.func8, Try.ntmps8
    go_wp2
    go_ret
    exact fitsPost (H.out) ((Below.refl _ _).alloc (Nat.le_refl _) _)
  by_cases hl : left < qty
  · have H := Lib.hid (fitsB_no (u := u) (l := l) (qty := qty) (.inr hl))
    go_enter Try.func8, Try.ntmps8
    go_wp2
    go_ret
    exact fitsPost (H.out) ((Below.refl _ _).alloc (Nat.le_refl _) _)
  by_cases he : qty = left
  · have H := Lib.hid (fitsB_whole (u := u) (l := l) (left := left) (qty := qty) (by omega) he)
    obtain rfl := he
    go_enter Try.func8, Try.ntmps8
    go_wp2
    go_ret
    exact fitsPost (H.out) ((Below.refl _ _).alloc (Nat.le_refl _) _)
  have H := Lib.hid (fitsB_part (u := u) (l := l) (left := left) (qty := qty) (by omega) he)
  by_cases hu : 1 ≤ u
  case neg =>
    go_enter Try.func8, Try.ntmps8
    go_wp2
    go_ret
    exact fitsPost (H.out.trans (by rw [decide_eq_false (by omega)]; simp [he])) ((Below.refl _ _).alloc (Nat.le_refl _) _)
  by_cases hm : qty % u = 0
  case neg =>
    go_enter Try.func8, Try.ntmps8
    go_wp2
    go_ret
    exact fitsPost (H.out.trans (by rw [decide_eq_false (by omega)]; simp [he])) ((Below.refl _ _).alloc (Nat.le_refl _) _)
  by_cases hll : l ≤ qty
  case neg =>
    go_enter Try.func8, Try.ntmps8
    go_wp2
    go_ret
    exact fitsPost (H.out.trans (by rw [decide_eq_false (by omega)]; simp [he])) ((Below.refl _ _).alloc (Nat.le_refl _) _)
  by_cases hl2 : l ≤ left - qty
  · have _h := hl2
    go_enter Try.func8, Try.ntmps8
    go_wp2
    go_ret
    exact fitsPost (H.out.trans (by rw [decide_eq_true (by omega)])) ((Below.refl _ _).alloc (Nat.le_refl _) _)
  · have _h := hl2
    go_enter Try.func8, Try.ntmps8
    go_wp2
    go_ret
    exact fitsPost (H.out.trans (by rw [decide_eq_false (by omega)]; simp [he])) ((Below.refl _ _).alloc (Nat.le_refl _) _)
end
end Go.Proofs.Ytgfdgodoiagaaaa
