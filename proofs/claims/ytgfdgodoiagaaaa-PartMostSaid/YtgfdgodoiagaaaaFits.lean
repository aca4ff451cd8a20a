/- Contracts of part.Fits and complineref22.Fits: each returns fitsB of the asset's unit and least, left and qty, for every input. -/
import Derived.Test.YtgfdgodoiagaaaaRows
import Derived.WalkKit
import Derived.Below
import Derived.Lib.Hide
namespace Go.Proofs.Ytgfdgodoiagaaaa
open Go.RowKit
def fitsB (u l left qty : Int) : Bool :=
  if qty < 1 ∨ qty > left then false else if qty = left then true else
  decide (0 < u ∧ qty % u = 0 ∧ l ≤ qty ∧ l ≤ left - qty)

theorem fitsB_no {u l left qty : Int} (h : qty < 1 ∨ left < qty) : fitsB u l left qty = false := by
  unfold fitsB; rw [if_pos (by omega)]
theorem fitsB_whole {u l left qty : Int} (h : ¬ (qty < 1 ∨ left < qty)) (h2 : qty = left) : fitsB u l left qty = true := by
  unfold fitsB; rw [if_neg (by omega), if_pos h2]
theorem fitsB_part {u l left qty : Int} (h : ¬ (qty < 1 ∨ left < qty)) (h2 : ¬ qty = left) : fitsB u l left qty = decide (0 < u ∧ qty % u = 0 ∧ l ≤ qty ∧ l ≤ left - qty) := by
  unfold fitsB; rw [if_neg (by omega), if_neg h2]

abbrev assetV (nm : ByteArray) (c p : Bool) (u l pr cu cl : Int) : Value := .agg #[.string nm, .bool c, .bool p, .int .i64 u, .int .i64 l, .int .i64 pr, .int .i64 cu, .int .i64 cl]

theorem bcell {W w1 : World} (hb : Below W.heap.size W w1) : (∀ b o, b < W.heap.size → w1.cell? ⟨b, o, none⟩ = W.cell? ⟨b, o, none⟩) ∧ (∀ b o, b < W.heap.size → w1.frozen? ⟨b, o, none⟩ = W.frozen? ⟨b, o, none⟩) :=
  ⟨fun b o h => hb.cell (p := ⟨b, o, none⟩) h, fun b o h => hb.frozen (p := ⟨b, o, none⟩) h⟩

def FitsPost (b : Bool) (w : World) (e : Ending) (w' : World) : Prop := e = .returned (.bool b) ∧ Below w.heap.size w w'
theorem fitsPost {b b' : Bool} {w w' : World} (h : b = b') (h2 : Below w.heap.size w w') : FitsPost b w (.returned (.bool b')) w' := ⟨by rw [h], h2⟩

section
variable (nm : ByteArray) (c p : Bool) (u l pr cu cl left qty : Int) (w : World)
set_option maxHeartbeats 400000 in
theorem fits_any (h1 : left ≤ 9223372036854775807) :
    Calls Try.prog 7 #[assetV nm c p u l pr cu cl, .int .i64 left, .int .i64 qty] w (FitsPost (fitsB u l left qty) w) := by
  by_cases hq : qty < 1
  · have H := Lib.hid (fitsB_no (u := u) (l := l) (left := left) (.inl hq))
    go_enter Try.func7, Try.ntmps7
    go_wp2
    go_ret
    exact fitsPost H.out ((Below.refl _ _).alloc (Nat.le_refl _) _)
  by_cases hl : left < qty
  · have H := Lib.hid (fitsB_no (u := u) (l := l) (qty := qty) (.inr hl))
    go_enter Try.func7, Try.ntmps7
    go_wp2
    go_ret
    exact fitsPost H.out ((Below.refl _ _).alloc (Nat.le_refl _) _)
  by_cases he : qty = left
  · have H := Lib.hid (fitsB_whole (u := u) (l := l) (left := left) (qty := qty) (by omega) he)
    obtain rfl := he
    go_enter Try.func7, Try.ntmps7
    go_wp2
    go_ret
    exact fitsPost H.out ((Below.refl _ _).alloc (Nat.le_refl _) _)
  have H := Lib.hid (fitsB_part (u := u) (l := l) (left := left) (qty := qty) (by omega) he)
  by_cases hu : 0 < u
  case neg =>
    go_enter Try.func7, Try.ntmps7
    go_wp2
    go_ret
    exact fitsPost (H.out.trans (by rw [decide_eq_false]; omega)) ((Below.refl _ _).alloc (Nat.le_refl _) _)
  by_cases hm : qty % u = 0
  case neg =>
    go_enter Try.func7, Try.ntmps7
    go_wp2
    go_ret
    exact fitsPost (H.out.trans (by rw [decide_eq_false]; omega)) ((Below.refl _ _).alloc (Nat.le_refl _) _)
  by_cases hll : l ≤ qty
  case neg =>
    go_enter Try.func7, Try.ntmps7
    go_wp2
    go_ret
    exact fitsPost (H.out.trans (by rw [decide_eq_false]; omega)) ((Below.refl _ _).alloc (Nat.le_refl _) _)
  by_cases hl2 : l ≤ left - qty
  · go_enter Try.func7, Try.ntmps7
    go_wp2
    go_ret
    exact fitsPost (H.out.trans (by rw [decide_eq_true]; omega)) ((Below.refl _ _).alloc (Nat.le_refl _) _)
  · go_enter Try.func7, Try.ntmps7
    go_wp2
    go_ret
    exact fitsPost (H.out.trans (by rw [decide_eq_false]; omega)) ((Below.refl _ _).alloc (Nat.le_refl _) _)
end
end Go.Proofs.Ytgfdgodoiagaaaa
