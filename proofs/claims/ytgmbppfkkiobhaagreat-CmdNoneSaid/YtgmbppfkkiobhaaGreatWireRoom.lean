/- complinebook.Room. -/
import Derived.Test.YtgmbppfkkiobhaaGreatWireTexts
namespace Go.Proofs.YtgmbppfkkiobhaaGreat.Wire
open Go Go.RowKit Go.Lib
def SomeInt (w : World) (en : Ending) (w' : World) : Prop := (∃ r : Int, en = .returned (.int .i64 r)) ∧ w = w'
set_option maxRecDepth 20000 in
set_option maxHeartbeats 1000000 in
theorem room_any (left : Int) (A : Option Addr) (n c : Nat) (xs : List Int) (w : World) (hx : IntsAt w A xs) (hn : xs.length = n) (hn2 : n ≤ 1000000) :
    Calls Tryz.prog 24 #[.int .i64 left, .slice A n c] w (SomeInt w) := by
  have HX := Lib.hid hx
  have HNN := Lib.hid hn
  clear hx hn
  go_enter Tryz.func24, Tryz.ntmps24
  go_wp2_with fail
  go_loop [0, 5] (fun l i => ∃ (a : Int) (k : Nat), l = .int .i64 a ∧ i = .int .i64 k ∧ k ≤ n) (fun _ i => n - (intOf i).toNat)
  case atStart => exact ⟨left, 0, rfl, rfl, Nat.zero_le _⟩
  case round =>
    obtain ⟨a, k, rfl, rfl, hk⟩ := hrel
    by_cases hlt : k < n
    · have hxl : k < xs.length := by have := HNN.out; omega
      obtain ⟨ad, hA, hcs⟩ := HX.out (by intro e0; rw [e0] at hxl; simp at hxl)
      subst hA
      have hcell : w.cell? (ad.add k) = some (.int .i64 xs[k]) := hcs k _ (List.getElem?_eq_getElem hxl)
      generalize xs[k] = x at hcell
      clear hcs
      go_wp2_with fail
      case roundEnd =>
        go_round
        case rel => exact ⟨_, k + 1, rfl, by go_num, by omega⟩
        case measure => simp [intOf]; omega
      all_goals
        refine bodyPost_ret (results_tmp rfl _ _ _) rfl ?_
        exact ⟨⟨_, rfl⟩, rfl⟩
    · go_wp2_with fail
      refine bodyPost_ret (results_tmp rfl _ _ _) rfl ?_
      exact ⟨⟨_, rfl⟩, rfl⟩
end Go.Proofs.YtgmbppfkkiobhaaGreat.Wire
