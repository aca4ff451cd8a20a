/- complinelaw22.HallNone returns true, for every input. -/
import Derived.Test.YtamdnaplnkmokaaGreatAlive
namespace Go.Proofs.YtamdnaplnkmokaaGreat
open Go.RowKit Gv
noncomputable def aH : Nat → Option (Gv.Call → List V → H → RV) := hkT [⟨5, [], .bool true⟩]
theorem none_run : (callN (evE Tryz.prog (libH aH) [] [] []) 100 3 [.agg (opqs 0 22)] H0).isTrue = true := by kernel_rfl
set_option maxRecDepth 100000 in
theorem aH_ok (G : Gh) : HooksOk Tryz.prog G aH := hkT_ok progOk _ fun t ht => by
  simp at ht
  subst ht
  exact alive_ok G
def ts29 : List TypeId := [3, 3, 3, 9, 9, 9, 9, 4, 9, 9, 9, 3, 3, 3, 3, 4, 4, 9, 9, 9, 26, 27]
theorem ct29 : Tryz.prog.cellTypes Tryz.prog.depth 29 = some ts29 := by kernel_rfl
theorem cn29 : Tryz.prog.cellsOf 29 = 22 := by kernel_rfl
set_option maxRecDepth 100000 in
theorem walk (W : World) (base : Nat) (v0 : Value) (h0 : Value.okWide Tryz.prog W .any base 29 v0) : Calls Tryz.prog 3 #[v0] W (TrueBelow W) := by
  obtain ⟨xs, rfl, hl, hc⟩ := agg_cells Tryz.underlying29 ct29 cn29.symm h0
  have hl' : xs.length = 22 := hl
  have hx := cells_one hl hc
  have hargs : concL (mkGh xs [] hx) (fun _ => none) [.agg (opqs 0 22)] = some [.agg xs.toArray] := by
    have h := opqs_ok (G := mkGh xs [] hx) (φ := fun _ => none) (e := xs) 22 0 (by omega) (fun i u hi => by
      show xs.getD i _ = u
      rw [List.getD_eq_getElem?_getD, hi]
      rfl)
    rw [List.drop_zero, List.take_of_length_le (by omega)] at h
    exact concL_cons.2 ⟨_, _, by rw [conc, h], concL_nil, rfl⟩
  exact run_true (G := mkGh xs [] hx) progOk noFacts (libH_ok (aH_ok _)) Tryz.func3 rfl hargs none_run W
end Go.Proofs.YtamdnaplnkmokaaGreat
