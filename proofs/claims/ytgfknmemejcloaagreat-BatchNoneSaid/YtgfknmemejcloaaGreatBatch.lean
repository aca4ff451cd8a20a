/- complinelaw26.BatchNone returns true, for every input. -/
import Derived.Test.YtgfknmemejcloaaGreatAlive26
namespace Go.Proofs.YtgfknmemejcloaaGreat
open Go.RowKit Gv
noncomputable def aB : Nat → Option (Gv.Call → List V → H → RV) := hkT [⟨7, [], .bool true⟩]
theorem runB_true : (callN (evE Tryz.prog (libH aB) [] [] []) 100 3 [.bool true] H0).isTrue = true := by kernel_rfl
theorem runB_false : (callN (evE Tryz.prog (libH aB) [] [] []) 100 3 [.bool false] H0).isTrue = true := by kernel_rfl
set_option maxRecDepth 100000 in
theorem aB_ok (e : List Value) (s : List Int) (he : e.all (·.oneCell') = true) : HooksOk Tryz.prog (mkGh e s he) aB := hkT_ok progOk _ fun t ht => by
  simp at ht
  subst ht
  exact aliveOk7 _
set_option maxRecDepth 100000 in
theorem batchAny (b : Bool) (w : World) : Calls Tryz.prog 3 #[.bool b] w (TrueBelow w) := by
  cases b
  · exact run_true (G := mkGh [] [] rfl) (ul := [.bool false]) progOk noFacts (libH_ok (aB_ok [] [] rfl)) Tryz.func3 rfl (by simp [concL, conc]) runB_false w
  · exact run_true (G := mkGh [] [] rfl) (ul := [.bool true]) progOk noFacts (libH_ok (aB_ok [] [] rfl)) Tryz.func3 rfl (by simp [concL, conc]) runB_true w
set_option maxRecDepth 100000 in
theorem walkB (W : World) (base : Nat) (v0 : Value) (h0 : Value.okWide Tryz.prog W .any base 4 v0) : Calls Tryz.prog 3 #[v0] W (TrueBelow W) := by
  obtain ⟨b, rfl⟩ : ∃ b, v0 = .bool b := by
    unfold Value.okWide at h0
    rw [Tryz.underlying4] at h0
    exact cell_bool Tryz.underlying4 h0
  exact batchAny b W
end Go.Proofs.YtgfknmemejcloaaGreat
