/- complinelaw27.EodNone returns true, for every input. -/
import Derived.Test.YtmeifmkmlbbdgaaGreatAliveS27
namespace Go.Proofs.YtmeifmkmlbbdgaaGreat
open Go.RowKit Gv
noncomputable def aE : Nat → Option (Gv.Call → List V → H → RV) := hkT [⟨6, [], .bool true⟩]
theorem runE : (callN (evE Tryz.prog (libH aE) [] [] []) 100 3 [.opq 0] H0).isTrue = true := by kernel_rfl
set_option maxRecDepth 100000 in
theorem aE_ok (e : List Value) (s : List Int) (he : e.all (·.oneCell') = true) : HooksOk Tryz.prog (mkGh e s he) aE := hkT_ok progOk _ fun t ht => by
  simp at ht
  subst ht
  exact aliveOk27 _
set_option maxRecDepth 100000 in
theorem eodAny (n : Int) (w : World) : Calls Tryz.prog 3 #[.int .i64 n] w (TrueBelow w) :=
  run_true (G := mkGh [.int .i64 n] [] rfl) (ul := [.int .i64 n]) progOk noFacts (libH_ok (aE_ok [.int .i64 n] [] rfl)) Tryz.func3 rfl (by simp [concL, conc, mkGh]) runE w
set_option maxRecDepth 100000 in
theorem walkE (W : World) (base : Nat) (v0 : Value) (h0 : Value.okWide Tryz.prog W .any base 3 v0) : Calls Tryz.prog 3 #[v0] W (TrueBelow W) := by
  obtain ⟨n, rfl, _, _⟩ : ∃ n : Int, v0 = .int .i64 n ∧ -9223372036854775808 ≤ n ∧ n ≤ 9223372036854775807 := by
    unfold Value.okWide at h0
    rw [Tryz.underlying3] at h0
    exact cell_int Tryz.underlying3 h0
  exact eodAny n W
end Go.Proofs.YtmeifmkmlbbdgaaGreat
