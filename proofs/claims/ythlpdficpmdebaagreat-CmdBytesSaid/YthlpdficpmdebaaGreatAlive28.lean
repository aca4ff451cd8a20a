/- complinelaw28.alive returns true, and nothing that was there has changed. -/
import Derived.Test.YthlpdficpmdebaaGreatLib
namespace Go.Proofs.YthlpdficpmdebaaGreat
open Go.RowKit Gv
theorem aliveRun5 : (callN (evE Tryz.prog (libH (mapsH [] [] [] nilH)) [] [] []) 100 5 [] H0).isTrue = true := by kernel_rfl
set_option maxRecDepth 100000 in
theorem aliveAny5 (w : World) : Calls Tryz.prog 5 #[] w (TrueBelow w) :=
  run_true (G := mkGh [] [] rfl) (ul := []) progOk noFacts (libH_ok (mapsH_ok noFacts nilH_ok)) Tryz.func5 rfl concL_nil aliveRun5 w
theorem aliveOk5 (G : Gh) : HTOk Tryz.prog G ⟨5, [], .bool true⟩ := by
  refine ⟨⟨_, _, Tryz.func5, rfl⟩, fun φ ul hl w => ?_⟩
  rw [concL_nil] at hl
  cases hl
  refine (aliveAny5 w).mono ?_
  rintro e w' ⟨rfl, hb⟩
  exact ⟨.bool true, fun ψ => by rw [conc], rfl, hb⟩
end Go.Proofs.YthlpdficpmdebaaGreat
