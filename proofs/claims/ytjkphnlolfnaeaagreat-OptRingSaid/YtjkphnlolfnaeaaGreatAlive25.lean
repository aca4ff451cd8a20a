/- complinelaw25.alive returns true, and nothing that was there has changed. -/
import Derived.Test.YtjkphnlolfnaeaaGreatLib
namespace Go.Proofs.YtjkphnlolfnaeaaGreat
open Go.RowKit Gv
theorem aliveRun4 : (callN (evE Tryz.prog (libH (mapsH [] [] [] nilH)) [] [] []) 100 4 [] H0).isTrue = true := by kernel_rfl
set_option maxRecDepth 100000 in
theorem aliveAny4 (w : World) : Calls Tryz.prog 4 #[] w (TrueBelow w) :=
  run_true (G := mkGh [] [] rfl) (ul := []) progOk noFacts (libH_ok (mapsH_ok noFacts nilH_ok)) Tryz.func4 rfl concL_nil aliveRun4 w
theorem aliveOk4 (G : Gh) : HTOk Tryz.prog G ⟨4, [], .bool true⟩ := by
  refine ⟨⟨_, _, Tryz.func4, rfl⟩, fun φ ul hl w => ?_⟩
  rw [concL_nil] at hl
  cases hl
  refine (aliveAny4 w).mono ?_
  rintro e w' ⟨rfl, hb⟩
  exact ⟨.bool true, fun ψ => by rw [conc], rfl, hb⟩
end Go.Proofs.YtjkphnlolfnaeaaGreat
