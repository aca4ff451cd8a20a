/- complinelaw26.alive returns true, and nothing that was there has changed. -/
import Derived.Test.YtgfknmemejcloaaGreatLib
namespace Go.Proofs.YtgfknmemejcloaaGreat
open Go.RowKit Gv
theorem aliveRun7 : (callN (evE Tryz.prog (libH (mapsH [] [] [] nilH)) [] [] []) 100 7 [] H0).isTrue = true := by kernel_rfl
set_option maxRecDepth 100000 in
theorem aliveAny7 (w : World) : Calls Tryz.prog 7 #[] w (TrueBelow w) :=
  run_true (G := mkGh [] [] rfl) (ul := []) progOk noFacts (libH_ok (mapsH_ok noFacts nilH_ok)) Tryz.func7 rfl concL_nil aliveRun7 w
theorem aliveOk7 (G : Gh) : HTOk Tryz.prog G ⟨7, [], .bool true⟩ := by
  refine ⟨⟨_, _, Tryz.func7, rfl⟩, fun φ ul hl w => ?_⟩
  rw [concL_nil] at hl
  cases hl
  refine (aliveAny7 w).mono ?_
  rintro e w' ⟨rfl, hb⟩
  exact ⟨.bool true, fun ψ => by rw [conc], rfl, hb⟩
end Go.Proofs.YtgfknmemejcloaaGreat
