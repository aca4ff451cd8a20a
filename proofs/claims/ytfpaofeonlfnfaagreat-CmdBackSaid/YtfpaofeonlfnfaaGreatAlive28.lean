/- complinelaw28.alive returns true, and nothing that was there has changed. -/
import Derived.Test.YtfpaofeonlfnfaaGreatLib
namespace Go.Proofs.YtfpaofeonlfnfaaGreat
open Go.RowKit Gv
theorem aliveRun17 : (callN (evE Tryz.prog (libH (mapsH [] [] [] nilH)) [] [] []) 100 17 [] H0).isTrue = true := by kernel_rfl
set_option maxRecDepth 100000 in
theorem aliveAny17 (w : World) : Calls Tryz.prog 17 #[] w (TrueBelow w) :=
  run_true (G := mkGh [] [] rfl) (ul := []) progOk noFacts (libH_ok (mapsH_ok noFacts nilH_ok)) Tryz.func17 rfl concL_nil aliveRun17 w
theorem aliveOk17 (G : Gh) : HTOk Tryz.prog G ⟨17, [], .bool true⟩ := by
  refine ⟨⟨_, _, Tryz.func17, rfl⟩, fun φ ul hl w => ?_⟩
  rw [concL_nil] at hl
  cases hl
  refine (aliveAny17 w).mono ?_
  rintro e w' ⟨rfl, hb⟩
  exact ⟨.bool true, fun ψ => by rw [conc], rfl, hb⟩
end Go.Proofs.YtfpaofeonlfnfaaGreat
