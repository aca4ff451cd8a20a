/- complinelaw28.alive returns true, and nothing that was there has changed. -/
import Derived.Test.YtkhckfpflfkjmaaGreatLib
namespace Go.Proofs.YtkhckfpflfkjmaaGreat
open Go.RowKit Gv
theorem aliveRun9 : (callN (evE Tryz.prog (libH (mapsH [] [] [] nilH)) [] [] []) 100 9 [] H0).isTrue = true := by kernel_rfl
set_option maxRecDepth 100000 in
theorem aliveAny9 (w : World) : Calls Tryz.prog 9 #[] w (TrueBelow w) :=
  run_true (G := mkGh [] [] rfl) (ul := []) progOk noFacts (libH_ok (mapsH_ok noFacts nilH_ok)) Tryz.func9 rfl concL_nil aliveRun9 w
theorem aliveOk9 (G : Gh) : HTOk Tryz.prog G ⟨9, [], .bool true⟩ := by
  refine ⟨⟨_, _, Tryz.func9, rfl⟩, fun φ ul hl w => ?_⟩
  rw [concL_nil] at hl
  cases hl
  refine (aliveAny9 w).mono ?_
  rintro e w' ⟨rfl, hb⟩
  exact ⟨.bool true, fun ψ => by rw [conc], rfl, hb⟩
end Go.Proofs.YtkhckfpflfkjmaaGreat
