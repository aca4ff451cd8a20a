/- complinelaw23.alive returns true, and nothing that was there has changed. -/
import Derived.Test.YtkhckfpflfkjmaaGreatLib
namespace Go.Proofs.YtkhckfpflfkjmaaGreat
open Go.RowKit Gv
theorem aliveRun16 : (callN (evE Tryz.prog (libH (mapsH [] [] [] nilH)) [] [] []) 100 16 [] H0).isTrue = true := by kernel_rfl
set_option maxRecDepth 100000 in
theorem aliveAny16 (w : World) : Calls Tryz.prog 16 #[] w (TrueBelow w) :=
  run_true (G := mkGh [] [] rfl) (ul := []) progOk noFacts (libH_ok (mapsH_ok noFacts nilH_ok)) Tryz.func16 rfl concL_nil aliveRun16 w
theorem aliveOk16 (G : Gh) : HTOk Tryz.prog G ⟨16, [], .bool true⟩ := by
  refine ⟨⟨_, _, Tryz.func16, rfl⟩, fun φ ul hl w => ?_⟩
  rw [concL_nil] at hl
  cases hl
  refine (aliveAny16 w).mono ?_
  rintro e w' ⟨rfl, hb⟩
  exact ⟨.bool true, fun ψ => by rw [conc], rfl, hb⟩
end Go.Proofs.YtkhckfpflfkjmaaGreat
