/- complinelaw28.alive returns true, and nothing that was there has changed. -/
import Derived.Test.YtgmbppfkkiobhaaGreatLib
namespace Go.Proofs.YtgmbppfkkiobhaaGreat
open Go.RowKit Gv
theorem aliveRun21 : (callN (evE Tryz.prog (libH (mapsH [] [] [] nilH)) [] [] []) 100 21 [] H0).isTrue = true := by kernel_rfl
set_option maxRecDepth 100000 in
theorem aliveAny21 (w : World) : Calls Tryz.prog 21 #[] w (TrueBelow w) :=
  run_true (G := mkGh [] [] rfl) (ul := []) progOk noFacts (libH_ok (mapsH_ok noFacts nilH_ok)) Tryz.func21 rfl concL_nil aliveRun21 w
theorem aliveOk21 (G : Gh) : HTOk Tryz.prog G ⟨21, [], .bool true⟩ := by
  refine ⟨⟨_, _, Tryz.func21, rfl⟩, fun φ ul hl w => ?_⟩
  rw [concL_nil] at hl
  cases hl
  refine (aliveAny21 w).mono ?_
  rintro e w' ⟨rfl, hb⟩
  exact ⟨.bool true, fun ψ => by rw [conc], rfl, hb⟩
end Go.Proofs.YtgmbppfkkiobhaaGreat
