/- complinelaw22.alive returns true, and nothing that was there has changed. -/
import Derived.Test.YtamdnaplnkmokaaGreatLib
namespace Go.Proofs.YtamdnaplnkmokaaGreat
open Go.RowKit Gv
theorem alive_run : (callN (evE Tryz.prog (libH nilH) [] [] []) 100 5 [] H0).isTrue = true := by kernel_rfl
set_option maxRecDepth 100000 in
theorem alive_any (w : World) : Calls Tryz.prog 5 #[] w (TrueBelow w) :=
  run_true (G := mkGh [] [] rfl) (ul := []) progOk noFacts (libH_ok nilH_ok) Tryz.func5 rfl concL_nil alive_run w
theorem alive_ok (G : Gh) : HTOk Tryz.prog G ⟨5, [], .bool true⟩ := by
  refine ⟨⟨_, _, Tryz.func5, rfl⟩, fun φ ul hl w => ?_⟩
  rw [concL_nil] at hl
  cases hl
  refine (alive_any w).mono ?_
  rintro e w' ⟨rfl, hb⟩
  exact ⟨.bool true, fun ψ => by rw [conc], rfl, hb⟩
end Go.Proofs.YtamdnaplnkmokaaGreat
