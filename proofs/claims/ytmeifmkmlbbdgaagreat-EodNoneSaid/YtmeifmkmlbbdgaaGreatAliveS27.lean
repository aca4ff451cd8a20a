/- complinelaw27.alive returns true, and nothing that was there has changed. -/
import Derived.Test.YtmeifmkmlbbdgaaGreatAlIn
namespace Go.Proofs.YtmeifmkmlbbdgaaGreat
open Go.RowKit Gv
set_option maxRecDepth 100000 in
theorem aliveAny27 (w : World) : Calls Tryz.prog 6 #[] w (TrueBelow w) := al_in w trivial trivial trivial
theorem aliveOk27 (G : Gh) : HTOk Tryz.prog G ⟨6, [], .bool true⟩ := by
  refine ⟨⟨_, _, Tryz.func6, rfl⟩, fun φ ul hl w => ?_⟩
  rw [concL_nil] at hl
  cases hl
  refine (aliveAny27 w).mono ?_
  rintro e w' ⟨rfl, hb⟩
  exact ⟨.bool true, fun ψ => by rw [conc], rfl, hb⟩
end Go.Proofs.YtmeifmkmlbbdgaaGreat
