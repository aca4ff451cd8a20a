/- complinelaw27.alive: within its bounds. -/
import Derived.Test.YtmeifmkmlbbdgaaGreatAlR0
import Derived.Test.YtmeifmkmlbbdgaaGreatAlR1
import Derived.Test.YtmeifmkmlbbdgaaGreatAlR2
import Derived.Test.YtmeifmkmlbbdgaaGreatAlR3
import Derived.Test.YtmeifmkmlbbdgaaGreatAlR4
import Derived.Test.YtmeifmkmlbbdgaaGreatAlR5
import Derived.Test.YtmeifmkmlbbdgaaGreatAlR6
import Derived.Test.YtmeifmkmlbbdgaaGreatAlR7
namespace Go.Proofs.YtmeifmkmlbbdgaaGreat
open Go Go.RowKit Gv Gv.Lt
set_option maxRecDepth 100000 in
theorem al_in (w : World) (hnl : nlOk (mkGh [] [] rfl) []) (hI : bdOk (mkGh [] [] rfl).σ alI 0) : geOk (mkGh [] [] rfl).σ [] → Calls Tryz.prog 6 #[] w (TrueBelow w) := by
  have hm : ¬ ((mkGh [] [] rfl)).mono := fun h => h
  have hl : concL (mkGh [] [] rfl) (fun _ => none) alArgs = some [] := by unfold alArgs; exact concL_nil
  exact (fun hg => alu0 ⟨hI, hg, hnl⟩ hm hl w)
end Go.Proofs.YtmeifmkmlbbdgaaGreat
