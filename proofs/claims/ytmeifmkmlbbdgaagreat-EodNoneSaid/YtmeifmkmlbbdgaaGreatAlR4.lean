/- complinelaw27.alive: runs, part 4. -/
import Derived.Test.YtmeifmkmlbbdgaaGreatAlQ
namespace Go.Proofs.YtmeifmkmlbbdgaaGreat
open Go Go.RowKit Gv Gv.Lt
theorem alr17 : isSn alP17 (callN (alE [] alI []) 100 261 alP17.args alP17.h0) = true := by kernel_rfl
set_option maxRecDepth 100000 in
theorem als17 {G : Gh} (F : Facts G alI [] []) (hm : ¬ G.mono) : SNOk Tryz.prog G alP17 := snap_ok progOk F (alH F hm alN) 100 alP17 Tryz.func261 rfl alr17
end Go.Proofs.YtmeifmkmlbbdgaaGreat
