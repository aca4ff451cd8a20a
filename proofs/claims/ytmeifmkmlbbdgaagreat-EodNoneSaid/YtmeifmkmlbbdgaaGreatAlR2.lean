/- complinelaw27.alive: runs, part 2. -/
import Derived.Test.YtmeifmkmlbbdgaaGreatAlQ
namespace Go.Proofs.YtmeifmkmlbbdgaaGreat
open Go Go.RowKit Gv Gv.Lt
theorem alr11 : isSn alP11 (callN (alE [] alI []) 100 396 alP11.args alP11.h0) = true := by kernel_rfl
set_option maxRecDepth 100000 in
theorem als11 {G : Gh} (F : Facts G alI [] []) (hm : ¬ G.mono) : SNOk Tryz.prog G alP11 := snap_ok progOk F (alH F hm alN) 100 alP11 Tryz.func396 rfl alr11
theorem alr12 : isSn alP12 (callN (alE [] alI []) 100 397 alP12.args alP12.h0) = true := by kernel_rfl
set_option maxRecDepth 100000 in
theorem als12 {G : Gh} (F : Facts G alI [] []) (hm : ¬ G.mono) : SNOk Tryz.prog G alP12 := snap_ok progOk F (alH F hm alN) 100 alP12 Tryz.func397 rfl alr12
end Go.Proofs.YtmeifmkmlbbdgaaGreat
