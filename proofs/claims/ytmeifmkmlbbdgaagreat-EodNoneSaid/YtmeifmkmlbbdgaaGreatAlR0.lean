/- complinelaw27.alive: runs, part 0. -/
import Derived.Test.YtmeifmkmlbbdgaaGreatAlQ
namespace Go.Proofs.YtmeifmkmlbbdgaaGreat
open Go Go.RowKit Gv Gv.Lt
theorem alr0 : isSn alP0 (callN (alE [] alI []) 100 39 alP0.args alP0.h0) = true := by kernel_rfl
set_option maxRecDepth 100000 in
theorem als0 {G : Gh} (F : Facts G alI [] []) (hm : ¬ G.mono) : SNOk Tryz.prog G alP0 := snap_ok progOk F (alH F hm alN) 100 alP0 Tryz.func39 rfl alr0
theorem alr1 : isSn alP1 (callN (alE [] alI []) 100 40 alP1.args alP1.h0) = true := by kernel_rfl
set_option maxRecDepth 100000 in
theorem als1 {G : Gh} (F : Facts G alI [] []) (hm : ¬ G.mono) : SNOk Tryz.prog G alP1 := snap_ok progOk F (alH F hm alN) 100 alP1 Tryz.func40 rfl alr1
theorem alr2 : isSn alP2 (callN (alE [] alI []) 100 40 alP2.args alP2.h0) = true := by kernel_rfl
set_option maxRecDepth 100000 in
theorem als2 {G : Gh} (F : Facts G alI [] []) (hm : ¬ G.mono) : SNOk Tryz.prog G alP2 := snap_ok progOk F (alH F hm alN) 100 alP2 Tryz.func40 rfl alr2
theorem alr3 : isSn alP3 (callN (alE [] alI []) 100 40 alP3.args alP3.h0) = true := by kernel_rfl
set_option maxRecDepth 100000 in
theorem als3 {G : Gh} (F : Facts G alI [] []) (hm : ¬ G.mono) : SNOk Tryz.prog G alP3 := snap_ok progOk F (alH F hm alN) 100 alP3 Tryz.func40 rfl alr3
theorem alr4 : isSn alP4 (callN (alE [] alI []) 100 40 alP4.args alP4.h0) = true := by kernel_rfl
set_option maxRecDepth 100000 in
theorem als4 {G : Gh} (F : Facts G alI [] []) (hm : ¬ G.mono) : SNOk Tryz.prog G alP4 := snap_ok progOk F (alH F hm alN) 100 alP4 Tryz.func40 rfl alr4
theorem alr5 : isSn alP5 (callN (alE [] alI []) 100 40 alP5.args alP5.h0) = true := by kernel_rfl
set_option maxRecDepth 100000 in
theorem als5 {G : Gh} (F : Facts G alI [] []) (hm : ¬ G.mono) : SNOk Tryz.prog G alP5 := snap_ok progOk F (alH F hm alN) 100 alP5 Tryz.func40 rfl alr5
theorem alr6 : isSn alP6 (callN (alE [] alI []) 100 40 alP6.args alP6.h0) = true := by kernel_rfl
set_option maxRecDepth 100000 in
theorem als6 {G : Gh} (F : Facts G alI [] []) (hm : ¬ G.mono) : SNOk Tryz.prog G alP6 := snap_ok progOk F (alH F hm alN) 100 alP6 Tryz.func40 rfl alr6
theorem alr7 : isSn alP7 (callN (alE [] alI []) 100 40 alP7.args alP7.h0) = true := by kernel_rfl
set_option maxRecDepth 100000 in
theorem als7 {G : Gh} (F : Facts G alI [] []) (hm : ¬ G.mono) : SNOk Tryz.prog G alP7 := snap_ok progOk F (alH F hm alN) 100 alP7 Tryz.func40 rfl alr7
end Go.Proofs.YtmeifmkmlbbdgaaGreat
