/- complinelaw27.alive: runs, part 1. -/
import Derived.Test.YtmeifmkmlbbdgaaGreatAlQ
namespace Go.Proofs.YtmeifmkmlbbdgaaGreat
open Go Go.RowKit Gv Gv.Lt
theorem alr8 : isSn alP8 (callN (alE [] alI []) 100 103 alP8.args alP8.h0) = true := by kernel_rfl
set_option maxRecDepth 100000 in
theorem als8 {G : Gh} (F : Facts G alI [] []) (hm : ¬ G.mono) : SNOk Tryz.prog G alP8 := snap_ok progOk F (alH F hm alN) 100 alP8 Tryz.func103 rfl alr8
theorem alr9 : isSn alP9 (callN (alE [] alI []) 100 103 alP9.args alP9.h0) = true := by kernel_rfl
set_option maxRecDepth 100000 in
theorem als9 {G : Gh} (F : Facts G alI [] []) (hm : ¬ G.mono) : SNOk Tryz.prog G alP9 := snap_ok progOk F (alH F hm alN) 100 alP9 Tryz.func103 rfl alr9
theorem alr10 : isSn alP10 (callN (alE [alP8, alP9] alI []) 100 42 alP10.args alP10.h0) = true := by kernel_rfl
set_option maxRecDepth 100000 in
theorem als10 {G : Gh} (F : Facts G alI [] []) (hm : ¬ G.mono) : SNOk Tryz.prog G alP10 := snap_ok progOk F (alH F hm (List.forall_mem_cons.2 ⟨als8 F hm, (List.forall_mem_cons.2 ⟨als9 F hm, alN⟩)⟩)) 100 alP10 Tryz.func42 rfl alr10
end Go.Proofs.YtmeifmkmlbbdgaaGreat
