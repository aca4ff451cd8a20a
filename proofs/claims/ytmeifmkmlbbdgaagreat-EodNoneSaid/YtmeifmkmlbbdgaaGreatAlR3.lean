/- complinelaw27.alive: runs, part 3. -/
import Derived.Test.YtmeifmkmlbbdgaaGreatAlQ
import Derived.Test.YtmeifmkmlbbdgaaGreatAlR2
namespace Go.Proofs.YtmeifmkmlbbdgaaGreat
open Go Go.RowKit Gv Gv.Lt
theorem alr13 : isSn alP13 (callN (alE [] alI []) 100 396 alP13.args alP13.h0) = true := by kernel_rfl
set_option maxRecDepth 100000 in
theorem als13 {G : Gh} (F : Facts G alI [] []) (hm : ¬ G.mono) : SNOk Tryz.prog G alP13 := snap_ok progOk F (alH F hm alN) 100 alP13 Tryz.func396 rfl alr13
theorem alr14 : isSn alP14 (callN (alE [alP11, alP12, alP13] alI []) 100 315 alP14.args alP14.h0) = true := by kernel_rfl
set_option maxRecDepth 100000 in
theorem als14 {G : Gh} (F : Facts G alI [] []) (hm : ¬ G.mono) : SNOk Tryz.prog G alP14 := snap_ok progOk F (alH F hm (List.forall_mem_cons.2 ⟨als11 F hm, (List.forall_mem_cons.2 ⟨als12 F hm, (List.forall_mem_cons.2 ⟨als13 F hm, alN⟩)⟩)⟩)) 100 alP14 Tryz.func315 rfl alr14
theorem alr15 : isSn alP15 (callN (alE [alP14] alI []) 100 260 alP15.args alP15.h0) = true := by kernel_rfl
set_option maxRecDepth 100000 in
theorem als15 {G : Gh} (F : Facts G alI [] []) (hm : ¬ G.mono) : SNOk Tryz.prog G alP15 := snap_ok progOk F (alH F hm (List.forall_mem_cons.2 ⟨als14 F hm, alN⟩)) 100 alP15 Tryz.func260 rfl alr15
theorem alr16 : isSn alP16 (callN (alE [alP15] alI []) 100 189 alP16.args alP16.h0) = true := by kernel_rfl
set_option maxRecDepth 100000 in
theorem als16 {G : Gh} (F : Facts G alI [] []) (hm : ¬ G.mono) : SNOk Tryz.prog G alP16 := snap_ok progOk F (alH F hm (List.forall_mem_cons.2 ⟨als15 F hm, alN⟩)) 100 alP16 Tryz.func189 rfl alr16
end Go.Proofs.YtmeifmkmlbbdgaaGreat
