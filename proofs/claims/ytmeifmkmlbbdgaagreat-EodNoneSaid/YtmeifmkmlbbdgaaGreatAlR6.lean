/- complinelaw27.alive: runs, part 6. -/
import Derived.Test.YtmeifmkmlbbdgaaGreatAlQ
import Derived.Test.YtmeifmkmlbbdgaaGreatAlR5
namespace Go.Proofs.YtmeifmkmlbbdgaaGreat
open Go Go.RowKit Gv Gv.Lt
theorem alr26 : isSn alP26 (callN (alE [] alI []) 100 260 alP26.args alP26.h0) = true := by kernel_rfl
set_option maxRecDepth 100000 in
theorem als26 {G : Gh} (F : Facts G alI [] []) (hm : ¬ G.mono) : SNOk Tryz.prog G alP26 := snap_ok progOk F (alH F hm alN) 100 alP26 Tryz.func260 rfl alr26
theorem alr27 : isSn alP27 (callN (alE [] alI []) 100 260 alP27.args alP27.h0) = true := by kernel_rfl
set_option maxRecDepth 100000 in
theorem als27 {G : Gh} (F : Facts G alI [] []) (hm : ¬ G.mono) : SNOk Tryz.prog G alP27 := snap_ok progOk F (alH F hm alN) 100 alP27 Tryz.func260 rfl alr27
theorem alr28 : isSn alP28 (callN (alE [] alI []) 100 399 alP28.args alP28.h0) = true := by kernel_rfl
set_option maxRecDepth 100000 in
theorem als28 {G : Gh} (F : Facts G alI [] []) (hm : ¬ G.mono) : SNOk Tryz.prog G alP28 := snap_ok progOk F (alH F hm alN) 100 alP28 Tryz.func399 rfl alr28
theorem alr29 : isSn alP29 (callN (alE [alP28] alI []) 100 398 alP29.args alP29.h0) = true := by kernel_rfl
set_option maxRecDepth 100000 in
theorem als29 {G : Gh} (F : Facts G alI [] []) (hm : ¬ G.mono) : SNOk Tryz.prog G alP29 := snap_ok progOk F (alH F hm (List.forall_mem_cons.2 ⟨als28 F hm, alN⟩)) 100 alP29 Tryz.func398 rfl alr29
theorem alr30 : isSn alP30 (callN (alE [alP29] alI []) 100 316 alP30.args alP30.h0) = true := by kernel_rfl
set_option maxRecDepth 100000 in
theorem als30 {G : Gh} (F : Facts G alI [] []) (hm : ¬ G.mono) : SNOk Tryz.prog G alP30 := snap_ok progOk F (alH F hm (List.forall_mem_cons.2 ⟨als29 F hm, alN⟩)) 100 alP30 Tryz.func316 rfl alr30
theorem alr31 : isSn alP31 (callN (alE [alP30] alI []) 100 260 alP31.args alP31.h0) = true := by kernel_rfl
set_option maxRecDepth 100000 in
theorem als31 {G : Gh} (F : Facts G alI [] []) (hm : ¬ G.mono) : SNOk Tryz.prog G alP31 := snap_ok progOk F (alH F hm (List.forall_mem_cons.2 ⟨als30 F hm, alN⟩)) 100 alP31 Tryz.func260 rfl alr31
theorem alr32 : isSn alP32 (callN (alE [] alI []) 100 260 alP32.args alP32.h0) = true := by kernel_rfl
set_option maxRecDepth 100000 in
theorem als32 {G : Gh} (F : Facts G alI [] []) (hm : ¬ G.mono) : SNOk Tryz.prog G alP32 := snap_ok progOk F (alH F hm alN) 100 alP32 Tryz.func260 rfl alr32
theorem alr33 : isSn alP33 (callN (alE [alP21, alP25, alP26, alP27, alP31, alP32] alI []) 100 189 alP33.args alP33.h0) = true := by kernel_rfl
set_option maxRecDepth 100000 in
theorem als33 {G : Gh} (F : Facts G alI [] []) (hm : ¬ G.mono) : SNOk Tryz.prog G alP33 := snap_ok progOk F (alH F hm (List.forall_mem_cons.2 ⟨als21 F hm, (List.forall_mem_cons.2 ⟨als25 F hm, (List.forall_mem_cons.2 ⟨als26 F hm, (List.forall_mem_cons.2 ⟨als27 F hm, (List.forall_mem_cons.2 ⟨als31 F hm, (List.forall_mem_cons.2 ⟨als32 F hm, alN⟩)⟩)⟩)⟩)⟩)⟩)) 100 alP33 Tryz.func189 rfl alr33
end Go.Proofs.YtmeifmkmlbbdgaaGreat
