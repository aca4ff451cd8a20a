/- complinelaw27.alive: runs, part 5. -/
import Derived.Test.YtmeifmkmlbbdgaaGreatAlQ
import Derived.Test.YtmeifmkmlbbdgaaGreatAlR3
import Derived.Test.YtmeifmkmlbbdgaaGreatAlR4
namespace Go.Proofs.YtmeifmkmlbbdgaaGreat
open Go Go.RowKit Gv Gv.Lt
theorem alr18 : isSn alP18 (callN (alE [] alI []) 100 262 alP18.args alP18.h0) = true := by kernel_rfl
set_option maxRecDepth 100000 in
theorem als18 {G : Gh} (F : Facts G alI [] []) (hm : ¬ G.mono) : SNOk Tryz.prog G alP18 := snap_ok progOk F (alH F hm alN) 100 alP18 Tryz.func262 rfl alr18
theorem alr19 : isSn alP19 (callN (alE [alP17, alP18] alI []) 100 190 alP19.args alP19.h0) = true := by kernel_rfl
set_option maxRecDepth 100000 in
theorem als19 {G : Gh} (F : Facts G alI [] []) (hm : ¬ G.mono) : SNOk Tryz.prog G alP19 := snap_ok progOk F (alH F hm (List.forall_mem_cons.2 ⟨als17 F hm, (List.forall_mem_cons.2 ⟨als18 F hm, alN⟩)⟩)) 100 alP19 Tryz.func190 rfl alr19
theorem alr20 : isSn alP20 (callN (alE [alP16, alP19] alI []) 100 104 alP20.args alP20.h0) = true := by kernel_rfl
set_option maxRecDepth 100000 in
theorem als20 {G : Gh} (F : Facts G alI [] []) (hm : ¬ G.mono) : SNOk Tryz.prog G alP20 := snap_ok progOk F (alH F hm (List.forall_mem_cons.2 ⟨als16 F hm, (List.forall_mem_cons.2 ⟨als19 F hm, alN⟩)⟩)) 100 alP20 Tryz.func104 rfl alr20
theorem alr21 : isSn alP21 (callN (alE [] alI []) 100 260 alP21.args alP21.h0) = true := by kernel_rfl
set_option maxRecDepth 100000 in
theorem als21 {G : Gh} (F : Facts G alI [] []) (hm : ¬ G.mono) : SNOk Tryz.prog G alP21 := snap_ok progOk F (alH F hm alN) 100 alP21 Tryz.func260 rfl alr21
theorem alr22 : isSn alP22 (callN (alE [] alI []) 100 399 alP22.args alP22.h0) = true := by kernel_rfl
set_option maxRecDepth 100000 in
theorem als22 {G : Gh} (F : Facts G alI [] []) (hm : ¬ G.mono) : SNOk Tryz.prog G alP22 := snap_ok progOk F (alH F hm alN) 100 alP22 Tryz.func399 rfl alr22
theorem alr23 : isSn alP23 (callN (alE [alP22] alI []) 100 398 alP23.args alP23.h0) = true := by kernel_rfl
set_option maxRecDepth 100000 in
theorem als23 {G : Gh} (F : Facts G alI [] []) (hm : ¬ G.mono) : SNOk Tryz.prog G alP23 := snap_ok progOk F (alH F hm (List.forall_mem_cons.2 ⟨als22 F hm, alN⟩)) 100 alP23 Tryz.func398 rfl alr23
theorem alr24 : isSn alP24 (callN (alE [alP23] alI []) 100 316 alP24.args alP24.h0) = true := by kernel_rfl
set_option maxRecDepth 100000 in
theorem als24 {G : Gh} (F : Facts G alI [] []) (hm : ¬ G.mono) : SNOk Tryz.prog G alP24 := snap_ok progOk F (alH F hm (List.forall_mem_cons.2 ⟨als23 F hm, alN⟩)) 100 alP24 Tryz.func316 rfl alr24
theorem alr25 : isSn alP25 (callN (alE [alP24] alI []) 100 260 alP25.args alP25.h0) = true := by kernel_rfl
set_option maxRecDepth 100000 in
theorem als25 {G : Gh} (F : Facts G alI [] []) (hm : ¬ G.mono) : SNOk Tryz.prog G alP25 := snap_ok progOk F (alH F hm (List.forall_mem_cons.2 ⟨als24 F hm, alN⟩)) 100 alP25 Tryz.func260 rfl alr25
end Go.Proofs.YtmeifmkmlbbdgaaGreat
