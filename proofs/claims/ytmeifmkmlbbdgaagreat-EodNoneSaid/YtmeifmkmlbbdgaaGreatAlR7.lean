/- complinelaw27.alive: runs, part 7. -/
import Derived.Test.YtmeifmkmlbbdgaaGreatAlQ
import Derived.Test.YtmeifmkmlbbdgaaGreatAlR0
import Derived.Test.YtmeifmkmlbbdgaaGreatAlR1
import Derived.Test.YtmeifmkmlbbdgaaGreatAlR5
import Derived.Test.YtmeifmkmlbbdgaaGreatAlR6
namespace Go.Proofs.YtmeifmkmlbbdgaaGreat
open Go Go.RowKit Gv Gv.Lt
theorem alr34 : isSn alP34 (callN (alE [alP33] alI []) 100 104 alP34.args alP34.h0) = true := by kernel_rfl
set_option maxRecDepth 100000 in
theorem als34 {G : Gh} (F : Facts G alI [] []) (hm : ¬ G.mono) : SNOk Tryz.prog G alP34 := snap_ok progOk F (alH F hm (List.forall_mem_cons.2 ⟨als33 F hm, alN⟩)) 100 alP34 Tryz.func104 rfl alr34
theorem alr35 : isSn alP35 (callN (alE [alP20, alP34] alI []) 100 44 alP35.args alP35.h0) = true := by kernel_rfl
set_option maxRecDepth 100000 in
theorem als35 {G : Gh} (F : Facts G alI [] []) (hm : ¬ G.mono) : SNOk Tryz.prog G alP35 := snap_ok progOk F (alH F hm (List.forall_mem_cons.2 ⟨als20 F hm, (List.forall_mem_cons.2 ⟨als34 F hm, alN⟩)⟩)) 100 alP35 Tryz.func44 rfl alr35
theorem alr36 : isSn alP36 (callN (alE [alP0, alP1, alP2, alP3, alP4, alP5, alP6, alP7, alP10, alP35] alI []) 100 18 alP36.args alP36.h0) = true := by kernel_rfl
set_option maxRecDepth 100000 in
theorem als36 {G : Gh} (F : Facts G alI [] []) (hm : ¬ G.mono) : SNOk Tryz.prog G alP36 := snap_ok progOk F (alH F hm (List.forall_mem_cons.2 ⟨als0 F hm, (List.forall_mem_cons.2 ⟨als1 F hm, (List.forall_mem_cons.2 ⟨als2 F hm, (List.forall_mem_cons.2 ⟨als3 F hm, (List.forall_mem_cons.2 ⟨als4 F hm, (List.forall_mem_cons.2 ⟨als5 F hm, (List.forall_mem_cons.2 ⟨als6 F hm, (List.forall_mem_cons.2 ⟨als7 F hm, (List.forall_mem_cons.2 ⟨als10 F hm, (List.forall_mem_cons.2 ⟨als35 F hm, alN⟩)⟩)⟩)⟩)⟩)⟩)⟩)⟩)⟩)⟩)) 100 alP36 Tryz.func18 rfl alr36
theorem alr37 : isSn alP37 (callN (alE [] alI []) 100 5 alP37.args alP37.h0) = true := by kernel_rfl
set_option maxRecDepth 100000 in
theorem als37 {G : Gh} (F : Facts G alI [] []) (hm : ¬ G.mono) : SNOk Tryz.prog G alP37 := snap_ok progOk F (alH F hm alN) 100 alP37 Tryz.func5 rfl alr37
theorem alt0 : (callN (alE [alP36, alP37] alI []) 100 6 alArgs H0).isTrue = true := by kernel_rfl
set_option maxRecDepth 100000 in
theorem alu0 {G : Gh} (F : Facts G alI [] []) (hm : ¬ G.mono) {ul : List Value} (hl : concL G (fun _ => none) alArgs = some ul) (w : World) : Calls Tryz.prog 6 ul.toArray w (TrueBelow w) := run_true (nl := []) progOk F (alH F hm (List.forall_mem_cons.2 ⟨als36 F hm, (List.forall_mem_cons.2 ⟨als37 F hm, alN⟩)⟩)) Tryz.func6 rfl hl alt0 w
end Go.Proofs.YtmeifmkmlbbdgaaGreat
