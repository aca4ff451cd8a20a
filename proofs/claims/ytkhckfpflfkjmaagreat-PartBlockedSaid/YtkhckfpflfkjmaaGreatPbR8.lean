/- complinelaw23.PartBlocked: runs, part 8. -/
import Derived.Test.YtkhckfpflfkjmaaGreatPbQ
import Derived.Test.YtkhckfpflfkjmaaGreatPbR0
import Derived.Test.YtkhckfpflfkjmaaGreatPbR2
import Derived.Test.YtkhckfpflfkjmaaGreatPbR3
import Derived.Test.YtkhckfpflfkjmaaGreatPbR4
namespace Go.Proofs.YtkhckfpflfkjmaaGreat
open Go Go.RowKit Gv Gv.Lt
theorem pbt36 : (callN (pbE [pbP0, pbP55, pbP62, pbP67, pbP69, pbP97, pbP101] pbI [(-1,[(3,1)]), (-1,[(9,1)])]) 100 5 pbArgs11 H0).isTrue = true := by kernel_rfl
set_option maxRecDepth 100000 in
theorem pbu36 {G : Gh} (F : Facts G pbI [(-1,[(3,1)]), (-1,[(9,1)])] []) (hm : ¬ G.mono) (hT : HooksOk Tryz.prog G (hkT pbT)) {ul : List Value} (hl : concL G (fun _ => none) pbArgs11 = some ul) (w : World) : Calls Tryz.prog 5 ul.toArray w (TrueBelow w) := by exact run_true (nl := []) progOk F (pbH F hm hT (List.forall_mem_cons.2 ⟨pbs0 ⟨F.bd, trivial, F.nl⟩ hm hT, (List.forall_mem_cons.2 ⟨pbs55 ⟨F.bd, trivial, F.nl⟩ hm hT, (List.forall_mem_cons.2 ⟨pbs62 ⟨F.bd, trivial, F.nl⟩ hm hT, (List.forall_mem_cons.2 ⟨pbs67 ⟨F.bd, F.ge.2, F.nl⟩ hm hT, (List.forall_mem_cons.2 ⟨pbs69 ⟨F.bd, ⟨F.ge.1, trivial⟩, F.nl⟩ hm hT, (List.forall_mem_cons.2 ⟨pbs97 F hm hT, (List.forall_mem_cons.2 ⟨pbs101 F hm hT, pbN⟩)⟩)⟩)⟩)⟩)⟩)⟩)) Tryz.func5 rfl hl pbt36 w
theorem pbt37 : (callN (pbE [pbP0, pbP55, pbP62, pbP67, pbP70, pbP98, pbP102] pbI [(0,[(3,-1)]), (-1,[(9,1)])]) 100 5 pbArgs11 H0).isTrue = true := by kernel_rfl
set_option maxRecDepth 100000 in
theorem pbu37 {G : Gh} (F : Facts G pbI [(0,[(3,-1)]), (-1,[(9,1)])] []) (hm : ¬ G.mono) (hT : HooksOk Tryz.prog G (hkT pbT)) {ul : List Value} (hl : concL G (fun _ => none) pbArgs11 = some ul) (w : World) : Calls Tryz.prog 5 ul.toArray w (TrueBelow w) := by exact run_true (nl := []) progOk F (pbH F hm hT (List.forall_mem_cons.2 ⟨pbs0 ⟨F.bd, trivial, F.nl⟩ hm hT, (List.forall_mem_cons.2 ⟨pbs55 ⟨F.bd, trivial, F.nl⟩ hm hT, (List.forall_mem_cons.2 ⟨pbs62 ⟨F.bd, trivial, F.nl⟩ hm hT, (List.forall_mem_cons.2 ⟨pbs67 ⟨F.bd, F.ge.2, F.nl⟩ hm hT, (List.forall_mem_cons.2 ⟨pbs70 ⟨F.bd, ⟨F.ge.1, trivial⟩, F.nl⟩ hm hT, (List.forall_mem_cons.2 ⟨pbs98 F hm hT, (List.forall_mem_cons.2 ⟨pbs102 F hm hT, pbN⟩)⟩)⟩)⟩)⟩)⟩)⟩)) Tryz.func5 rfl hl pbt37 w
theorem pbt38 : (callN (pbE [pbP0, pbP55, pbP62, pbP68, pbP71, pbP99, pbP103] pbI [(-1,[(3,1)]), (0,[(9,-1)])]) 100 5 pbArgs11 H0).isTrue = true := by kernel_rfl
set_option maxRecDepth 100000 in
theorem pbu38 {G : Gh} (F : Facts G pbI [(-1,[(3,1)]), (0,[(9,-1)])] []) (hm : ¬ G.mono) (hT : HooksOk Tryz.prog G (hkT pbT)) {ul : List Value} (hl : concL G (fun _ => none) pbArgs11 = some ul) (w : World) : Calls Tryz.prog 5 ul.toArray w (TrueBelow w) := by exact run_true (nl := []) progOk F (pbH F hm hT (List.forall_mem_cons.2 ⟨pbs0 ⟨F.bd, trivial, F.nl⟩ hm hT, (List.forall_mem_cons.2 ⟨pbs55 ⟨F.bd, trivial, F.nl⟩ hm hT, (List.forall_mem_cons.2 ⟨pbs62 ⟨F.bd, trivial, F.nl⟩ hm hT, (List.forall_mem_cons.2 ⟨pbs68 ⟨F.bd, F.ge.2, F.nl⟩ hm hT, (List.forall_mem_cons.2 ⟨pbs71 ⟨F.bd, ⟨F.ge.1, trivial⟩, F.nl⟩ hm hT, (List.forall_mem_cons.2 ⟨pbs99 F hm hT, (List.forall_mem_cons.2 ⟨pbs103 F hm hT, pbN⟩)⟩)⟩)⟩)⟩)⟩)⟩)) Tryz.func5 rfl hl pbt38 w
theorem pbt39 : (callN (pbE [pbP0, pbP55, pbP62, pbP68, pbP72, pbP100, pbP104] pbI [(0,[(3,-1)]), (0,[(9,-1)])]) 100 5 pbArgs11 H0).isTrue = true := by kernel_rfl
set_option maxRecDepth 100000 in
theorem pbu39 {G : Gh} (F : Facts G pbI [(0,[(3,-1)]), (0,[(9,-1)])] []) (hm : ¬ G.mono) (hT : HooksOk Tryz.prog G (hkT pbT)) {ul : List Value} (hl : concL G (fun _ => none) pbArgs11 = some ul) (w : World) : Calls Tryz.prog 5 ul.toArray w (TrueBelow w) := by exact run_true (nl := []) progOk F (pbH F hm hT (List.forall_mem_cons.2 ⟨pbs0 ⟨F.bd, trivial, F.nl⟩ hm hT, (List.forall_mem_cons.2 ⟨pbs55 ⟨F.bd, trivial, F.nl⟩ hm hT, (List.forall_mem_cons.2 ⟨pbs62 ⟨F.bd, trivial, F.nl⟩ hm hT, (List.forall_mem_cons.2 ⟨pbs68 ⟨F.bd, F.ge.2, F.nl⟩ hm hT, (List.forall_mem_cons.2 ⟨pbs72 ⟨F.bd, ⟨F.ge.1, trivial⟩, F.nl⟩ hm hT, (List.forall_mem_cons.2 ⟨pbs100 F hm hT, (List.forall_mem_cons.2 ⟨pbs104 F hm hT, pbN⟩)⟩)⟩)⟩)⟩)⟩)⟩)) Tryz.func5 rfl hl pbt39 w
end Go.Proofs.YtkhckfpflfkjmaaGreat
