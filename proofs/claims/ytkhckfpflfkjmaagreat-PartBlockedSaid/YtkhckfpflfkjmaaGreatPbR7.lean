/- complinelaw23.PartBlocked: runs, part 7. -/
import Derived.Test.YtkhckfpflfkjmaaGreatPbQ
import Derived.Test.YtkhckfpflfkjmaaGreatPbR0
import Derived.Test.YtkhckfpflfkjmaaGreatPbR2
import Derived.Test.YtkhckfpflfkjmaaGreatPbR3
import Derived.Test.YtkhckfpflfkjmaaGreatPbR4
namespace Go.Proofs.YtkhckfpflfkjmaaGreat
open Go Go.RowKit Gv Gv.Lt
theorem pbt18 : ((runL (pbE [pbP0, pbP1, pbP3, pbP45, pbP49, pbP53, pbP60] pbI [(-1,[(3,1)]), (0,[(9,-1)]), (0,[(0,1),(4,-1)])]) (pbL1 9 false) 100 Tryz.f5 pbArgs6 H0).isV (.bool true)) = true := by kernel_rfl
set_option maxRecDepth 100000 in
theorem pbu18 {G : Gh} (F0 : Facts G pbI [(-1,[(3,1)]), (0,[(9,-1)]), (0,[(0,1),(4,-1)])] []) (hm0 : ¬ G.mono) (hnl : ∀ G1, GLe 10 G G1 → nlOk G1 []) (hT0 : ∀ G1, GLe 10 G G1 → HooksOk Tryz.prog G1 (hkT pbT)) (hL : LkOk Tryz.prog G 10 Tryz.f5.ntmps (pbL1 9 false) (blocksC ((Tryz.f5.body).getD .skip))) {ul : List Value} (hl : concL G (fun _ => none) pbArgs6 = some ul) (w : World) : Calls Tryz.prog 5 ul.toArray w (TrueBelow w) := by
  have hF : ∀ G1, GLe 10 G G1 → Facts G1 pbI [(-1,[(3,1)]), (0,[(9,-1)]), (0,[(0,1),(4,-1)])] [] := fun G1 g => pb_fle g F0 (by kernel_rfl) (hnl G1 g)
  refine runL_val (K := 10) (G := G) (fun G1 g => ?_) (fun G1 g => ?_) Tryz.func5 rfl hL pbt18 hl (fun G1 g φ => by rw [conc]) w
  · have F := hF G1 g
    exact evE_ok progOk F.ends (geOk_at F.ge) (nlOk_at F.nl)
  · have F := hF G1 g
    have hm : ¬ G1.mono := by rw [g.mono]; exact hm0
    have hT := hT0 G1 g
    exact evE_fn progOk (pbH F hm hT (List.forall_mem_cons.2 ⟨pbs0 ⟨F.bd, trivial, F.nl⟩ hm hT, (List.forall_mem_cons.2 ⟨pbs1 ⟨F.bd, trivial, F.nl⟩ hm hT, (List.forall_mem_cons.2 ⟨pbs3 ⟨F.bd, trivial, F.nl⟩ hm hT, (List.forall_mem_cons.2 ⟨pbs45 ⟨F.bd, ⟨F.ge.2.1, trivial⟩, F.nl⟩ hm hT, (List.forall_mem_cons.2 ⟨pbs49 ⟨F.bd, ⟨F.ge.1, trivial⟩, F.nl⟩ hm hT, (List.forall_mem_cons.2 ⟨pbs53 F hm hT, (List.forall_mem_cons.2 ⟨pbs60 F hm hT, pbN⟩)⟩)⟩)⟩)⟩)⟩)⟩))
theorem pbt19 : ((runL (pbE [pbP0, pbP1, pbP3, pbP45, pbP50, pbP54, pbP61] pbI [(0,[(3,-1)]), (0,[(9,-1)]), (0,[(0,1),(4,-1)])]) (pbL1 9 false) 100 Tryz.f5 pbArgs6 H0).isV (.bool true)) = true := by kernel_rfl
set_option maxRecDepth 100000 in
theorem pbu19 {G : Gh} (F0 : Facts G pbI [(0,[(3,-1)]), (0,[(9,-1)]), (0,[(0,1),(4,-1)])] []) (hm0 : ¬ G.mono) (hnl : ∀ G1, GLe 10 G G1 → nlOk G1 []) (hT0 : ∀ G1, GLe 10 G G1 → HooksOk Tryz.prog G1 (hkT pbT)) (hL : LkOk Tryz.prog G 10 Tryz.f5.ntmps (pbL1 9 false) (blocksC ((Tryz.f5.body).getD .skip))) {ul : List Value} (hl : concL G (fun _ => none) pbArgs6 = some ul) (w : World) : Calls Tryz.prog 5 ul.toArray w (TrueBelow w) := by
  have hF : ∀ G1, GLe 10 G G1 → Facts G1 pbI [(0,[(3,-1)]), (0,[(9,-1)]), (0,[(0,1),(4,-1)])] [] := fun G1 g => pb_fle g F0 (by kernel_rfl) (hnl G1 g)
  refine runL_val (K := 10) (G := G) (fun G1 g => ?_) (fun G1 g => ?_) Tryz.func5 rfl hL pbt19 hl (fun G1 g φ => by rw [conc]) w
  · have F := hF G1 g
    exact evE_ok progOk F.ends (geOk_at F.ge) (nlOk_at F.nl)
  · have F := hF G1 g
    have hm : ¬ G1.mono := by rw [g.mono]; exact hm0
    have hT := hT0 G1 g
    exact evE_fn progOk (pbH F hm hT (List.forall_mem_cons.2 ⟨pbs0 ⟨F.bd, trivial, F.nl⟩ hm hT, (List.forall_mem_cons.2 ⟨pbs1 ⟨F.bd, trivial, F.nl⟩ hm hT, (List.forall_mem_cons.2 ⟨pbs3 ⟨F.bd, trivial, F.nl⟩ hm hT, (List.forall_mem_cons.2 ⟨pbs45 ⟨F.bd, ⟨F.ge.2.1, trivial⟩, F.nl⟩ hm hT, (List.forall_mem_cons.2 ⟨pbs50 ⟨F.bd, ⟨F.ge.1, trivial⟩, F.nl⟩ hm hT, (List.forall_mem_cons.2 ⟨pbs54 F hm hT, (List.forall_mem_cons.2 ⟨pbs61 F hm hT, pbN⟩)⟩)⟩)⟩)⟩)⟩)⟩))
theorem pbt20 : ((runL (pbE [pbP0, pbP1, pbP3, pbP5, pbP8, pbP56, pbP63] pbI [(-1,[(3,1)]), (-1,[(9,1)]), (0,[(0,1),(5,-1)])]) (pbL1 9 false) 100 Tryz.f5 pbArgs7 H0).isV (.bool true)) = true := by kernel_rfl
set_option maxRecDepth 100000 in
theorem pbu20 {G : Gh} (F0 : Facts G pbI [(-1,[(3,1)]), (-1,[(9,1)]), (0,[(0,1),(5,-1)])] []) (hm0 : ¬ G.mono) (hnl : ∀ G1, GLe 10 G G1 → nlOk G1 []) (hT0 : ∀ G1, GLe 10 G G1 → HooksOk Tryz.prog G1 (hkT pbT)) (hL : LkOk Tryz.prog G 10 Tryz.f5.ntmps (pbL1 9 false) (blocksC ((Tryz.f5.body).getD .skip))) {ul : List Value} (hl : concL G (fun _ => none) pbArgs7 = some ul) (w : World) : Calls Tryz.prog 5 ul.toArray w (TrueBelow w) := by
  have hF : ∀ G1, GLe 10 G G1 → Facts G1 pbI [(-1,[(3,1)]), (-1,[(9,1)]), (0,[(0,1),(5,-1)])] [] := fun G1 g => pb_fle g F0 (by kernel_rfl) (hnl G1 g)
  refine runL_val (K := 10) (G := G) (fun G1 g => ?_) (fun G1 g => ?_) Tryz.func5 rfl hL pbt20 hl (fun G1 g φ => by rw [conc]) w
  · have F := hF G1 g
    exact evE_ok progOk F.ends (geOk_at F.ge) (nlOk_at F.nl)
  · have F := hF G1 g
    have hm : ¬ G1.mono := by rw [g.mono]; exact hm0
    have hT := hT0 G1 g
    exact evE_fn progOk (pbH F hm hT (List.forall_mem_cons.2 ⟨pbs0 ⟨F.bd, trivial, F.nl⟩ hm hT, (List.forall_mem_cons.2 ⟨pbs1 ⟨F.bd, trivial, F.nl⟩ hm hT, (List.forall_mem_cons.2 ⟨pbs3 ⟨F.bd, trivial, F.nl⟩ hm hT, (List.forall_mem_cons.2 ⟨pbs5 ⟨F.bd, ⟨F.ge.2.1, trivial⟩, F.nl⟩ hm hT, (List.forall_mem_cons.2 ⟨pbs8 ⟨F.bd, ⟨F.ge.1, trivial⟩, F.nl⟩ hm hT, (List.forall_mem_cons.2 ⟨pbs56 F hm hT, (List.forall_mem_cons.2 ⟨pbs63 F hm hT, pbN⟩)⟩)⟩)⟩)⟩)⟩)⟩))
theorem pbt21 : ((runL (pbE [pbP0, pbP1, pbP3, pbP5, pbP9, pbP57, pbP64] pbI [(0,[(3,-1)]), (-1,[(9,1)]), (0,[(0,1),(5,-1)])]) (pbL1 9 false) 100 Tryz.f5 pbArgs7 H0).isV (.bool true)) = true := by kernel_rfl
set_option maxRecDepth 100000 in
theorem pbu21 {G : Gh} (F0 : Facts G pbI [(0,[(3,-1)]), (-1,[(9,1)]), (0,[(0,1),(5,-1)])] []) (hm0 : ¬ G.mono) (hnl : ∀ G1, GLe 10 G G1 → nlOk G1 []) (hT0 : ∀ G1, GLe 10 G G1 → HooksOk Tryz.prog G1 (hkT pbT)) (hL : LkOk Tryz.prog G 10 Tryz.f5.ntmps (pbL1 9 false) (blocksC ((Tryz.f5.body).getD .skip))) {ul : List Value} (hl : concL G (fun _ => none) pbArgs7 = some ul) (w : World) : Calls Tryz.prog 5 ul.toArray w (TrueBelow w) := by
  have hF : ∀ G1, GLe 10 G G1 → Facts G1 pbI [(0,[(3,-1)]), (-1,[(9,1)]), (0,[(0,1),(5,-1)])] [] := fun G1 g => pb_fle g F0 (by kernel_rfl) (hnl G1 g)
  refine runL_val (K := 10) (G := G) (fun G1 g => ?_) (fun G1 g => ?_) Tryz.func5 rfl hL pbt21 hl (fun G1 g φ => by rw [conc]) w
  · have F := hF G1 g
    exact evE_ok progOk F.ends (geOk_at F.ge) (nlOk_at F.nl)
  · have F := hF G1 g
    have hm : ¬ G1.mono := by rw [g.mono]; exact hm0
    have hT := hT0 G1 g
    exact evE_fn progOk (pbH F hm hT (List.forall_mem_cons.2 ⟨pbs0 ⟨F.bd, trivial, F.nl⟩ hm hT, (List.forall_mem_cons.2 ⟨pbs1 ⟨F.bd, trivial, F.nl⟩ hm hT, (List.forall_mem_cons.2 ⟨pbs3 ⟨F.bd, trivial, F.nl⟩ hm hT, (List.forall_mem_cons.2 ⟨pbs5 ⟨F.bd, ⟨F.ge.2.1, trivial⟩, F.nl⟩ hm hT, (List.forall_mem_cons.2 ⟨pbs9 ⟨F.bd, ⟨F.ge.1, trivial⟩, F.nl⟩ hm hT, (List.forall_mem_cons.2 ⟨pbs57 F hm hT, (List.forall_mem_cons.2 ⟨pbs64 F hm hT, pbN⟩)⟩)⟩)⟩)⟩)⟩)⟩))
theorem pbt22 : ((runL (pbE [pbP0, pbP1, pbP3, pbP45, pbP49, pbP58, pbP66] pbI [(-1,[(3,1)]), (0,[(9,-1)]), (0,[(0,1),(5,-1)])]) (pbL1 9 false) 100 Tryz.f5 pbArgs7 H0).isV (.bool true)) = true := by kernel_rfl
set_option maxRecDepth 100000 in
theorem pbu22 {G : Gh} (F0 : Facts G pbI [(-1,[(3,1)]), (0,[(9,-1)]), (0,[(0,1),(5,-1)])] []) (hm0 : ¬ G.mono) (hnl : ∀ G1, GLe 10 G G1 → nlOk G1 []) (hT0 : ∀ G1, GLe 10 G G1 → HooksOk Tryz.prog G1 (hkT pbT)) (hL : LkOk Tryz.prog G 10 Tryz.f5.ntmps (pbL1 9 false) (blocksC ((Tryz.f5.body).getD .skip))) {ul : List Value} (hl : concL G (fun _ => none) pbArgs7 = some ul) (w : World) : Calls Tryz.prog 5 ul.toArray w (TrueBelow w) := by
  have hF : ∀ G1, GLe 10 G G1 → Facts G1 pbI [(-1,[(3,1)]), (0,[(9,-1)]), (0,[(0,1),(5,-1)])] [] := fun G1 g => pb_fle g F0 (by kernel_rfl) (hnl G1 g)
  refine runL_val (K := 10) (G := G) (fun G1 g => ?_) (fun G1 g => ?_) Tryz.func5 rfl hL pbt22 hl (fun G1 g φ => by rw [conc]) w
  · have F := hF G1 g
    exact evE_ok progOk F.ends (geOk_at F.ge) (nlOk_at F.nl)
  · have F := hF G1 g
    have hm : ¬ G1.mono := by rw [g.mono]; exact hm0
    have hT := hT0 G1 g
    exact evE_fn progOk (pbH F hm hT (List.forall_mem_cons.2 ⟨pbs0 ⟨F.bd, trivial, F.nl⟩ hm hT, (List.forall_mem_cons.2 ⟨pbs1 ⟨F.bd, trivial, F.nl⟩ hm hT, (List.forall_mem_cons.2 ⟨pbs3 ⟨F.bd, trivial, F.nl⟩ hm hT, (List.forall_mem_cons.2 ⟨pbs45 ⟨F.bd, ⟨F.ge.2.1, trivial⟩, F.nl⟩ hm hT, (List.forall_mem_cons.2 ⟨pbs49 ⟨F.bd, ⟨F.ge.1, trivial⟩, F.nl⟩ hm hT, (List.forall_mem_cons.2 ⟨pbs58 F hm hT, (List.forall_mem_cons.2 ⟨pbs66 F hm hT, pbN⟩)⟩)⟩)⟩)⟩)⟩)⟩))
theorem pbt23 : ((runL (pbE [pbP0, pbP1, pbP3, pbP45, pbP50, pbP59, pbP65] pbI [(0,[(3,-1)]), (0,[(9,-1)]), (0,[(0,1),(5,-1)])]) (pbL1 9 false) 100 Tryz.f5 pbArgs7 H0).isV (.bool true)) = true := by kernel_rfl
set_option maxRecDepth 100000 in
theorem pbu23 {G : Gh} (F0 : Facts G pbI [(0,[(3,-1)]), (0,[(9,-1)]), (0,[(0,1),(5,-1)])] []) (hm0 : ¬ G.mono) (hnl : ∀ G1, GLe 10 G G1 → nlOk G1 []) (hT0 : ∀ G1, GLe 10 G G1 → HooksOk Tryz.prog G1 (hkT pbT)) (hL : LkOk Tryz.prog G 10 Tryz.f5.ntmps (pbL1 9 false) (blocksC ((Tryz.f5.body).getD .skip))) {ul : List Value} (hl : concL G (fun _ => none) pbArgs7 = some ul) (w : World) : Calls Tryz.prog 5 ul.toArray w (TrueBelow w) := by
  have hF : ∀ G1, GLe 10 G G1 → Facts G1 pbI [(0,[(3,-1)]), (0,[(9,-1)]), (0,[(0,1),(5,-1)])] [] := fun G1 g => pb_fle g F0 (by kernel_rfl) (hnl G1 g)
  refine runL_val (K := 10) (G := G) (fun G1 g => ?_) (fun G1 g => ?_) Tryz.func5 rfl hL pbt23 hl (fun G1 g φ => by rw [conc]) w
  · have F := hF G1 g
    exact evE_ok progOk F.ends (geOk_at F.ge) (nlOk_at F.nl)
  · have F := hF G1 g
    have hm : ¬ G1.mono := by rw [g.mono]; exact hm0
    have hT := hT0 G1 g
    exact evE_fn progOk (pbH F hm hT (List.forall_mem_cons.2 ⟨pbs0 ⟨F.bd, trivial, F.nl⟩ hm hT, (List.forall_mem_cons.2 ⟨pbs1 ⟨F.bd, trivial, F.nl⟩ hm hT, (List.forall_mem_cons.2 ⟨pbs3 ⟨F.bd, trivial, F.nl⟩ hm hT, (List.forall_mem_cons.2 ⟨pbs45 ⟨F.bd, ⟨F.ge.2.1, trivial⟩, F.nl⟩ hm hT, (List.forall_mem_cons.2 ⟨pbs50 ⟨F.bd, ⟨F.ge.1, trivial⟩, F.nl⟩ hm hT, (List.forall_mem_cons.2 ⟨pbs59 F hm hT, (List.forall_mem_cons.2 ⟨pbs65 F hm hT, pbN⟩)⟩)⟩)⟩)⟩)⟩)⟩))
theorem pbt24 : (callN (pbE [pbP0, pbP55, pbP62, pbP67, pbP69, pbP74, pbP86] pbI [(-1,[(3,1)]), (-1,[(9,1)])]) 100 5 pbArgs8 H0).isTrue = true := by kernel_rfl
set_option maxRecDepth 100000 in
theorem pbu24 {G : Gh} (F : Facts G pbI [(-1,[(3,1)]), (-1,[(9,1)])] []) (hm : ¬ G.mono) (hT : HooksOk Tryz.prog G (hkT pbT)) {ul : List Value} (hl : concL G (fun _ => none) pbArgs8 = some ul) (w : World) : Calls Tryz.prog 5 ul.toArray w (TrueBelow w) := by exact run_true (nl := []) progOk F (pbH F hm hT (List.forall_mem_cons.2 ⟨pbs0 ⟨F.bd, trivial, F.nl⟩ hm hT, (List.forall_mem_cons.2 ⟨pbs55 ⟨F.bd, trivial, F.nl⟩ hm hT, (List.forall_mem_cons.2 ⟨pbs62 ⟨F.bd, trivial, F.nl⟩ hm hT, (List.forall_mem_cons.2 ⟨pbs67 ⟨F.bd, F.ge.2, F.nl⟩ hm hT, (List.forall_mem_cons.2 ⟨pbs69 ⟨F.bd, ⟨F.ge.1, trivial⟩, F.nl⟩ hm hT, (List.forall_mem_cons.2 ⟨pbs74 F hm hT, (List.forall_mem_cons.2 ⟨pbs86 F hm hT, pbN⟩)⟩)⟩)⟩)⟩)⟩)⟩)) Tryz.func5 rfl hl pbt24 w
theorem pbt25 : (callN (pbE [pbP0, pbP55, pbP62, pbP67, pbP70, pbP73, pbP85] pbI [(0,[(3,-1)]), (-1,[(9,1)])]) 100 5 pbArgs8 H0).isTrue = true := by kernel_rfl
set_option maxRecDepth 100000 in
theorem pbu25 {G : Gh} (F : Facts G pbI [(0,[(3,-1)]), (-1,[(9,1)])] []) (hm : ¬ G.mono) (hT : HooksOk Tryz.prog G (hkT pbT)) {ul : List Value} (hl : concL G (fun _ => none) pbArgs8 = some ul) (w : World) : Calls Tryz.prog 5 ul.toArray w (TrueBelow w) := by exact run_true (nl := []) progOk F (pbH F hm hT (List.forall_mem_cons.2 ⟨pbs0 ⟨F.bd, trivial, F.nl⟩ hm hT, (List.forall_mem_cons.2 ⟨pbs55 ⟨F.bd, trivial, F.nl⟩ hm hT, (List.forall_mem_cons.2 ⟨pbs62 ⟨F.bd, trivial, F.nl⟩ hm hT, (List.forall_mem_cons.2 ⟨pbs67 ⟨F.bd, F.ge.2, F.nl⟩ hm hT, (List.forall_mem_cons.2 ⟨pbs70 ⟨F.bd, ⟨F.ge.1, trivial⟩, F.nl⟩ hm hT, (List.forall_mem_cons.2 ⟨pbs73 F hm hT, (List.forall_mem_cons.2 ⟨pbs85 F hm hT, pbN⟩)⟩)⟩)⟩)⟩)⟩)⟩)) Tryz.func5 rfl hl pbt25 w
theorem pbt26 : (callN (pbE [pbP0, pbP55, pbP62, pbP68, pbP71, pbP78, pbP90] pbI [(-1,[(3,1)]), (0,[(9,-1)])]) 100 5 pbArgs8 H0).isTrue = true := by kernel_rfl
set_option maxRecDepth 100000 in
theorem pbu26 {G : Gh} (F : Facts G pbI [(-1,[(3,1)]), (0,[(9,-1)])] []) (hm : ¬ G.mono) (hT : HooksOk Tryz.prog G (hkT pbT)) {ul : List Value} (hl : concL G (fun _ => none) pbArgs8 = some ul) (w : World) : Calls Tryz.prog 5 ul.toArray w (TrueBelow w) := by exact run_true (nl := []) progOk F (pbH F hm hT (List.forall_mem_cons.2 ⟨pbs0 ⟨F.bd, trivial, F.nl⟩ hm hT, (List.forall_mem_cons.2 ⟨pbs55 ⟨F.bd, trivial, F.nl⟩ hm hT, (List.forall_mem_cons.2 ⟨pbs62 ⟨F.bd, trivial, F.nl⟩ hm hT, (List.forall_mem_cons.2 ⟨pbs68 ⟨F.bd, F.ge.2, F.nl⟩ hm hT, (List.forall_mem_cons.2 ⟨pbs71 ⟨F.bd, ⟨F.ge.1, trivial⟩, F.nl⟩ hm hT, (List.forall_mem_cons.2 ⟨pbs78 F hm hT, (List.forall_mem_cons.2 ⟨pbs90 F hm hT, pbN⟩)⟩)⟩)⟩)⟩)⟩)⟩)) Tryz.func5 rfl hl pbt26 w
theorem pbt27 : (callN (pbE [pbP0, pbP55, pbP62, pbP68, pbP72, pbP79, pbP91] pbI [(0,[(3,-1)]), (0,[(9,-1)])]) 100 5 pbArgs8 H0).isTrue = true := by kernel_rfl
set_option maxRecDepth 100000 in
theorem pbu27 {G : Gh} (F : Facts G pbI [(0,[(3,-1)]), (0,[(9,-1)])] []) (hm : ¬ G.mono) (hT : HooksOk Tryz.prog G (hkT pbT)) {ul : List Value} (hl : concL G (fun _ => none) pbArgs8 = some ul) (w : World) : Calls Tryz.prog 5 ul.toArray w (TrueBelow w) := by exact run_true (nl := []) progOk F (pbH F hm hT (List.forall_mem_cons.2 ⟨pbs0 ⟨F.bd, trivial, F.nl⟩ hm hT, (List.forall_mem_cons.2 ⟨pbs55 ⟨F.bd, trivial, F.nl⟩ hm hT, (List.forall_mem_cons.2 ⟨pbs62 ⟨F.bd, trivial, F.nl⟩ hm hT, (List.forall_mem_cons.2 ⟨pbs68 ⟨F.bd, F.ge.2, F.nl⟩ hm hT, (List.forall_mem_cons.2 ⟨pbs72 ⟨F.bd, ⟨F.ge.1, trivial⟩, F.nl⟩ hm hT, (List.forall_mem_cons.2 ⟨pbs79 F hm hT, (List.forall_mem_cons.2 ⟨pbs91 F hm hT, pbN⟩)⟩)⟩)⟩)⟩)⟩)⟩)) Tryz.func5 rfl hl pbt27 w
theorem pbt28 : (callN (pbE [pbP0, pbP55, pbP62, pbP67, pbP69, pbP76, pbP88] pbI [(-1,[(3,1)]), (-1,[(9,1)])]) 100 5 pbArgs9 H0).isTrue = true := by kernel_rfl
set_option maxRecDepth 100000 in
theorem pbu28 {G : Gh} (F : Facts G pbI [(-1,[(3,1)]), (-1,[(9,1)])] []) (hm : ¬ G.mono) (hT : HooksOk Tryz.prog G (hkT pbT)) {ul : List Value} (hl : concL G (fun _ => none) pbArgs9 = some ul) (w : World) : Calls Tryz.prog 5 ul.toArray w (TrueBelow w) := by exact run_true (nl := []) progOk F (pbH F hm hT (List.forall_mem_cons.2 ⟨pbs0 ⟨F.bd, trivial, F.nl⟩ hm hT, (List.forall_mem_cons.2 ⟨pbs55 ⟨F.bd, trivial, F.nl⟩ hm hT, (List.forall_mem_cons.2 ⟨pbs62 ⟨F.bd, trivial, F.nl⟩ hm hT, (List.forall_mem_cons.2 ⟨pbs67 ⟨F.bd, F.ge.2, F.nl⟩ hm hT, (List.forall_mem_cons.2 ⟨pbs69 ⟨F.bd, ⟨F.ge.1, trivial⟩, F.nl⟩ hm hT, (List.forall_mem_cons.2 ⟨pbs76 F hm hT, (List.forall_mem_cons.2 ⟨pbs88 F hm hT, pbN⟩)⟩)⟩)⟩)⟩)⟩)⟩)) Tryz.func5 rfl hl pbt28 w
theorem pbt29 : (callN (pbE [pbP0, pbP55, pbP62, pbP67, pbP70, pbP75, pbP87] pbI [(0,[(3,-1)]), (-1,[(9,1)])]) 100 5 pbArgs9 H0).isTrue = true := by kernel_rfl
set_option maxRecDepth 100000 in
theorem pbu29 {G : Gh} (F : Facts G pbI [(0,[(3,-1)]), (-1,[(9,1)])] []) (hm : ¬ G.mono) (hT : HooksOk Tryz.prog G (hkT pbT)) {ul : List Value} (hl : concL G (fun _ => none) pbArgs9 = some ul) (w : World) : Calls Tryz.prog 5 ul.toArray w (TrueBelow w) := by exact run_true (nl := []) progOk F (pbH F hm hT (List.forall_mem_cons.2 ⟨pbs0 ⟨F.bd, trivial, F.nl⟩ hm hT, (List.forall_mem_cons.2 ⟨pbs55 ⟨F.bd, trivial, F.nl⟩ hm hT, (List.forall_mem_cons.2 ⟨pbs62 ⟨F.bd, trivial, F.nl⟩ hm hT, (List.forall_mem_cons.2 ⟨pbs67 ⟨F.bd, F.ge.2, F.nl⟩ hm hT, (List.forall_mem_cons.2 ⟨pbs70 ⟨F.bd, ⟨F.ge.1, trivial⟩, F.nl⟩ hm hT, (List.forall_mem_cons.2 ⟨pbs75 F hm hT, (List.forall_mem_cons.2 ⟨pbs87 F hm hT, pbN⟩)⟩)⟩)⟩)⟩)⟩)⟩)) Tryz.func5 rfl hl pbt29 w
theorem pbt30 : (callN (pbE [pbP0, pbP55, pbP62, pbP68, pbP71, pbP77, pbP89] pbI [(-1,[(3,1)]), (0,[(9,-1)])]) 100 5 pbArgs9 H0).isTrue = true := by kernel_rfl
set_option maxRecDepth 100000 in
theorem pbu30 {G : Gh} (F : Facts G pbI [(-1,[(3,1)]), (0,[(9,-1)])] []) (hm : ¬ G.mono) (hT : HooksOk Tryz.prog G (hkT pbT)) {ul : List Value} (hl : concL G (fun _ => none) pbArgs9 = some ul) (w : World) : Calls Tryz.prog 5 ul.toArray w (TrueBelow w) := by exact run_true (nl := []) progOk F (pbH F hm hT (List.forall_mem_cons.2 ⟨pbs0 ⟨F.bd, trivial, F.nl⟩ hm hT, (List.forall_mem_cons.2 ⟨pbs55 ⟨F.bd, trivial, F.nl⟩ hm hT, (List.forall_mem_cons.2 ⟨pbs62 ⟨F.bd, trivial, F.nl⟩ hm hT, (List.forall_mem_cons.2 ⟨pbs68 ⟨F.bd, F.ge.2, F.nl⟩ hm hT, (List.forall_mem_cons.2 ⟨pbs71 ⟨F.bd, ⟨F.ge.1, trivial⟩, F.nl⟩ hm hT, (List.forall_mem_cons.2 ⟨pbs77 F hm hT, (List.forall_mem_cons.2 ⟨pbs89 F hm hT, pbN⟩)⟩)⟩)⟩)⟩)⟩)⟩)) Tryz.func5 rfl hl pbt30 w
theorem pbt31 : (callN (pbE [pbP0, pbP55, pbP62, pbP68, pbP72, pbP80, pbP92] pbI [(0,[(3,-1)]), (0,[(9,-1)])]) 100 5 pbArgs9 H0).isTrue = true := by kernel_rfl
set_option maxRecDepth 100000 in
theorem pbu31 {G : Gh} (F : Facts G pbI [(0,[(3,-1)]), (0,[(9,-1)])] []) (hm : ¬ G.mono) (hT : HooksOk Tryz.prog G (hkT pbT)) {ul : List Value} (hl : concL G (fun _ => none) pbArgs9 = some ul) (w : World) : Calls Tryz.prog 5 ul.toArray w (TrueBelow w) := by exact run_true (nl := []) progOk F (pbH F hm hT (List.forall_mem_cons.2 ⟨pbs0 ⟨F.bd, trivial, F.nl⟩ hm hT, (List.forall_mem_cons.2 ⟨pbs55 ⟨F.bd, trivial, F.nl⟩ hm hT, (List.forall_mem_cons.2 ⟨pbs62 ⟨F.bd, trivial, F.nl⟩ hm hT, (List.forall_mem_cons.2 ⟨pbs68 ⟨F.bd, F.ge.2, F.nl⟩ hm hT, (List.forall_mem_cons.2 ⟨pbs72 ⟨F.bd, ⟨F.ge.1, trivial⟩, F.nl⟩ hm hT, (List.forall_mem_cons.2 ⟨pbs80 F hm hT, (List.forall_mem_cons.2 ⟨pbs92 F hm hT, pbN⟩)⟩)⟩)⟩)⟩)⟩)⟩)) Tryz.func5 rfl hl pbt31 w
theorem pbt32 : (callN (pbE [pbP0, pbP55, pbP62, pbP67, pbP69, pbP81, pbP93] pbI [(-1,[(3,1)]), (-1,[(9,1)])]) 100 5 pbArgs10 H0).isTrue = true := by kernel_rfl
set_option maxRecDepth 100000 in
theorem pbu32 {G : Gh} (F : Facts G pbI [(-1,[(3,1)]), (-1,[(9,1)])] []) (hm : ¬ G.mono) (hT : HooksOk Tryz.prog G (hkT pbT)) {ul : List Value} (hl : concL G (fun _ => none) pbArgs10 = some ul) (w : World) : Calls Tryz.prog 5 ul.toArray w (TrueBelow w) := by exact run_true (nl := []) progOk F (pbH F hm hT (List.forall_mem_cons.2 ⟨pbs0 ⟨F.bd, trivial, F.nl⟩ hm hT, (List.forall_mem_cons.2 ⟨pbs55 ⟨F.bd, trivial, F.nl⟩ hm hT, (List.forall_mem_cons.2 ⟨pbs62 ⟨F.bd, trivial, F.nl⟩ hm hT, (List.forall_mem_cons.2 ⟨pbs67 ⟨F.bd, F.ge.2, F.nl⟩ hm hT, (List.forall_mem_cons.2 ⟨pbs69 ⟨F.bd, ⟨F.ge.1, trivial⟩, F.nl⟩ hm hT, (List.forall_mem_cons.2 ⟨pbs81 F hm hT, (List.forall_mem_cons.2 ⟨pbs93 F hm hT, pbN⟩)⟩)⟩)⟩)⟩)⟩)⟩)) Tryz.func5 rfl hl pbt32 w
theorem pbt33 : (callN (pbE [pbP0, pbP55, pbP62, pbP67, pbP70, pbP82, pbP94] pbI [(0,[(3,-1)]), (-1,[(9,1)])]) 100 5 pbArgs10 H0).isTrue = true := by kernel_rfl
set_option maxRecDepth 100000 in
theorem pbu33 {G : Gh} (F : Facts G pbI [(0,[(3,-1)]), (-1,[(9,1)])] []) (hm : ¬ G.mono) (hT : HooksOk Tryz.prog G (hkT pbT)) {ul : List Value} (hl : concL G (fun _ => none) pbArgs10 = some ul) (w : World) : Calls Tryz.prog 5 ul.toArray w (TrueBelow w) := by exact run_true (nl := []) progOk F (pbH F hm hT (List.forall_mem_cons.2 ⟨pbs0 ⟨F.bd, trivial, F.nl⟩ hm hT, (List.forall_mem_cons.2 ⟨pbs55 ⟨F.bd, trivial, F.nl⟩ hm hT, (List.forall_mem_cons.2 ⟨pbs62 ⟨F.bd, trivial, F.nl⟩ hm hT, (List.forall_mem_cons.2 ⟨pbs67 ⟨F.bd, F.ge.2, F.nl⟩ hm hT, (List.forall_mem_cons.2 ⟨pbs70 ⟨F.bd, ⟨F.ge.1, trivial⟩, F.nl⟩ hm hT, (List.forall_mem_cons.2 ⟨pbs82 F hm hT, (List.forall_mem_cons.2 ⟨pbs94 F hm hT, pbN⟩)⟩)⟩)⟩)⟩)⟩)⟩)) Tryz.func5 rfl hl pbt33 w
theorem pbt34 : (callN (pbE [pbP0, pbP55, pbP62, pbP68, pbP71, pbP83, pbP95] pbI [(-1,[(3,1)]), (0,[(9,-1)])]) 100 5 pbArgs10 H0).isTrue = true := by kernel_rfl
set_option maxRecDepth 100000 in
theorem pbu34 {G : Gh} (F : Facts G pbI [(-1,[(3,1)]), (0,[(9,-1)])] []) (hm : ¬ G.mono) (hT : HooksOk Tryz.prog G (hkT pbT)) {ul : List Value} (hl : concL G (fun _ => none) pbArgs10 = some ul) (w : World) : Calls Tryz.prog 5 ul.toArray w (TrueBelow w) := by exact run_true (nl := []) progOk F (pbH F hm hT (List.forall_mem_cons.2 ⟨pbs0 ⟨F.bd, trivial, F.nl⟩ hm hT, (List.forall_mem_cons.2 ⟨pbs55 ⟨F.bd, trivial, F.nl⟩ hm hT, (List.forall_mem_cons.2 ⟨pbs62 ⟨F.bd, trivial, F.nl⟩ hm hT, (List.forall_mem_cons.2 ⟨pbs68 ⟨F.bd, F.ge.2, F.nl⟩ hm hT, (List.forall_mem_cons.2 ⟨pbs71 ⟨F.bd, ⟨F.ge.1, trivial⟩, F.nl⟩ hm hT, (List.forall_mem_cons.2 ⟨pbs83 F hm hT, (List.forall_mem_cons.2 ⟨pbs95 F hm hT, pbN⟩)⟩)⟩)⟩)⟩)⟩)⟩)) Tryz.func5 rfl hl pbt34 w
theorem pbt35 : (callN (pbE [pbP0, pbP55, pbP62, pbP68, pbP72, pbP84, pbP96] pbI [(0,[(3,-1)]), (0,[(9,-1)])]) 100 5 pbArgs10 H0).isTrue = true := by kernel_rfl
set_option maxRecDepth 100000 in
theorem pbu35 {G : Gh} (F : Facts G pbI [(0,[(3,-1)]), (0,[(9,-1)])] []) (hm : ¬ G.mono) (hT : HooksOk Tryz.prog G (hkT pbT)) {ul : List Value} (hl : concL G (fun _ => none) pbArgs10 = some ul) (w : World) : Calls Tryz.prog 5 ul.toArray w (TrueBelow w) := by exact run_true (nl := []) progOk F (pbH F hm hT (List.forall_mem_cons.2 ⟨pbs0 ⟨F.bd, trivial, F.nl⟩ hm hT, (List.forall_mem_cons.2 ⟨pbs55 ⟨F.bd, trivial, F.nl⟩ hm hT, (List.forall_mem_cons.2 ⟨pbs62 ⟨F.bd, trivial, F.nl⟩ hm hT, (List.forall_mem_cons.2 ⟨pbs68 ⟨F.bd, F.ge.2, F.nl⟩ hm hT, (List.forall_mem_cons.2 ⟨pbs72 ⟨F.bd, ⟨F.ge.1, trivial⟩, F.nl⟩ hm hT, (List.forall_mem_cons.2 ⟨pbs84 F hm hT, (List.forall_mem_cons.2 ⟨pbs96 F hm hT, pbN⟩)⟩)⟩)⟩)⟩)⟩)⟩)) Tryz.func5 rfl hl pbt35 w
end Go.Proofs.YtkhckfpflfkjmaaGreat
