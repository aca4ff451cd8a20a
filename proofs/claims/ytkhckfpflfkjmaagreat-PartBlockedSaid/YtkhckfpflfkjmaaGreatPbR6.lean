/- complinelaw23.PartBlocked: runs, part 6. -/
import Derived.Test.YtkhckfpflfkjmaaGreatPbQ
import Derived.Test.YtkhckfpflfkjmaaGreatPbR0
import Derived.Test.YtkhckfpflfkjmaaGreatPbR1
import Derived.Test.YtkhckfpflfkjmaaGreatPbR2
namespace Go.Proofs.YtkhckfpflfkjmaaGreat
open Go Go.RowKit Gv Gv.Lt
theorem pbt12 : ((runL (pbE [pbP0, pbP2, pbP4, pbP6, pbP10, pbP39, pbP43] pbI [(-1,[(8,1)]), (-1,[(3,1)]), (-1,[(2,1)]), (0,[(5,1),(2,-1)]), (0,[(8,1),(2,-1)]), (0,[(2,1),(8,-1)]), (0,[(0,1),(5,-1)])]) (pbL2 2) 100 Tryz.f5 pbArgs5 H0).isV (.bool true)) = true := by kernel_rfl
set_option maxRecDepth 100000 in
theorem pbu12 {G : Gh} (F0 : Facts G pbI [(-1,[(8,1)]), (-1,[(3,1)]), (-1,[(2,1)]), (0,[(5,1),(2,-1)]), (0,[(8,1),(2,-1)]), (0,[(2,1),(8,-1)]), (0,[(0,1),(5,-1)])] []) (hm0 : ¬ G.mono) (hnl : ∀ G1, GLe 10 G G1 → nlOk G1 []) (hT0 : ∀ G1, GLe 10 G G1 → HooksOk Tryz.prog G1 (hkT pbT)) (hL : LkOk Tryz.prog G 10 Tryz.f5.ntmps (pbL2 2) (blocksC ((Tryz.f5.body).getD .skip))) {ul : List Value} (hl : concL G (fun _ => none) pbArgs5 = some ul) (w : World) : Calls Tryz.prog 5 ul.toArray w (TrueBelow w) := by
  have hF : ∀ G1, GLe 10 G G1 → Facts G1 pbI [(-1,[(8,1)]), (-1,[(3,1)]), (-1,[(2,1)]), (0,[(5,1),(2,-1)]), (0,[(8,1),(2,-1)]), (0,[(2,1),(8,-1)]), (0,[(0,1),(5,-1)])] [] := fun G1 g => pb_fle g F0 (by kernel_rfl) (hnl G1 g)
  refine runL_val (K := 10) (G := G) (fun G1 g => ?_) (fun G1 g => ?_) Tryz.func5 rfl hL pbt12 hl (fun G1 g φ => by rw [conc]) w
  · have F := hF G1 g
    exact evE_ok progOk F.ends (geOk_at F.ge) (nlOk_at F.nl)
  · have F := hF G1 g
    have hm : ¬ G1.mono := by rw [g.mono]; exact hm0
    have hT := hT0 G1 g
    exact evE_fn progOk (pbH F hm hT (List.forall_mem_cons.2 ⟨pbs0 ⟨F.bd, trivial, F.nl⟩ hm hT, (List.forall_mem_cons.2 ⟨pbs2 ⟨F.bd, trivial, F.nl⟩ hm hT, (List.forall_mem_cons.2 ⟨pbs4 ⟨F.bd, trivial, F.nl⟩ hm hT, (List.forall_mem_cons.2 ⟨pbs6 ⟨F.bd, ⟨F.ge.2.2.1, trivial⟩, F.nl⟩ hm hT, (List.forall_mem_cons.2 ⟨pbs10 ⟨F.bd, ⟨F.ge.2.1, trivial⟩, F.nl⟩ hm hT, (List.forall_mem_cons.2 ⟨pbs39 ⟨F.bd, F.ge.2, F.nl⟩ hm hT, (List.forall_mem_cons.2 ⟨pbs43 ⟨F.bd, F.ge.2, F.nl⟩ hm hT, pbN⟩)⟩)⟩)⟩)⟩)⟩)⟩))
theorem pbt13 : ((runL (pbE [pbP0, pbP2, pbP4, pbP6, pbP24, pbP38, pbP42] pbI [(-1,[(8,1)]), (0,[(3,-1)]), (-1,[(2,1)]), (0,[(5,1),(2,-1)]), (0,[(8,1),(2,-1)]), (0,[(2,1),(8,-1)]), (0,[(0,1),(5,-1)])]) (pbL2 2) 100 Tryz.f5 pbArgs5 H0).isV (.bool true)) = true := by kernel_rfl
set_option maxRecDepth 100000 in
theorem pbu13 {G : Gh} (F0 : Facts G pbI [(-1,[(8,1)]), (0,[(3,-1)]), (-1,[(2,1)]), (0,[(5,1),(2,-1)]), (0,[(8,1),(2,-1)]), (0,[(2,1),(8,-1)]), (0,[(0,1),(5,-1)])] []) (hm0 : ¬ G.mono) (hnl : ∀ G1, GLe 10 G G1 → nlOk G1 []) (hT0 : ∀ G1, GLe 10 G G1 → HooksOk Tryz.prog G1 (hkT pbT)) (hL : LkOk Tryz.prog G 10 Tryz.f5.ntmps (pbL2 2) (blocksC ((Tryz.f5.body).getD .skip))) {ul : List Value} (hl : concL G (fun _ => none) pbArgs5 = some ul) (w : World) : Calls Tryz.prog 5 ul.toArray w (TrueBelow w) := by
  have hF : ∀ G1, GLe 10 G G1 → Facts G1 pbI [(-1,[(8,1)]), (0,[(3,-1)]), (-1,[(2,1)]), (0,[(5,1),(2,-1)]), (0,[(8,1),(2,-1)]), (0,[(2,1),(8,-1)]), (0,[(0,1),(5,-1)])] [] := fun G1 g => pb_fle g F0 (by kernel_rfl) (hnl G1 g)
  refine runL_val (K := 10) (G := G) (fun G1 g => ?_) (fun G1 g => ?_) Tryz.func5 rfl hL pbt13 hl (fun G1 g φ => by rw [conc]) w
  · have F := hF G1 g
    exact evE_ok progOk F.ends (geOk_at F.ge) (nlOk_at F.nl)
  · have F := hF G1 g
    have hm : ¬ G1.mono := by rw [g.mono]; exact hm0
    have hT := hT0 G1 g
    exact evE_fn progOk (pbH F hm hT (List.forall_mem_cons.2 ⟨pbs0 ⟨F.bd, trivial, F.nl⟩ hm hT, (List.forall_mem_cons.2 ⟨pbs2 ⟨F.bd, trivial, F.nl⟩ hm hT, (List.forall_mem_cons.2 ⟨pbs4 ⟨F.bd, trivial, F.nl⟩ hm hT, (List.forall_mem_cons.2 ⟨pbs6 ⟨F.bd, ⟨F.ge.2.2.1, trivial⟩, F.nl⟩ hm hT, (List.forall_mem_cons.2 ⟨pbs24 ⟨F.bd, ⟨F.ge.2.1, trivial⟩, F.nl⟩ hm hT, (List.forall_mem_cons.2 ⟨pbs38 ⟨F.bd, F.ge.2, F.nl⟩ hm hT, (List.forall_mem_cons.2 ⟨pbs42 ⟨F.bd, F.ge.2, F.nl⟩ hm hT, pbN⟩)⟩)⟩)⟩)⟩)⟩)⟩))
theorem pbt14 : ((runL (pbE [pbP0, pbP2, pbP4, pbP7, pbP11, pbP40, pbP44] pbI [(0,[(8,-1)]), (-1,[(3,1)]), (0,[(2,-1)]), (0,[(5,1),(2,-1)]), (0,[(8,1),(2,-1)]), (0,[(2,1),(8,-1)]), (0,[(0,1),(5,-1)])]) (pbL2 2) 100 Tryz.f5 pbArgs5 H0).isV (.bool true)) = true := by kernel_rfl
set_option maxRecDepth 100000 in
theorem pbu14 {G : Gh} (F0 : Facts G pbI [(0,[(8,-1)]), (-1,[(3,1)]), (0,[(2,-1)]), (0,[(5,1),(2,-1)]), (0,[(8,1),(2,-1)]), (0,[(2,1),(8,-1)]), (0,[(0,1),(5,-1)])] []) (hm0 : ¬ G.mono) (hnl : ∀ G1, GLe 10 G G1 → nlOk G1 []) (hT0 : ∀ G1, GLe 10 G G1 → HooksOk Tryz.prog G1 (hkT pbT)) (hL : LkOk Tryz.prog G 10 Tryz.f5.ntmps (pbL2 2) (blocksC ((Tryz.f5.body).getD .skip))) {ul : List Value} (hl : concL G (fun _ => none) pbArgs5 = some ul) (w : World) : Calls Tryz.prog 5 ul.toArray w (TrueBelow w) := by
  have hF : ∀ G1, GLe 10 G G1 → Facts G1 pbI [(0,[(8,-1)]), (-1,[(3,1)]), (0,[(2,-1)]), (0,[(5,1),(2,-1)]), (0,[(8,1),(2,-1)]), (0,[(2,1),(8,-1)]), (0,[(0,1),(5,-1)])] [] := fun G1 g => pb_fle g F0 (by kernel_rfl) (hnl G1 g)
  refine runL_val (K := 10) (G := G) (fun G1 g => ?_) (fun G1 g => ?_) Tryz.func5 rfl hL pbt14 hl (fun G1 g φ => by rw [conc]) w
  · have F := hF G1 g
    exact evE_ok progOk F.ends (geOk_at F.ge) (nlOk_at F.nl)
  · have F := hF G1 g
    have hm : ¬ G1.mono := by rw [g.mono]; exact hm0
    have hT := hT0 G1 g
    exact evE_fn progOk (pbH F hm hT (List.forall_mem_cons.2 ⟨pbs0 ⟨F.bd, trivial, F.nl⟩ hm hT, (List.forall_mem_cons.2 ⟨pbs2 ⟨F.bd, trivial, F.nl⟩ hm hT, (List.forall_mem_cons.2 ⟨pbs4 ⟨F.bd, trivial, F.nl⟩ hm hT, (List.forall_mem_cons.2 ⟨pbs7 ⟨F.bd, ⟨F.ge.2.2.1, trivial⟩, F.nl⟩ hm hT, (List.forall_mem_cons.2 ⟨pbs11 ⟨F.bd, ⟨F.ge.2.1, trivial⟩, F.nl⟩ hm hT, (List.forall_mem_cons.2 ⟨pbs40 ⟨F.bd, F.ge.2, F.nl⟩ hm hT, (List.forall_mem_cons.2 ⟨pbs44 ⟨F.bd, F.ge.2, F.nl⟩ hm hT, pbN⟩)⟩)⟩)⟩)⟩)⟩)⟩))
theorem pbt15 : ((runL (pbE [pbP0, pbP2, pbP4, pbP7, pbP25, pbP41, pbP46] pbI [(0,[(8,-1)]), (0,[(3,-1)]), (0,[(2,-1)]), (0,[(5,1),(2,-1)]), (0,[(8,1),(2,-1)]), (0,[(2,1),(8,-1)]), (0,[(0,1),(5,-1)])]) (pbL2 2) 100 Tryz.f5 pbArgs5 H0).isV (.bool true)) = true := by kernel_rfl
set_option maxRecDepth 100000 in
theorem pbu15 {G : Gh} (F0 : Facts G pbI [(0,[(8,-1)]), (0,[(3,-1)]), (0,[(2,-1)]), (0,[(5,1),(2,-1)]), (0,[(8,1),(2,-1)]), (0,[(2,1),(8,-1)]), (0,[(0,1),(5,-1)])] []) (hm0 : ¬ G.mono) (hnl : ∀ G1, GLe 10 G G1 → nlOk G1 []) (hT0 : ∀ G1, GLe 10 G G1 → HooksOk Tryz.prog G1 (hkT pbT)) (hL : LkOk Tryz.prog G 10 Tryz.f5.ntmps (pbL2 2) (blocksC ((Tryz.f5.body).getD .skip))) {ul : List Value} (hl : concL G (fun _ => none) pbArgs5 = some ul) (w : World) : Calls Tryz.prog 5 ul.toArray w (TrueBelow w) := by
  have hF : ∀ G1, GLe 10 G G1 → Facts G1 pbI [(0,[(8,-1)]), (0,[(3,-1)]), (0,[(2,-1)]), (0,[(5,1),(2,-1)]), (0,[(8,1),(2,-1)]), (0,[(2,1),(8,-1)]), (0,[(0,1),(5,-1)])] [] := fun G1 g => pb_fle g F0 (by kernel_rfl) (hnl G1 g)
  refine runL_val (K := 10) (G := G) (fun G1 g => ?_) (fun G1 g => ?_) Tryz.func5 rfl hL pbt15 hl (fun G1 g φ => by rw [conc]) w
  · have F := hF G1 g
    exact evE_ok progOk F.ends (geOk_at F.ge) (nlOk_at F.nl)
  · have F := hF G1 g
    have hm : ¬ G1.mono := by rw [g.mono]; exact hm0
    have hT := hT0 G1 g
    exact evE_fn progOk (pbH F hm hT (List.forall_mem_cons.2 ⟨pbs0 ⟨F.bd, trivial, F.nl⟩ hm hT, (List.forall_mem_cons.2 ⟨pbs2 ⟨F.bd, trivial, F.nl⟩ hm hT, (List.forall_mem_cons.2 ⟨pbs4 ⟨F.bd, trivial, F.nl⟩ hm hT, (List.forall_mem_cons.2 ⟨pbs7 ⟨F.bd, ⟨F.ge.2.2.1, trivial⟩, F.nl⟩ hm hT, (List.forall_mem_cons.2 ⟨pbs25 ⟨F.bd, ⟨F.ge.2.1, trivial⟩, F.nl⟩ hm hT, (List.forall_mem_cons.2 ⟨pbs41 ⟨F.bd, F.ge.2, F.nl⟩ hm hT, (List.forall_mem_cons.2 ⟨pbs46 ⟨F.bd, F.ge.2, F.nl⟩ hm hT, pbN⟩)⟩)⟩)⟩)⟩)⟩)⟩))
theorem pbt16 : ((runL (pbE [pbP0, pbP1, pbP3, pbP5, pbP8, pbP47, pbP51] pbI [(-1,[(3,1)]), (-1,[(9,1)]), (0,[(0,1),(4,-1)])]) (pbL1 9 false) 100 Tryz.f5 pbArgs6 H0).isV (.bool true)) = true := by kernel_rfl
set_option maxRecDepth 100000 in
theorem pbu16 {G : Gh} (F0 : Facts G pbI [(-1,[(3,1)]), (-1,[(9,1)]), (0,[(0,1),(4,-1)])] []) (hm0 : ¬ G.mono) (hnl : ∀ G1, GLe 10 G G1 → nlOk G1 []) (hT0 : ∀ G1, GLe 10 G G1 → HooksOk Tryz.prog G1 (hkT pbT)) (hL : LkOk Tryz.prog G 10 Tryz.f5.ntmps (pbL1 9 false) (blocksC ((Tryz.f5.body).getD .skip))) {ul : List Value} (hl : concL G (fun _ => none) pbArgs6 = some ul) (w : World) : Calls Tryz.prog 5 ul.toArray w (TrueBelow w) := by
  have hF : ∀ G1, GLe 10 G G1 → Facts G1 pbI [(-1,[(3,1)]), (-1,[(9,1)]), (0,[(0,1),(4,-1)])] [] := fun G1 g => pb_fle g F0 (by kernel_rfl) (hnl G1 g)
  refine runL_val (K := 10) (G := G) (fun G1 g => ?_) (fun G1 g => ?_) Tryz.func5 rfl hL pbt16 hl (fun G1 g φ => by rw [conc]) w
  · have F := hF G1 g
    exact evE_ok progOk F.ends (geOk_at F.ge) (nlOk_at F.nl)
  · have F := hF G1 g
    have hm : ¬ G1.mono := by rw [g.mono]; exact hm0
    have hT := hT0 G1 g
    exact evE_fn progOk (pbH F hm hT (List.forall_mem_cons.2 ⟨pbs0 ⟨F.bd, trivial, F.nl⟩ hm hT, (List.forall_mem_cons.2 ⟨pbs1 ⟨F.bd, trivial, F.nl⟩ hm hT, (List.forall_mem_cons.2 ⟨pbs3 ⟨F.bd, trivial, F.nl⟩ hm hT, (List.forall_mem_cons.2 ⟨pbs5 ⟨F.bd, ⟨F.ge.2.1, trivial⟩, F.nl⟩ hm hT, (List.forall_mem_cons.2 ⟨pbs8 ⟨F.bd, ⟨F.ge.1, trivial⟩, F.nl⟩ hm hT, (List.forall_mem_cons.2 ⟨pbs47 F hm hT, (List.forall_mem_cons.2 ⟨pbs51 F hm hT, pbN⟩)⟩)⟩)⟩)⟩)⟩)⟩))
theorem pbt17 : ((runL (pbE [pbP0, pbP1, pbP3, pbP5, pbP9, pbP48, pbP52] pbI [(0,[(3,-1)]), (-1,[(9,1)]), (0,[(0,1),(4,-1)])]) (pbL1 9 false) 100 Tryz.f5 pbArgs6 H0).isV (.bool true)) = true := by kernel_rfl
set_option maxRecDepth 100000 in
theorem pbu17 {G : Gh} (F0 : Facts G pbI [(0,[(3,-1)]), (-1,[(9,1)]), (0,[(0,1),(4,-1)])] []) (hm0 : ¬ G.mono) (hnl : ∀ G1, GLe 10 G G1 → nlOk G1 []) (hT0 : ∀ G1, GLe 10 G G1 → HooksOk Tryz.prog G1 (hkT pbT)) (hL : LkOk Tryz.prog G 10 Tryz.f5.ntmps (pbL1 9 false) (blocksC ((Tryz.f5.body).getD .skip))) {ul : List Value} (hl : concL G (fun _ => none) pbArgs6 = some ul) (w : World) : Calls Tryz.prog 5 ul.toArray w (TrueBelow w) := by
  have hF : ∀ G1, GLe 10 G G1 → Facts G1 pbI [(0,[(3,-1)]), (-1,[(9,1)]), (0,[(0,1),(4,-1)])] [] := fun G1 g => pb_fle g F0 (by kernel_rfl) (hnl G1 g)
  refine runL_val (K := 10) (G := G) (fun G1 g => ?_) (fun G1 g => ?_) Tryz.func5 rfl hL pbt17 hl (fun G1 g φ => by rw [conc]) w
  · have F := hF G1 g
    exact evE_ok progOk F.ends (geOk_at F.ge) (nlOk_at F.nl)
  · have F := hF G1 g
    have hm : ¬ G1.mono := by rw [g.mono]; exact hm0
    have hT := hT0 G1 g
    exact evE_fn progOk (pbH F hm hT (List.forall_mem_cons.2 ⟨pbs0 ⟨F.bd, trivial, F.nl⟩ hm hT, (List.forall_mem_cons.2 ⟨pbs1 ⟨F.bd, trivial, F.nl⟩ hm hT, (List.forall_mem_cons.2 ⟨pbs3 ⟨F.bd, trivial, F.nl⟩ hm hT, (List.forall_mem_cons.2 ⟨pbs5 ⟨F.bd, ⟨F.ge.2.1, trivial⟩, F.nl⟩ hm hT, (List.forall_mem_cons.2 ⟨pbs9 ⟨F.bd, ⟨F.ge.1, trivial⟩, F.nl⟩ hm hT, (List.forall_mem_cons.2 ⟨pbs48 F hm hT, (List.forall_mem_cons.2 ⟨pbs52 F hm hT, pbN⟩)⟩)⟩)⟩)⟩)⟩)⟩))
end Go.Proofs.YtkhckfpflfkjmaaGreat
