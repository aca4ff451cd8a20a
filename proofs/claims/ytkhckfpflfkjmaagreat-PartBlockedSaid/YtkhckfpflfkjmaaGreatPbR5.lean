/- complinelaw23.PartBlocked: runs, part 5. -/
import Derived.Test.YtkhckfpflfkjmaaGreatPbQ
import Derived.Test.YtkhckfpflfkjmaaGreatPbR0
import Derived.Test.YtkhckfpflfkjmaaGreatPbR1
namespace Go.Proofs.YtkhckfpflfkjmaaGreat
open Go Go.RowKit Gv Gv.Lt
theorem pbt6 : ((runL (pbE [pbP0, pbP2, pbP4, pbP6, pbP24, pbP27, pbP31] pbI [(-1,[(8,1)]), (0,[(2,-1),(5,1)]), (0,[(3,-1)]), (-1,[(2,1)]), (0,[(3,-1)]), (0,[(4,1),(5,-1)]), (0,[(5,1),(4,-1)]), (0,[(4,1),(2,-1)]), (0,[(8,1),(2,-1)]), (0,[(2,1),(8,-1)]), (0,[(0,1),(4,-1)])]) (pbL1 2 true) 100 Tryz.f5 pbArgs3 H0).isV (.bool true)) = true := by kernel_rfl
set_option maxRecDepth 100000 in
theorem pbu6 {G : Gh} (F0 : Facts G pbI [(-1,[(8,1)]), (0,[(2,-1),(5,1)]), (0,[(3,-1)]), (-1,[(2,1)]), (0,[(3,-1)]), (0,[(4,1),(5,-1)]), (0,[(5,1),(4,-1)]), (0,[(4,1),(2,-1)]), (0,[(8,1),(2,-1)]), (0,[(2,1),(8,-1)]), (0,[(0,1),(4,-1)])] []) (hm0 : ¬ G.mono) (hnl : ∀ G1, GLe 10 G G1 → nlOk G1 []) (hT0 : ∀ G1, GLe 10 G G1 → HooksOk Tryz.prog G1 (hkT pbT)) (hL : LkOk Tryz.prog G 10 Tryz.f5.ntmps (pbL1 2 true) (blocksC ((Tryz.f5.body).getD .skip))) {ul : List Value} (hl : concL G (fun _ => none) pbArgs3 = some ul) (w : World) : Calls Tryz.prog 5 ul.toArray w (TrueBelow w) := by
  have hF : ∀ G1, GLe 10 G G1 → Facts G1 pbI [(-1,[(8,1)]), (0,[(2,-1),(5,1)]), (0,[(3,-1)]), (-1,[(2,1)]), (0,[(3,-1)]), (0,[(4,1),(5,-1)]), (0,[(5,1),(4,-1)]), (0,[(4,1),(2,-1)]), (0,[(8,1),(2,-1)]), (0,[(2,1),(8,-1)]), (0,[(0,1),(4,-1)])] [] := fun G1 g => pb_fle g F0 (by kernel_rfl) (hnl G1 g)
  refine runL_val (K := 10) (G := G) (fun G1 g => ?_) (fun G1 g => ?_) Tryz.func5 rfl hL pbt6 hl (fun G1 g φ => by rw [conc]) w
  · have F := hF G1 g
    exact evE_ok progOk F.ends (geOk_at F.ge) (nlOk_at F.nl)
  · have F := hF G1 g
    have hm : ¬ G1.mono := by rw [g.mono]; exact hm0
    have hT := hT0 G1 g
    exact evE_fn progOk (pbH F hm hT (List.forall_mem_cons.2 ⟨pbs0 ⟨F.bd, trivial, F.nl⟩ hm hT, (List.forall_mem_cons.2 ⟨pbs2 ⟨F.bd, trivial, F.nl⟩ hm hT, (List.forall_mem_cons.2 ⟨pbs4 ⟨F.bd, trivial, F.nl⟩ hm hT, (List.forall_mem_cons.2 ⟨pbs6 ⟨F.bd, ⟨F.ge.2.2.2.1, trivial⟩, F.nl⟩ hm hT, (List.forall_mem_cons.2 ⟨pbs24 ⟨F.bd, ⟨F.ge.2.2.1, trivial⟩, F.nl⟩ hm hT, (List.forall_mem_cons.2 ⟨pbs27 ⟨F.bd, F.ge.2, F.nl⟩ hm hT, (List.forall_mem_cons.2 ⟨pbs31 ⟨F.bd, F.ge.2, F.nl⟩ hm hT, pbN⟩)⟩)⟩)⟩)⟩)⟩)⟩))
theorem pbt7 : ((runL (pbE [pbP0, pbP2, pbP4, pbP7, pbP25, pbP26, pbP28] pbI [(0,[(8,-1)]), (0,[(3,-1)]), (0,[(2,-1)]), (0,[(3,-1)]), (0,[(4,1),(5,-1)]), (0,[(5,1),(4,-1)]), (0,[(4,1),(2,-1)]), (0,[(8,1),(2,-1)]), (0,[(2,1),(8,-1)]), (0,[(0,1),(4,-1)])]) (pbL1 2 true) 100 Tryz.f5 pbArgs3 H0).isV (.bool true)) = true := by kernel_rfl
set_option maxRecDepth 100000 in
theorem pbu7 {G : Gh} (F0 : Facts G pbI [(0,[(8,-1)]), (0,[(3,-1)]), (0,[(2,-1)]), (0,[(3,-1)]), (0,[(4,1),(5,-1)]), (0,[(5,1),(4,-1)]), (0,[(4,1),(2,-1)]), (0,[(8,1),(2,-1)]), (0,[(2,1),(8,-1)]), (0,[(0,1),(4,-1)])] []) (hm0 : ¬ G.mono) (hnl : ∀ G1, GLe 10 G G1 → nlOk G1 []) (hT0 : ∀ G1, GLe 10 G G1 → HooksOk Tryz.prog G1 (hkT pbT)) (hL : LkOk Tryz.prog G 10 Tryz.f5.ntmps (pbL1 2 true) (blocksC ((Tryz.f5.body).getD .skip))) {ul : List Value} (hl : concL G (fun _ => none) pbArgs3 = some ul) (w : World) : Calls Tryz.prog 5 ul.toArray w (TrueBelow w) := by
  have hF : ∀ G1, GLe 10 G G1 → Facts G1 pbI [(0,[(8,-1)]), (0,[(3,-1)]), (0,[(2,-1)]), (0,[(3,-1)]), (0,[(4,1),(5,-1)]), (0,[(5,1),(4,-1)]), (0,[(4,1),(2,-1)]), (0,[(8,1),(2,-1)]), (0,[(2,1),(8,-1)]), (0,[(0,1),(4,-1)])] [] := fun G1 g => pb_fle g F0 (by kernel_rfl) (hnl G1 g)
  refine runL_val (K := 10) (G := G) (fun G1 g => ?_) (fun G1 g => ?_) Tryz.func5 rfl hL pbt7 hl (fun G1 g φ => by rw [conc]) w
  · have F := hF G1 g
    exact evE_ok progOk F.ends (geOk_at F.ge) (nlOk_at F.nl)
  · have F := hF G1 g
    have hm : ¬ G1.mono := by rw [g.mono]; exact hm0
    have hT := hT0 G1 g
    exact evE_fn progOk (pbH F hm hT (List.forall_mem_cons.2 ⟨pbs0 ⟨F.bd, trivial, F.nl⟩ hm hT, (List.forall_mem_cons.2 ⟨pbs2 ⟨F.bd, trivial, F.nl⟩ hm hT, (List.forall_mem_cons.2 ⟨pbs4 ⟨F.bd, trivial, F.nl⟩ hm hT, (List.forall_mem_cons.2 ⟨pbs7 ⟨F.bd, ⟨F.ge.2.2.1, trivial⟩, F.nl⟩ hm hT, (List.forall_mem_cons.2 ⟨pbs25 ⟨F.bd, ⟨F.ge.2.1, trivial⟩, F.nl⟩ hm hT, (List.forall_mem_cons.2 ⟨pbs26 ⟨F.bd, F.ge.2, F.nl⟩ hm hT, (List.forall_mem_cons.2 ⟨pbs28 ⟨F.bd, F.ge.2, F.nl⟩ hm hT, pbN⟩)⟩)⟩)⟩)⟩)⟩)⟩))
theorem pbt8 : ((runL (pbE [pbP0, pbP1, pbP3, pbP5, pbP8, pbP29, pbP35] pbI [(-1,[(8,1)]), (-1,[(5,1)]), (-1,[(3,1)]), (-1,[(9,1)]), (-1,[(9,1),(5,-1)]), (0,[(8,1),(5,-1)]), (0,[(5,1),(8,-1)]), (0,[(0,1),(5,-1)])]) (pbL2 9) 100 Tryz.f5 pbArgs4 H0).isV (.bool true)) = true := by kernel_rfl
set_option maxRecDepth 100000 in
theorem pbu8 {G : Gh} (F0 : Facts G pbI [(-1,[(8,1)]), (-1,[(5,1)]), (-1,[(3,1)]), (-1,[(9,1)]), (-1,[(9,1),(5,-1)]), (0,[(8,1),(5,-1)]), (0,[(5,1),(8,-1)]), (0,[(0,1),(5,-1)])] []) (hm0 : ¬ G.mono) (hnl : ∀ G1, GLe 10 G G1 → nlOk G1 []) (hT0 : ∀ G1, GLe 10 G G1 → HooksOk Tryz.prog G1 (hkT pbT)) (hL : LkOk Tryz.prog G 10 Tryz.f5.ntmps (pbL2 9) (blocksC ((Tryz.f5.body).getD .skip))) {ul : List Value} (hl : concL G (fun _ => none) pbArgs4 = some ul) (w : World) : Calls Tryz.prog 5 ul.toArray w (TrueBelow w) := by
  have hF : ∀ G1, GLe 10 G G1 → Facts G1 pbI [(-1,[(8,1)]), (-1,[(5,1)]), (-1,[(3,1)]), (-1,[(9,1)]), (-1,[(9,1),(5,-1)]), (0,[(8,1),(5,-1)]), (0,[(5,1),(8,-1)]), (0,[(0,1),(5,-1)])] [] := fun G1 g => pb_fle g F0 (by kernel_rfl) (hnl G1 g)
  refine runL_val (K := 10) (G := G) (fun G1 g => ?_) (fun G1 g => ?_) Tryz.func5 rfl hL pbt8 hl (fun G1 g φ => by rw [conc]) w
  · have F := hF G1 g
    exact evE_ok progOk F.ends (geOk_at F.ge) (nlOk_at F.nl)
  · have F := hF G1 g
    have hm : ¬ G1.mono := by rw [g.mono]; exact hm0
    have hT := hT0 G1 g
    exact evE_fn progOk (pbH F hm hT (List.forall_mem_cons.2 ⟨pbs0 ⟨F.bd, trivial, F.nl⟩ hm hT, (List.forall_mem_cons.2 ⟨pbs1 ⟨F.bd, trivial, F.nl⟩ hm hT, (List.forall_mem_cons.2 ⟨pbs3 ⟨F.bd, trivial, F.nl⟩ hm hT, (List.forall_mem_cons.2 ⟨pbs5 ⟨F.bd, ⟨F.ge.2.2.2.1, trivial⟩, F.nl⟩ hm hT, (List.forall_mem_cons.2 ⟨pbs8 ⟨F.bd, ⟨F.ge.2.2.1, trivial⟩, F.nl⟩ hm hT, (List.forall_mem_cons.2 ⟨pbs29 ⟨F.bd, F.ge.2, F.nl⟩ hm hT, (List.forall_mem_cons.2 ⟨pbs35 ⟨F.bd, F.ge.2, F.nl⟩ hm hT, pbN⟩)⟩)⟩)⟩)⟩)⟩)⟩))
theorem pbt9 : ((runL (pbE [pbP0, pbP1, pbP3, pbP5, pbP8, pbP30, pbP34] pbI [(0,[(8,-1)]), (0,[(5,-1)]), (-1,[(3,1)]), (-1,[(9,1)]), (-1,[(9,1),(5,-1)]), (0,[(8,1),(5,-1)]), (0,[(5,1),(8,-1)]), (0,[(0,1),(5,-1)])]) (pbL2 9) 100 Tryz.f5 pbArgs4 H0).isV (.bool true)) = true := by kernel_rfl
set_option maxRecDepth 100000 in
theorem pbu9 {G : Gh} (F0 : Facts G pbI [(0,[(8,-1)]), (0,[(5,-1)]), (-1,[(3,1)]), (-1,[(9,1)]), (-1,[(9,1),(5,-1)]), (0,[(8,1),(5,-1)]), (0,[(5,1),(8,-1)]), (0,[(0,1),(5,-1)])] []) (hm0 : ¬ G.mono) (hnl : ∀ G1, GLe 10 G G1 → nlOk G1 []) (hT0 : ∀ G1, GLe 10 G G1 → HooksOk Tryz.prog G1 (hkT pbT)) (hL : LkOk Tryz.prog G 10 Tryz.f5.ntmps (pbL2 9) (blocksC ((Tryz.f5.body).getD .skip))) {ul : List Value} (hl : concL G (fun _ => none) pbArgs4 = some ul) (w : World) : Calls Tryz.prog 5 ul.toArray w (TrueBelow w) := by
  have hF : ∀ G1, GLe 10 G G1 → Facts G1 pbI [(0,[(8,-1)]), (0,[(5,-1)]), (-1,[(3,1)]), (-1,[(9,1)]), (-1,[(9,1),(5,-1)]), (0,[(8,1),(5,-1)]), (0,[(5,1),(8,-1)]), (0,[(0,1),(5,-1)])] [] := fun G1 g => pb_fle g F0 (by kernel_rfl) (hnl G1 g)
  refine runL_val (K := 10) (G := G) (fun G1 g => ?_) (fun G1 g => ?_) Tryz.func5 rfl hL pbt9 hl (fun G1 g φ => by rw [conc]) w
  · have F := hF G1 g
    exact evE_ok progOk F.ends (geOk_at F.ge) (nlOk_at F.nl)
  · have F := hF G1 g
    have hm : ¬ G1.mono := by rw [g.mono]; exact hm0
    have hT := hT0 G1 g
    exact evE_fn progOk (pbH F hm hT (List.forall_mem_cons.2 ⟨pbs0 ⟨F.bd, trivial, F.nl⟩ hm hT, (List.forall_mem_cons.2 ⟨pbs1 ⟨F.bd, trivial, F.nl⟩ hm hT, (List.forall_mem_cons.2 ⟨pbs3 ⟨F.bd, trivial, F.nl⟩ hm hT, (List.forall_mem_cons.2 ⟨pbs5 ⟨F.bd, ⟨F.ge.2.2.2.1, trivial⟩, F.nl⟩ hm hT, (List.forall_mem_cons.2 ⟨pbs8 ⟨F.bd, ⟨F.ge.2.2.1, trivial⟩, F.nl⟩ hm hT, (List.forall_mem_cons.2 ⟨pbs30 ⟨F.bd, F.ge.2, F.nl⟩ hm hT, (List.forall_mem_cons.2 ⟨pbs34 ⟨F.bd, F.ge.2, F.nl⟩ hm hT, pbN⟩)⟩)⟩)⟩)⟩)⟩)⟩))
theorem pbt10 : ((runL (pbE [pbP0, pbP1, pbP3, pbP5, pbP9, pbP32, pbP37] pbI [(-1,[(8,1)]), (-1,[(5,1)]), (0,[(3,-1)]), (-1,[(9,1)]), (-1,[(9,1),(5,-1)]), (0,[(8,1),(5,-1)]), (0,[(5,1),(8,-1)]), (0,[(0,1),(5,-1)])]) (pbL2 9) 100 Tryz.f5 pbArgs4 H0).isV (.bool true)) = true := by kernel_rfl
set_option maxRecDepth 100000 in
theorem pbu10 {G : Gh} (F0 : Facts G pbI [(-1,[(8,1)]), (-1,[(5,1)]), (0,[(3,-1)]), (-1,[(9,1)]), (-1,[(9,1),(5,-1)]), (0,[(8,1),(5,-1)]), (0,[(5,1),(8,-1)]), (0,[(0,1),(5,-1)])] []) (hm0 : ¬ G.mono) (hnl : ∀ G1, GLe 10 G G1 → nlOk G1 []) (hT0 : ∀ G1, GLe 10 G G1 → HooksOk Tryz.prog G1 (hkT pbT)) (hL : LkOk Tryz.prog G 10 Tryz.f5.ntmps (pbL2 9) (blocksC ((Tryz.f5.body).getD .skip))) {ul : List Value} (hl : concL G (fun _ => none) pbArgs4 = some ul) (w : World) : Calls Tryz.prog 5 ul.toArray w (TrueBelow w) := by
  have hF : ∀ G1, GLe 10 G G1 → Facts G1 pbI [(-1,[(8,1)]), (-1,[(5,1)]), (0,[(3,-1)]), (-1,[(9,1)]), (-1,[(9,1),(5,-1)]), (0,[(8,1),(5,-1)]), (0,[(5,1),(8,-1)]), (0,[(0,1),(5,-1)])] [] := fun G1 g => pb_fle g F0 (by kernel_rfl) (hnl G1 g)
  refine runL_val (K := 10) (G := G) (fun G1 g => ?_) (fun G1 g => ?_) Tryz.func5 rfl hL pbt10 hl (fun G1 g φ => by rw [conc]) w
  · have F := hF G1 g
    exact evE_ok progOk F.ends (geOk_at F.ge) (nlOk_at F.nl)
  · have F := hF G1 g
    have hm : ¬ G1.mono := by rw [g.mono]; exact hm0
    have hT := hT0 G1 g
    exact evE_fn progOk (pbH F hm hT (List.forall_mem_cons.2 ⟨pbs0 ⟨F.bd, trivial, F.nl⟩ hm hT, (List.forall_mem_cons.2 ⟨pbs1 ⟨F.bd, trivial, F.nl⟩ hm hT, (List.forall_mem_cons.2 ⟨pbs3 ⟨F.bd, trivial, F.nl⟩ hm hT, (List.forall_mem_cons.2 ⟨pbs5 ⟨F.bd, ⟨F.ge.2.2.2.1, trivial⟩, F.nl⟩ hm hT, (List.forall_mem_cons.2 ⟨pbs9 ⟨F.bd, ⟨F.ge.2.2.1, trivial⟩, F.nl⟩ hm hT, (List.forall_mem_cons.2 ⟨pbs32 ⟨F.bd, F.ge.2, F.nl⟩ hm hT, (List.forall_mem_cons.2 ⟨pbs37 ⟨F.bd, F.ge.2, F.nl⟩ hm hT, pbN⟩)⟩)⟩)⟩)⟩)⟩)⟩))
theorem pbt11 : ((runL (pbE [pbP0, pbP1, pbP3, pbP5, pbP9, pbP33, pbP36] pbI [(0,[(8,-1)]), (0,[(5,-1)]), (0,[(3,-1)]), (-1,[(9,1)]), (-1,[(9,1),(5,-1)]), (0,[(8,1),(5,-1)]), (0,[(5,1),(8,-1)]), (0,[(0,1),(5,-1)])]) (pbL2 9) 100 Tryz.f5 pbArgs4 H0).isV (.bool true)) = true := by kernel_rfl
set_option maxRecDepth 100000 in
theorem pbu11 {G : Gh} (F0 : Facts G pbI [(0,[(8,-1)]), (0,[(5,-1)]), (0,[(3,-1)]), (-1,[(9,1)]), (-1,[(9,1),(5,-1)]), (0,[(8,1),(5,-1)]), (0,[(5,1),(8,-1)]), (0,[(0,1),(5,-1)])] []) (hm0 : ¬ G.mono) (hnl : ∀ G1, GLe 10 G G1 → nlOk G1 []) (hT0 : ∀ G1, GLe 10 G G1 → HooksOk Tryz.prog G1 (hkT pbT)) (hL : LkOk Tryz.prog G 10 Tryz.f5.ntmps (pbL2 9) (blocksC ((Tryz.f5.body).getD .skip))) {ul : List Value} (hl : concL G (fun _ => none) pbArgs4 = some ul) (w : World) : Calls Tryz.prog 5 ul.toArray w (TrueBelow w) := by
  have hF : ∀ G1, GLe 10 G G1 → Facts G1 pbI [(0,[(8,-1)]), (0,[(5,-1)]), (0,[(3,-1)]), (-1,[(9,1)]), (-1,[(9,1),(5,-1)]), (0,[(8,1),(5,-1)]), (0,[(5,1),(8,-1)]), (0,[(0,1),(5,-1)])] [] := fun G1 g => pb_fle g F0 (by kernel_rfl) (hnl G1 g)
  refine runL_val (K := 10) (G := G) (fun G1 g => ?_) (fun G1 g => ?_) Tryz.func5 rfl hL pbt11 hl (fun G1 g φ => by rw [conc]) w
  · have F := hF G1 g
    exact evE_ok progOk F.ends (geOk_at F.ge) (nlOk_at F.nl)
  · have F := hF G1 g
    have hm : ¬ G1.mono := by rw [g.mono]; exact hm0
    have hT := hT0 G1 g
    exact evE_fn progOk (pbH F hm hT (List.forall_mem_cons.2 ⟨pbs0 ⟨F.bd, trivial, F.nl⟩ hm hT, (List.forall_mem_cons.2 ⟨pbs1 ⟨F.bd, trivial, F.nl⟩ hm hT, (List.forall_mem_cons.2 ⟨pbs3 ⟨F.bd, trivial, F.nl⟩ hm hT, (List.forall_mem_cons.2 ⟨pbs5 ⟨F.bd, ⟨F.ge.2.2.2.1, trivial⟩, F.nl⟩ hm hT, (List.forall_mem_cons.2 ⟨pbs9 ⟨F.bd, ⟨F.ge.2.2.1, trivial⟩, F.nl⟩ hm hT, (List.forall_mem_cons.2 ⟨pbs33 ⟨F.bd, F.ge.2, F.nl⟩ hm hT, (List.forall_mem_cons.2 ⟨pbs36 ⟨F.bd, F.ge.2, F.nl⟩ hm hT, pbN⟩)⟩)⟩)⟩)⟩)⟩)⟩))
end Go.Proofs.YtkhckfpflfkjmaaGreat
