/- complinelaw23.PartBlocked: runs, part 4. -/
import Derived.Test.YtkhckfpflfkjmaaGreatPbQ
import Derived.Test.YtkhckfpflfkjmaaGreatPbR0
import Derived.Test.YtkhckfpflfkjmaaGreatPbR1
namespace Go.Proofs.YtkhckfpflfkjmaaGreat
open Go Go.RowKit Gv Gv.Lt
theorem pbr84 : isSn pbP84 (callN (pbE [] pbI [(0,[(3,-1)]), (0,[(9,-1)])]) 100 19 pbP84.args pbP84.h0) = true := by kernel_rfl
set_option maxRecDepth 100000 in
theorem pbs84 {G : Gh} (F : Facts G pbI [(0,[(3,-1)]), (0,[(9,-1)])] []) (hm : ¬ G.mono) (hT : HooksOk Tryz.prog G (hkT pbT)) : SNOk Tryz.prog G pbP84 := by exact snap_ok progOk F (pbH F hm hT pbN) 100 pbP84 Tryz.func19 rfl pbr84
theorem pbr96 : isSn pbP96 (callN (pbE [] pbI [(0,[(3,-1)]), (0,[(9,-1)])]) 100 19 pbP96.args pbP96.h0) = true := by kernel_rfl
set_option maxRecDepth 100000 in
theorem pbs96 {G : Gh} (F : Facts G pbI [(0,[(3,-1)]), (0,[(9,-1)])] []) (hm : ¬ G.mono) (hT : HooksOk Tryz.prog G (hkT pbT)) : SNOk Tryz.prog G pbP96 := by exact snap_ok progOk F (pbH F hm hT pbN) 100 pbP96 Tryz.func19 rfl pbr96
theorem pbr97 : isSn pbP97 (callN (pbE [] pbI [(-1,[(3,1)]), (-1,[(9,1)])]) 100 19 pbP97.args pbP97.h0) = true := by kernel_rfl
set_option maxRecDepth 100000 in
theorem pbs97 {G : Gh} (F : Facts G pbI [(-1,[(3,1)]), (-1,[(9,1)])] []) (hm : ¬ G.mono) (hT : HooksOk Tryz.prog G (hkT pbT)) : SNOk Tryz.prog G pbP97 := by exact snap_ok progOk F (pbH F hm hT pbN) 100 pbP97 Tryz.func19 rfl pbr97
theorem pbr101 : isSn pbP101 (callN (pbE [] pbI [(-1,[(3,1)]), (-1,[(9,1)])]) 100 19 pbP101.args pbP101.h0) = true := by kernel_rfl
set_option maxRecDepth 100000 in
theorem pbs101 {G : Gh} (F : Facts G pbI [(-1,[(3,1)]), (-1,[(9,1)])] []) (hm : ¬ G.mono) (hT : HooksOk Tryz.prog G (hkT pbT)) : SNOk Tryz.prog G pbP101 := by exact snap_ok progOk F (pbH F hm hT pbN) 100 pbP101 Tryz.func19 rfl pbr101
theorem pbr98 : isSn pbP98 (callN (pbE [] pbI [(0,[(3,-1)]), (-1,[(9,1)])]) 100 19 pbP98.args pbP98.h0) = true := by kernel_rfl
set_option maxRecDepth 100000 in
theorem pbs98 {G : Gh} (F : Facts G pbI [(0,[(3,-1)]), (-1,[(9,1)])] []) (hm : ¬ G.mono) (hT : HooksOk Tryz.prog G (hkT pbT)) : SNOk Tryz.prog G pbP98 := by exact snap_ok progOk F (pbH F hm hT pbN) 100 pbP98 Tryz.func19 rfl pbr98
theorem pbr102 : isSn pbP102 (callN (pbE [] pbI [(0,[(3,-1)]), (-1,[(9,1)])]) 100 19 pbP102.args pbP102.h0) = true := by kernel_rfl
set_option maxRecDepth 100000 in
theorem pbs102 {G : Gh} (F : Facts G pbI [(0,[(3,-1)]), (-1,[(9,1)])] []) (hm : ¬ G.mono) (hT : HooksOk Tryz.prog G (hkT pbT)) : SNOk Tryz.prog G pbP102 := by exact snap_ok progOk F (pbH F hm hT pbN) 100 pbP102 Tryz.func19 rfl pbr102
theorem pbr99 : isSn pbP99 (callN (pbE [] pbI [(-1,[(3,1)]), (0,[(9,-1)])]) 100 19 pbP99.args pbP99.h0) = true := by kernel_rfl
set_option maxRecDepth 100000 in
theorem pbs99 {G : Gh} (F : Facts G pbI [(-1,[(3,1)]), (0,[(9,-1)])] []) (hm : ¬ G.mono) (hT : HooksOk Tryz.prog G (hkT pbT)) : SNOk Tryz.prog G pbP99 := by exact snap_ok progOk F (pbH F hm hT pbN) 100 pbP99 Tryz.func19 rfl pbr99
theorem pbr103 : isSn pbP103 (callN (pbE [] pbI [(-1,[(3,1)]), (0,[(9,-1)])]) 100 19 pbP103.args pbP103.h0) = true := by kernel_rfl
set_option maxRecDepth 100000 in
theorem pbs103 {G : Gh} (F : Facts G pbI [(-1,[(3,1)]), (0,[(9,-1)])] []) (hm : ¬ G.mono) (hT : HooksOk Tryz.prog G (hkT pbT)) : SNOk Tryz.prog G pbP103 := by exact snap_ok progOk F (pbH F hm hT pbN) 100 pbP103 Tryz.func19 rfl pbr103
theorem pbr100 : isSn pbP100 (callN (pbE [] pbI [(0,[(3,-1)]), (0,[(9,-1)])]) 100 19 pbP100.args pbP100.h0) = true := by kernel_rfl
set_option maxRecDepth 100000 in
theorem pbs100 {G : Gh} (F : Facts G pbI [(0,[(3,-1)]), (0,[(9,-1)])] []) (hm : ¬ G.mono) (hT : HooksOk Tryz.prog G (hkT pbT)) : SNOk Tryz.prog G pbP100 := by exact snap_ok progOk F (pbH F hm hT pbN) 100 pbP100 Tryz.func19 rfl pbr100
theorem pbr104 : isSn pbP104 (callN (pbE [] pbI [(0,[(3,-1)]), (0,[(9,-1)])]) 100 19 pbP104.args pbP104.h0) = true := by kernel_rfl
set_option maxRecDepth 100000 in
theorem pbs104 {G : Gh} (F : Facts G pbI [(0,[(3,-1)]), (0,[(9,-1)])] []) (hm : ¬ G.mono) (hT : HooksOk Tryz.prog G (hkT pbT)) : SNOk Tryz.prog G pbP104 := by exact snap_ok progOk F (pbH F hm hT pbN) 100 pbP104 Tryz.func19 rfl pbr104
theorem pbt0 : ((runL (pbE [pbP0, pbP1, pbP3, pbP5, pbP8, pbP12, pbP16] pbI [(-1,[(8,1)]), (-1,[(4,1)]), (-1,[(3,1)]), (-1,[(9,1)]), (-1,[(3,1)]), (-1,[(9,1),(4,-1)]), (0,[(8,1),(4,-1)]), (0,[(4,1),(8,-1)]), (0,[(0,1),(4,-1)])]) (pbL1 9 true) 100 Tryz.f5 pbArgs0 H0).isV (.bool true)) = true := by kernel_rfl
set_option maxRecDepth 100000 in
theorem pbu0 {G : Gh} (F0 : Facts G pbI [(-1,[(8,1)]), (-1,[(4,1)]), (-1,[(3,1)]), (-1,[(9,1)]), (-1,[(3,1)]), (-1,[(9,1),(4,-1)]), (0,[(8,1),(4,-1)]), (0,[(4,1),(8,-1)]), (0,[(0,1),(4,-1)])] []) (hm0 : ¬ G.mono) (hnl : ∀ G1, GLe 10 G G1 → nlOk G1 []) (hT0 : ∀ G1, GLe 10 G G1 → HooksOk Tryz.prog G1 (hkT pbT)) (hL : LkOk Tryz.prog G 10 Tryz.f5.ntmps (pbL1 9 true) (blocksC ((Tryz.f5.body).getD .skip))) {ul : List Value} (hl : concL G (fun _ => none) pbArgs0 = some ul) (w : World) : Calls Tryz.prog 5 ul.toArray w (TrueBelow w) := by
  have hF : ∀ G1, GLe 10 G G1 → Facts G1 pbI [(-1,[(8,1)]), (-1,[(4,1)]), (-1,[(3,1)]), (-1,[(9,1)]), (-1,[(3,1)]), (-1,[(9,1),(4,-1)]), (0,[(8,1),(4,-1)]), (0,[(4,1),(8,-1)]), (0,[(0,1),(4,-1)])] [] := fun G1 g => pb_fle g F0 (by kernel_rfl) (hnl G1 g)
  refine runL_val (K := 10) (G := G) (fun G1 g => ?_) (fun G1 g => ?_) Tryz.func5 rfl hL pbt0 hl (fun G1 g φ => by rw [conc]) w
  · have F := hF G1 g
    exact evE_ok progOk F.ends (geOk_at F.ge) (nlOk_at F.nl)
  · have F := hF G1 g
    have hm : ¬ G1.mono := by rw [g.mono]; exact hm0
    have hT := hT0 G1 g
    exact evE_fn progOk (pbH F hm hT (List.forall_mem_cons.2 ⟨pbs0 ⟨F.bd, trivial, F.nl⟩ hm hT, (List.forall_mem_cons.2 ⟨pbs1 ⟨F.bd, trivial, F.nl⟩ hm hT, (List.forall_mem_cons.2 ⟨pbs3 ⟨F.bd, trivial, F.nl⟩ hm hT, (List.forall_mem_cons.2 ⟨pbs5 ⟨F.bd, ⟨F.ge.2.2.2.1, trivial⟩, F.nl⟩ hm hT, (List.forall_mem_cons.2 ⟨pbs8 ⟨F.bd, ⟨F.ge.2.2.1, trivial⟩, F.nl⟩ hm hT, (List.forall_mem_cons.2 ⟨pbs12 ⟨F.bd, F.ge.2, F.nl⟩ hm hT, (List.forall_mem_cons.2 ⟨pbs16 ⟨F.bd, F.ge.2, F.nl⟩ hm hT, pbN⟩)⟩)⟩)⟩)⟩)⟩)⟩))
theorem pbt1 : ((runL (pbE [pbP0, pbP1, pbP3, pbP5, pbP8, pbP13, pbP17] pbI [(0,[(8,-1)]), (0,[(4,-1)]), (-1,[(3,1)]), (-1,[(9,1)]), (-1,[(3,1)]), (-1,[(9,1),(4,-1)]), (0,[(8,1),(4,-1)]), (0,[(4,1),(8,-1)]), (0,[(0,1),(4,-1)])]) (pbL1 9 true) 100 Tryz.f5 pbArgs0 H0).isV (.bool true)) = true := by kernel_rfl
set_option maxRecDepth 100000 in
theorem pbu1 {G : Gh} (F0 : Facts G pbI [(0,[(8,-1)]), (0,[(4,-1)]), (-1,[(3,1)]), (-1,[(9,1)]), (-1,[(3,1)]), (-1,[(9,1),(4,-1)]), (0,[(8,1),(4,-1)]), (0,[(4,1),(8,-1)]), (0,[(0,1),(4,-1)])] []) (hm0 : ¬ G.mono) (hnl : ∀ G1, GLe 10 G G1 → nlOk G1 []) (hT0 : ∀ G1, GLe 10 G G1 → HooksOk Tryz.prog G1 (hkT pbT)) (hL : LkOk Tryz.prog G 10 Tryz.f5.ntmps (pbL1 9 true) (blocksC ((Tryz.f5.body).getD .skip))) {ul : List Value} (hl : concL G (fun _ => none) pbArgs0 = some ul) (w : World) : Calls Tryz.prog 5 ul.toArray w (TrueBelow w) := by
  have hF : ∀ G1, GLe 10 G G1 → Facts G1 pbI [(0,[(8,-1)]), (0,[(4,-1)]), (-1,[(3,1)]), (-1,[(9,1)]), (-1,[(3,1)]), (-1,[(9,1),(4,-1)]), (0,[(8,1),(4,-1)]), (0,[(4,1),(8,-1)]), (0,[(0,1),(4,-1)])] [] := fun G1 g => pb_fle g F0 (by kernel_rfl) (hnl G1 g)
  refine runL_val (K := 10) (G := G) (fun G1 g => ?_) (fun G1 g => ?_) Tryz.func5 rfl hL pbt1 hl (fun G1 g φ => by rw [conc]) w
  · have F := hF G1 g
    exact evE_ok progOk F.ends (geOk_at F.ge) (nlOk_at F.nl)
  · have F := hF G1 g
    have hm : ¬ G1.mono := by rw [g.mono]; exact hm0
    have hT := hT0 G1 g
    exact evE_fn progOk (pbH F hm hT (List.forall_mem_cons.2 ⟨pbs0 ⟨F.bd, trivial, F.nl⟩ hm hT, (List.forall_mem_cons.2 ⟨pbs1 ⟨F.bd, trivial, F.nl⟩ hm hT, (List.forall_mem_cons.2 ⟨pbs3 ⟨F.bd, trivial, F.nl⟩ hm hT, (List.forall_mem_cons.2 ⟨pbs5 ⟨F.bd, ⟨F.ge.2.2.2.1, trivial⟩, F.nl⟩ hm hT, (List.forall_mem_cons.2 ⟨pbs8 ⟨F.bd, ⟨F.ge.2.2.1, trivial⟩, F.nl⟩ hm hT, (List.forall_mem_cons.2 ⟨pbs13 ⟨F.bd, F.ge.2, F.nl⟩ hm hT, (List.forall_mem_cons.2 ⟨pbs17 ⟨F.bd, F.ge.2, F.nl⟩ hm hT, pbN⟩)⟩)⟩)⟩)⟩)⟩)⟩))
theorem pbt2 : ((runL (pbE [pbP0, pbP1, pbP3, pbP5, pbP9, pbP18, pbP22] pbI [(-1,[(8,1)]), (0,[(5,1),(8,-1)]), (0,[(5,-1),(8,1)]), (-1,[(5,1)]), (-1,[(9,1),(5,-1)]), (0,[(3,-1)]), (-1,[(9,1)]), (0,[(3,-1)]), (0,[(4,1),(5,-1)]), (0,[(5,1),(4,-1)]), (-1,[(9,1),(4,-1)]), (0,[(8,1),(4,-1)]), (0,[(4,1),(8,-1)]), (0,[(0,1),(4,-1)])]) (pbL1 9 true) 100 Tryz.f5 pbArgs1 H0).isV (.bool true)) = true := by kernel_rfl
set_option maxRecDepth 100000 in
theorem pbu2 {G : Gh} (F0 : Facts G pbI [(-1,[(8,1)]), (0,[(5,1),(8,-1)]), (0,[(5,-1),(8,1)]), (-1,[(5,1)]), (-1,[(9,1),(5,-1)]), (0,[(3,-1)]), (-1,[(9,1)]), (0,[(3,-1)]), (0,[(4,1),(5,-1)]), (0,[(5,1),(4,-1)]), (-1,[(9,1),(4,-1)]), (0,[(8,1),(4,-1)]), (0,[(4,1),(8,-1)]), (0,[(0,1),(4,-1)])] []) (hm0 : ¬ G.mono) (hnl : ∀ G1, GLe 10 G G1 → nlOk G1 []) (hT0 : ∀ G1, GLe 10 G G1 → HooksOk Tryz.prog G1 (hkT pbT)) (hL : LkOk Tryz.prog G 10 Tryz.f5.ntmps (pbL1 9 true) (blocksC ((Tryz.f5.body).getD .skip))) {ul : List Value} (hl : concL G (fun _ => none) pbArgs1 = some ul) (w : World) : Calls Tryz.prog 5 ul.toArray w (TrueBelow w) := by
  have hF : ∀ G1, GLe 10 G G1 → Facts G1 pbI [(-1,[(8,1)]), (0,[(5,1),(8,-1)]), (0,[(5,-1),(8,1)]), (-1,[(5,1)]), (-1,[(9,1),(5,-1)]), (0,[(3,-1)]), (-1,[(9,1)]), (0,[(3,-1)]), (0,[(4,1),(5,-1)]), (0,[(5,1),(4,-1)]), (-1,[(9,1),(4,-1)]), (0,[(8,1),(4,-1)]), (0,[(4,1),(8,-1)]), (0,[(0,1),(4,-1)])] [] := fun G1 g => pb_fle g F0 (by kernel_rfl) (hnl G1 g)
  refine runL_val (K := 10) (G := G) (fun G1 g => ?_) (fun G1 g => ?_) Tryz.func5 rfl hL pbt2 hl (fun G1 g φ => by rw [conc]) w
  · have F := hF G1 g
    exact evE_ok progOk F.ends (geOk_at F.ge) (nlOk_at F.nl)
  · have F := hF G1 g
    have hm : ¬ G1.mono := by rw [g.mono]; exact hm0
    have hT := hT0 G1 g
    exact evE_fn progOk (pbH F hm hT (List.forall_mem_cons.2 ⟨pbs0 ⟨F.bd, trivial, F.nl⟩ hm hT, (List.forall_mem_cons.2 ⟨pbs1 ⟨F.bd, trivial, F.nl⟩ hm hT, (List.forall_mem_cons.2 ⟨pbs3 ⟨F.bd, trivial, F.nl⟩ hm hT, (List.forall_mem_cons.2 ⟨pbs5 ⟨F.bd, ⟨F.ge.2.2.2.2.2.2.1, trivial⟩, F.nl⟩ hm hT, (List.forall_mem_cons.2 ⟨pbs9 ⟨F.bd, ⟨F.ge.2.2.2.2.2.1, trivial⟩, F.nl⟩ hm hT, (List.forall_mem_cons.2 ⟨pbs18 ⟨F.bd, F.ge.2.2.2, F.nl⟩ hm hT, (List.forall_mem_cons.2 ⟨pbs22 ⟨F.bd, F.ge.2.2.2, F.nl⟩ hm hT, pbN⟩)⟩)⟩)⟩)⟩)⟩)⟩))
theorem pbt3 : ((runL (pbE [pbP0, pbP1, pbP3, pbP5, pbP9, pbP19, pbP23] pbI [(0,[(8,-1)]), (0,[(5,-1)]), (-1,[(9,1),(5,-1)]), (0,[(3,-1)]), (-1,[(9,1)]), (0,[(3,-1)]), (0,[(4,1),(5,-1)]), (0,[(5,1),(4,-1)]), (-1,[(9,1),(4,-1)]), (0,[(8,1),(4,-1)]), (0,[(4,1),(8,-1)]), (0,[(0,1),(4,-1)])]) (pbL1 9 true) 100 Tryz.f5 pbArgs1 H0).isV (.bool true)) = true := by kernel_rfl
set_option maxRecDepth 100000 in
theorem pbu3 {G : Gh} (F0 : Facts G pbI [(0,[(8,-1)]), (0,[(5,-1)]), (-1,[(9,1),(5,-1)]), (0,[(3,-1)]), (-1,[(9,1)]), (0,[(3,-1)]), (0,[(4,1),(5,-1)]), (0,[(5,1),(4,-1)]), (-1,[(9,1),(4,-1)]), (0,[(8,1),(4,-1)]), (0,[(4,1),(8,-1)]), (0,[(0,1),(4,-1)])] []) (hm0 : ¬ G.mono) (hnl : ∀ G1, GLe 10 G G1 → nlOk G1 []) (hT0 : ∀ G1, GLe 10 G G1 → HooksOk Tryz.prog G1 (hkT pbT)) (hL : LkOk Tryz.prog G 10 Tryz.f5.ntmps (pbL1 9 true) (blocksC ((Tryz.f5.body).getD .skip))) {ul : List Value} (hl : concL G (fun _ => none) pbArgs1 = some ul) (w : World) : Calls Tryz.prog 5 ul.toArray w (TrueBelow w) := by
  have hF : ∀ G1, GLe 10 G G1 → Facts G1 pbI [(0,[(8,-1)]), (0,[(5,-1)]), (-1,[(9,1),(5,-1)]), (0,[(3,-1)]), (-1,[(9,1)]), (0,[(3,-1)]), (0,[(4,1),(5,-1)]), (0,[(5,1),(4,-1)]), (-1,[(9,1),(4,-1)]), (0,[(8,1),(4,-1)]), (0,[(4,1),(8,-1)]), (0,[(0,1),(4,-1)])] [] := fun G1 g => pb_fle g F0 (by kernel_rfl) (hnl G1 g)
  refine runL_val (K := 10) (G := G) (fun G1 g => ?_) (fun G1 g => ?_) Tryz.func5 rfl hL pbt3 hl (fun G1 g φ => by rw [conc]) w
  · have F := hF G1 g
    exact evE_ok progOk F.ends (geOk_at F.ge) (nlOk_at F.nl)
  · have F := hF G1 g
    have hm : ¬ G1.mono := by rw [g.mono]; exact hm0
    have hT := hT0 G1 g
    exact evE_fn progOk (pbH F hm hT (List.forall_mem_cons.2 ⟨pbs0 ⟨F.bd, trivial, F.nl⟩ hm hT, (List.forall_mem_cons.2 ⟨pbs1 ⟨F.bd, trivial, F.nl⟩ hm hT, (List.forall_mem_cons.2 ⟨pbs3 ⟨F.bd, trivial, F.nl⟩ hm hT, (List.forall_mem_cons.2 ⟨pbs5 ⟨F.bd, ⟨F.ge.2.2.2.2.1, trivial⟩, F.nl⟩ hm hT, (List.forall_mem_cons.2 ⟨pbs9 ⟨F.bd, ⟨F.ge.2.2.2.1, trivial⟩, F.nl⟩ hm hT, (List.forall_mem_cons.2 ⟨pbs19 ⟨F.bd, F.ge.2, F.nl⟩ hm hT, (List.forall_mem_cons.2 ⟨pbs23 ⟨F.bd, F.ge.2, F.nl⟩ hm hT, pbN⟩)⟩)⟩)⟩)⟩)⟩)⟩))
theorem pbt4 : ((runL (pbE [pbP0, pbP2, pbP4, pbP6, pbP10, pbP14, pbP20] pbI [(-1,[(8,1)]), (-1,[(3,1)]), (-1,[(2,1)]), (-1,[(3,1)]), (0,[(4,1),(2,-1)]), (0,[(8,1),(2,-1)]), (0,[(2,1),(8,-1)]), (0,[(0,1),(4,-1)])]) (pbL1 2 true) 100 Tryz.f5 pbArgs2 H0).isV (.bool true)) = true := by kernel_rfl
set_option maxRecDepth 100000 in
theorem pbu4 {G : Gh} (F0 : Facts G pbI [(-1,[(8,1)]), (-1,[(3,1)]), (-1,[(2,1)]), (-1,[(3,1)]), (0,[(4,1),(2,-1)]), (0,[(8,1),(2,-1)]), (0,[(2,1),(8,-1)]), (0,[(0,1),(4,-1)])] []) (hm0 : ¬ G.mono) (hnl : ∀ G1, GLe 10 G G1 → nlOk G1 []) (hT0 : ∀ G1, GLe 10 G G1 → HooksOk Tryz.prog G1 (hkT pbT)) (hL : LkOk Tryz.prog G 10 Tryz.f5.ntmps (pbL1 2 true) (blocksC ((Tryz.f5.body).getD .skip))) {ul : List Value} (hl : concL G (fun _ => none) pbArgs2 = some ul) (w : World) : Calls Tryz.prog 5 ul.toArray w (TrueBelow w) := by
  have hF : ∀ G1, GLe 10 G G1 → Facts G1 pbI [(-1,[(8,1)]), (-1,[(3,1)]), (-1,[(2,1)]), (-1,[(3,1)]), (0,[(4,1),(2,-1)]), (0,[(8,1),(2,-1)]), (0,[(2,1),(8,-1)]), (0,[(0,1),(4,-1)])] [] := fun G1 g => pb_fle g F0 (by kernel_rfl) (hnl G1 g)
  refine runL_val (K := 10) (G := G) (fun G1 g => ?_) (fun G1 g => ?_) Tryz.func5 rfl hL pbt4 hl (fun G1 g φ => by rw [conc]) w
  · have F := hF G1 g
    exact evE_ok progOk F.ends (geOk_at F.ge) (nlOk_at F.nl)
  · have F := hF G1 g
    have hm : ¬ G1.mono := by rw [g.mono]; exact hm0
    have hT := hT0 G1 g
    exact evE_fn progOk (pbH F hm hT (List.forall_mem_cons.2 ⟨pbs0 ⟨F.bd, trivial, F.nl⟩ hm hT, (List.forall_mem_cons.2 ⟨pbs2 ⟨F.bd, trivial, F.nl⟩ hm hT, (List.forall_mem_cons.2 ⟨pbs4 ⟨F.bd, trivial, F.nl⟩ hm hT, (List.forall_mem_cons.2 ⟨pbs6 ⟨F.bd, ⟨F.ge.2.2.1, trivial⟩, F.nl⟩ hm hT, (List.forall_mem_cons.2 ⟨pbs10 ⟨F.bd, ⟨F.ge.2.1, trivial⟩, F.nl⟩ hm hT, (List.forall_mem_cons.2 ⟨pbs14 ⟨F.bd, F.ge.2, F.nl⟩ hm hT, (List.forall_mem_cons.2 ⟨pbs20 ⟨F.bd, F.ge.2, F.nl⟩ hm hT, pbN⟩)⟩)⟩)⟩)⟩)⟩)⟩))
theorem pbt5 : ((runL (pbE [pbP0, pbP2, pbP4, pbP7, pbP11, pbP15, pbP21] pbI [(0,[(8,-1)]), (-1,[(3,1)]), (0,[(2,-1)]), (-1,[(3,1)]), (0,[(4,1),(2,-1)]), (0,[(8,1),(2,-1)]), (0,[(2,1),(8,-1)]), (0,[(0,1),(4,-1)])]) (pbL1 2 true) 100 Tryz.f5 pbArgs2 H0).isV (.bool true)) = true := by kernel_rfl
set_option maxRecDepth 100000 in
theorem pbu5 {G : Gh} (F0 : Facts G pbI [(0,[(8,-1)]), (-1,[(3,1)]), (0,[(2,-1)]), (-1,[(3,1)]), (0,[(4,1),(2,-1)]), (0,[(8,1),(2,-1)]), (0,[(2,1),(8,-1)]), (0,[(0,1),(4,-1)])] []) (hm0 : ¬ G.mono) (hnl : ∀ G1, GLe 10 G G1 → nlOk G1 []) (hT0 : ∀ G1, GLe 10 G G1 → HooksOk Tryz.prog G1 (hkT pbT)) (hL : LkOk Tryz.prog G 10 Tryz.f5.ntmps (pbL1 2 true) (blocksC ((Tryz.f5.body).getD .skip))) {ul : List Value} (hl : concL G (fun _ => none) pbArgs2 = some ul) (w : World) : Calls Tryz.prog 5 ul.toArray w (TrueBelow w) := by
  have hF : ∀ G1, GLe 10 G G1 → Facts G1 pbI [(0,[(8,-1)]), (-1,[(3,1)]), (0,[(2,-1)]), (-1,[(3,1)]), (0,[(4,1),(2,-1)]), (0,[(8,1),(2,-1)]), (0,[(2,1),(8,-1)]), (0,[(0,1),(4,-1)])] [] := fun G1 g => pb_fle g F0 (by kernel_rfl) (hnl G1 g)
  refine runL_val (K := 10) (G := G) (fun G1 g => ?_) (fun G1 g => ?_) Tryz.func5 rfl hL pbt5 hl (fun G1 g φ => by rw [conc]) w
  · have F := hF G1 g
    exact evE_ok progOk F.ends (geOk_at F.ge) (nlOk_at F.nl)
  · have F := hF G1 g
    have hm : ¬ G1.mono := by rw [g.mono]; exact hm0
    have hT := hT0 G1 g
    exact evE_fn progOk (pbH F hm hT (List.forall_mem_cons.2 ⟨pbs0 ⟨F.bd, trivial, F.nl⟩ hm hT, (List.forall_mem_cons.2 ⟨pbs2 ⟨F.bd, trivial, F.nl⟩ hm hT, (List.forall_mem_cons.2 ⟨pbs4 ⟨F.bd, trivial, F.nl⟩ hm hT, (List.forall_mem_cons.2 ⟨pbs7 ⟨F.bd, ⟨F.ge.2.2.1, trivial⟩, F.nl⟩ hm hT, (List.forall_mem_cons.2 ⟨pbs11 ⟨F.bd, ⟨F.ge.2.1, trivial⟩, F.nl⟩ hm hT, (List.forall_mem_cons.2 ⟨pbs15 ⟨F.bd, F.ge.2, F.nl⟩ hm hT, (List.forall_mem_cons.2 ⟨pbs21 ⟨F.bd, F.ge.2, F.nl⟩ hm hT, pbN⟩)⟩)⟩)⟩)⟩)⟩)⟩))
end Go.Proofs.YtkhckfpflfkjmaaGreat
