/- complinelaw27.EodCredit: runs, part 0. -/
import Derived.Test.YtdfgedemolielaaGreatEcDa
namespace Go.Proofs.YtdfgedemolielaaGreat
open Go Go.RowKit Gv Gv.Lt
set_option maxRecDepth 100000
theorem ecdr0 : ecdC [] ecdG0 6 ecdP0 := by unfold ecdC; kernel_rfl
theorem ecds0 : ecdS ecdG0 ecdP0 := ecd_piece Tryz.func6 rfl ecdr0 fun _ _ _ => ecdN
theorem ecdr24 : ecdC [] ecdG1 12 ecdP24 := by unfold ecdC; kernel_rfl
theorem ecds24 : ecdS ecdG1 ecdP24 := ecd_piece Tryz.func12 rfl ecdr24 fun _ _ _ => ecdN
theorem ecdr63 : ecdC [] ecdG2 82 ecdP63 := by unfold ecdC; kernel_rfl
theorem ecds63 : ecdS ecdG2 ecdP63 := ecd_piece Tryz.func82 rfl ecdr63 fun _ _ _ => ecdN
theorem ecdr64 : ecdC [] ecdG3 82 ecdP64 := by unfold ecdC; kernel_rfl
theorem ecds64 : ecdS ecdG3 ecdP64 := ecd_piece Tryz.func82 rfl ecdr64 fun _ _ _ => ecdN
theorem ecdt0 : (callN (ecdE [ecdP0, ecdP24, ecdP63] ecdI ecdG4) 100 4 ecdArgs0 H0).isTrue = true := by kernel_rfl
theorem ecdu0 {G : Gh} (F : Facts G ecdI ecdG4 ecdNL) (hm : ¬ G.mono) (hT : HooksOk Tryz.prog G (hkT ecTD)) {ul : List Value} (hl : concL G (fun _ => none) ecdArgs0 = some ul) (w : World) : Calls Tryz.prog 4 ul.toArray w (TrueBelow w) := by exact run_true (nl := [⟨2, .i64, (-10,[(3,10),(4,1)]), (10,[]), 4⟩]) progOk F (ecdH F hm hT (ecdK (ecds0 ⟨F.bd, F.ge.2.2.2.2, F.nl⟩ hm hT) (ecdK (ecds24 ⟨F.bd, F.ge.2.2.2, F.nl⟩ hm hT) (ecdK (ecds63 ⟨F.bd, F.ge.2.2, F.nl⟩ hm hT) ecdN)))) Tryz.func4 rfl hl ecdt0 w
theorem ecdt1 : (callN (ecdE [ecdP0, ecdP24, ecdP63] ecdI ecdG5) 100 4 ecdArgs0 H0).isTrue = true := by kernel_rfl
theorem ecdu1 {G : Gh} (F : Facts G ecdI ecdG5 ecdNL) (hm : ¬ G.mono) (hT : HooksOk Tryz.prog G (hkT ecTD)) {ul : List Value} (hl : concL G (fun _ => none) ecdArgs0 = some ul) (w : World) : Calls Tryz.prog 4 ul.toArray w (TrueBelow w) := by exact run_true (nl := [⟨2, .i64, (-10,[(3,10),(4,1)]), (10,[]), 4⟩]) progOk F (ecdH F hm hT (ecdK (ecds0 ⟨F.bd, F.ge.2.2.2.2.2, F.nl⟩ hm hT) (ecdK (ecds24 ⟨F.bd, F.ge.2.2.2.2, F.nl⟩ hm hT) (ecdK (ecds63 ⟨F.bd, F.ge.2.2.2, F.nl⟩ hm hT) ecdN)))) Tryz.func4 rfl hl ecdt1 w
theorem ecdt2 : (callN (ecdE [ecdP0, ecdP24, ecdP63] ecdI ecdG6) 100 4 ecdArgs0 H0).isTrue = true := by kernel_rfl
theorem ecdu2 {G : Gh} (F : Facts G ecdI ecdG6 ecdNL) (hm : ¬ G.mono) (hT : HooksOk Tryz.prog G (hkT ecTD)) {ul : List Value} (hl : concL G (fun _ => none) ecdArgs0 = some ul) (w : World) : Calls Tryz.prog 4 ul.toArray w (TrueBelow w) := by exact run_true (nl := [⟨2, .i64, (-10,[(3,10),(4,1)]), (10,[]), 4⟩]) progOk F (ecdH F hm hT (ecdK (ecds0 ⟨F.bd, F.ge.2.2.2.2.2, F.nl⟩ hm hT) (ecdK (ecds24 ⟨F.bd, F.ge.2.2.2.2, F.nl⟩ hm hT) (ecdK (ecds63 ⟨F.bd, F.ge.2.2.2, F.nl⟩ hm hT) ecdN)))) Tryz.func4 rfl hl ecdt2 w
theorem ecdt3 : (callN (ecdE [ecdP0, ecdP24, ecdP63] ecdI ecdG7) 100 4 ecdArgs0 H0).isTrue = true := by kernel_rfl
theorem ecdu3 {G : Gh} (F : Facts G ecdI ecdG7 ecdNL) (hm : ¬ G.mono) (hT : HooksOk Tryz.prog G (hkT ecTD)) {ul : List Value} (hl : concL G (fun _ => none) ecdArgs0 = some ul) (w : World) : Calls Tryz.prog 4 ul.toArray w (TrueBelow w) := by exact run_true (nl := [⟨2, .i64, (-10,[(3,10),(4,1)]), (10,[]), 4⟩]) progOk F (ecdH F hm hT (ecdK (ecds0 ⟨F.bd, F.ge.2.2.2.2, F.nl⟩ hm hT) (ecdK (ecds24 ⟨F.bd, F.ge.2.2.2, F.nl⟩ hm hT) (ecdK (ecds63 ⟨F.bd, F.ge.2.2, F.nl⟩ hm hT) ecdN)))) Tryz.func4 rfl hl ecdt3 w
theorem ecdt4 : (callN (ecdE [ecdP0, ecdP24, ecdP64] ecdI ecdG8) 100 4 ecdArgs0 H0).isTrue = true := by kernel_rfl
theorem ecdu4 {G : Gh} (F : Facts G ecdI ecdG8 ecdNL) (hm : ¬ G.mono) (hT : HooksOk Tryz.prog G (hkT ecTD)) {ul : List Value} (hl : concL G (fun _ => none) ecdArgs0 = some ul) (w : World) : Calls Tryz.prog 4 ul.toArray w (TrueBelow w) := by exact run_true (nl := [⟨2, .i64, (-10,[(3,10),(4,1)]), (10,[]), 4⟩]) progOk F (ecdH F hm hT (ecdK (ecds0 ⟨F.bd, F.ge.2.2.2.2, F.nl⟩ hm hT) (ecdK (ecds24 ⟨F.bd, F.ge.2.2.2, F.nl⟩ hm hT) (ecdK (ecds64 ⟨F.bd, F.ge.2.2, F.nl⟩ hm hT) ecdN)))) Tryz.func4 rfl hl ecdt4 w
theorem ecdt5 : (callN (ecdE [ecdP0, ecdP24, ecdP64] ecdI ecdG9) 100 4 ecdArgs0 H0).isTrue = true := by kernel_rfl
theorem ecdu5 {G : Gh} (F : Facts G ecdI ecdG9 ecdNL) (hm : ¬ G.mono) (hT : HooksOk Tryz.prog G (hkT ecTD)) {ul : List Value} (hl : concL G (fun _ => none) ecdArgs0 = some ul) (w : World) : Calls Tryz.prog 4 ul.toArray w (TrueBelow w) := by exact run_true (nl := [⟨2, .i64, (-10,[(3,10),(4,1)]), (10,[]), 4⟩]) progOk F (ecdH F hm hT (ecdK (ecds0 ⟨F.bd, F.ge.2.2.2.2.2, F.nl⟩ hm hT) (ecdK (ecds24 ⟨F.bd, F.ge.2.2.2.2, F.nl⟩ hm hT) (ecdK (ecds64 ⟨F.bd, F.ge.2.2.2, F.nl⟩ hm hT) ecdN)))) Tryz.func4 rfl hl ecdt5 w
theorem ecdt6 : (callN (ecdE [ecdP0, ecdP24, ecdP64] ecdI ecdG10) 100 4 ecdArgs0 H0).isTrue = true := by kernel_rfl
theorem ecdu6 {G : Gh} (F : Facts G ecdI ecdG10 ecdNL) (hm : ¬ G.mono) (hT : HooksOk Tryz.prog G (hkT ecTD)) {ul : List Value} (hl : concL G (fun _ => none) ecdArgs0 = some ul) (w : World) : Calls Tryz.prog 4 ul.toArray w (TrueBelow w) := by exact run_true (nl := [⟨2, .i64, (-10,[(3,10),(4,1)]), (10,[]), 4⟩]) progOk F (ecdH F hm hT (ecdK (ecds0 ⟨F.bd, F.ge.2.2.2.2.2, F.nl⟩ hm hT) (ecdK (ecds24 ⟨F.bd, F.ge.2.2.2.2, F.nl⟩ hm hT) (ecdK (ecds64 ⟨F.bd, F.ge.2.2.2, F.nl⟩ hm hT) ecdN)))) Tryz.func4 rfl hl ecdt6 w
theorem ecdt7 : (callN (ecdE [ecdP0, ecdP24, ecdP64] ecdI ecdG11) 100 4 ecdArgs0 H0).isTrue = true := by kernel_rfl
theorem ecdu7 {G : Gh} (F : Facts G ecdI ecdG11 ecdNL) (hm : ¬ G.mono) (hT : HooksOk Tryz.prog G (hkT ecTD)) {ul : List Value} (hl : concL G (fun _ => none) ecdArgs0 = some ul) (w : World) : Calls Tryz.prog 4 ul.toArray w (TrueBelow w) := by exact run_true (nl := [⟨2, .i64, (-10,[(3,10),(4,1)]), (10,[]), 4⟩]) progOk F (ecdH F hm hT (ecdK (ecds0 ⟨F.bd, F.ge.2.2.2.2, F.nl⟩ hm hT) (ecdK (ecds24 ⟨F.bd, F.ge.2.2.2, F.nl⟩ hm hT) (ecdK (ecds64 ⟨F.bd, F.ge.2.2, F.nl⟩ hm hT) ecdN)))) Tryz.func4 rfl hl ecdt7 w
end Go.Proofs.YtdfgedemolielaaGreat
