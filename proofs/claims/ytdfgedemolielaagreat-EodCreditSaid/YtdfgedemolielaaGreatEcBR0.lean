/- complinelaw27.EodCredit: runs, part 0. -/
import Derived.Test.YtdfgedemolielaaGreatEcBa
namespace Go.Proofs.YtdfgedemolielaaGreat
open Go Go.RowKit Gv Gv.Lt
set_option maxRecDepth 100000
theorem ecbr0 : ecbC [] ecbG0 6 ecbP0 := by unfold ecbC; kernel_rfl
theorem ecbs0 : ecbS ecbG0 ecbP0 := ecb_piece Tryz.func6 rfl ecbr0 fun _ _ _ => ecbN
theorem ecbr24 : ecbC [] ecbG0 12 ecbP24 := by unfold ecbC; kernel_rfl
theorem ecbs24 : ecbS ecbG0 ecbP24 := ecb_piece Tryz.func12 rfl ecbr24 fun _ _ _ => ecbN
theorem ecbr63 : ecbC [] ecbG1 82 ecbP63 := by unfold ecbC; kernel_rfl
theorem ecbs63 : ecbS ecbG1 ecbP63 := ecb_piece Tryz.func82 rfl ecbr63 fun _ _ _ => ecbN
theorem ecbr64 : ecbC [] ecbG2 82 ecbP64 := by unfold ecbC; kernel_rfl
theorem ecbs64 : ecbS ecbG2 ecbP64 := ecb_piece Tryz.func82 rfl ecbr64 fun _ _ _ => ecbN
theorem ecbt0 : (callN (ecbE [ecbP0, ecbP24, ecbP63] ecbI ecbG3) 100 4 ecbArgs0 H0).isTrue = true := by kernel_rfl
theorem ecbu0 {G : Gh} (F : Facts G ecbI ecbG3 ecbNL) (hm : ¬ G.mono) (hT : HooksOk Tryz.prog G (hkT ecTB)) {ul : List Value} (hl : concL G (fun _ => none) ecbArgs0 = some ul) (w : World) : Calls Tryz.prog 4 ul.toArray w (TrueBelow w) := by exact run_true (nl := [⟨2, .i64, (-10,[(3,10),(4,1)]), (10,[]), 4⟩]) progOk F (ecbH F hm hT (ecbK (ecbs0 ⟨F.bd, F.ge.2.2.2, F.nl⟩ hm hT) (ecbK (ecbs24 ⟨F.bd, F.ge.2.2.2, F.nl⟩ hm hT) (ecbK (ecbs63 ⟨F.bd, F.ge.2.2, F.nl⟩ hm hT) ecbN)))) Tryz.func4 rfl hl ecbt0 w
theorem ecbt1 : (callN (ecbE [ecbP0, ecbP24, ecbP63] ecbI ecbG4) 100 4 ecbArgs0 H0).isTrue = true := by kernel_rfl
theorem ecbu1 {G : Gh} (F : Facts G ecbI ecbG4 ecbNL) (hm : ¬ G.mono) (hT : HooksOk Tryz.prog G (hkT ecTB)) {ul : List Value} (hl : concL G (fun _ => none) ecbArgs0 = some ul) (w : World) : Calls Tryz.prog 4 ul.toArray w (TrueBelow w) := by exact run_true (nl := [⟨2, .i64, (-10,[(3,10),(4,1)]), (10,[]), 4⟩]) progOk F (ecbH F hm hT (ecbK (ecbs0 ⟨F.bd, F.ge.2.2.2.2, F.nl⟩ hm hT) (ecbK (ecbs24 ⟨F.bd, F.ge.2.2.2.2, F.nl⟩ hm hT) (ecbK (ecbs63 ⟨F.bd, F.ge.2.2.2, F.nl⟩ hm hT) ecbN)))) Tryz.func4 rfl hl ecbt1 w
theorem ecbt2 : (callN (ecbE [ecbP0, ecbP24, ecbP63] ecbI ecbG5) 100 4 ecbArgs0 H0).isTrue = true := by kernel_rfl
theorem ecbu2 {G : Gh} (F : Facts G ecbI ecbG5 ecbNL) (hm : ¬ G.mono) (hT : HooksOk Tryz.prog G (hkT ecTB)) {ul : List Value} (hl : concL G (fun _ => none) ecbArgs0 = some ul) (w : World) : Calls Tryz.prog 4 ul.toArray w (TrueBelow w) := by exact run_true (nl := [⟨2, .i64, (-10,[(3,10),(4,1)]), (10,[]), 4⟩]) progOk F (ecbH F hm hT (ecbK (ecbs0 ⟨F.bd, F.ge.2.2.2.2, F.nl⟩ hm hT) (ecbK (ecbs24 ⟨F.bd, F.ge.2.2.2.2, F.nl⟩ hm hT) (ecbK (ecbs63 ⟨F.bd, F.ge.2.2.2, F.nl⟩ hm hT) ecbN)))) Tryz.func4 rfl hl ecbt2 w
end Go.Proofs.YtdfgedemolielaaGreat
