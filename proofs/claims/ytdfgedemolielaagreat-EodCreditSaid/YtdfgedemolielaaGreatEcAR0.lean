/- complinelaw27.EodCredit: runs, part 0. -/
import Derived.Test.YtdfgedemolielaaGreatEcAa
namespace Go.Proofs.YtdfgedemolielaaGreat
open Go Go.RowKit Gv Gv.Lt
set_option maxRecDepth 100000
theorem ecar0 : ecaC [] ecaG0 6 ecaP0 := by unfold ecaC; kernel_rfl
theorem ecas0 : ecaS ecaG0 ecaP0 := eca_piece Tryz.func6 rfl ecar0 fun _ _ _ => ecaN
theorem ecar64 : ecaC [] ecaG1 12 ecaP64 := by unfold ecaC; kernel_rfl
theorem ecas64 : ecaS ecaG1 ecaP64 := eca_piece Tryz.func12 rfl ecar64 fun _ _ _ => ecaN
theorem ecar142 : ecaC [] ecaG1 82 ecaP142 := by unfold ecaC; kernel_rfl
theorem ecas142 : ecaS ecaG1 ecaP142 := eca_piece Tryz.func82 rfl ecar142 fun _ _ _ => ecaN
theorem ecar66 : ecaC [] ecaG2 12 ecaP66 := by unfold ecaC; kernel_rfl
theorem ecas66 : ecaS ecaG2 ecaP66 := eca_piece Tryz.func12 rfl ecar66 fun _ _ _ => ecaN
theorem ecar141 : ecaC [] ecaG2 82 ecaP141 := by unfold ecaC; kernel_rfl
theorem ecas141 : ecaS ecaG2 ecaP141 := eca_piece Tryz.func82 rfl ecar141 fun _ _ _ => ecaN
theorem ecar65 : ecaC [] ecaG3 12 ecaP65 := by unfold ecaC; kernel_rfl
theorem ecas65 : ecaS ecaG3 ecaP65 := eca_piece Tryz.func12 rfl ecar65 fun _ _ _ => ecaN
theorem ecar139 : ecaC [] ecaG3 82 ecaP139 := by unfold ecaC; kernel_rfl
theorem ecas139 : ecaS ecaG3 ecaP139 := eca_piece Tryz.func82 rfl ecar139 fun _ _ _ => ecaN
end Go.Proofs.YtdfgedemolielaaGreat
