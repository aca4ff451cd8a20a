/- complinelaw27.alive: runs, part 0. -/
import Derived.Test.YtmfmjhklajmhoaaGreatAlA
namespace Go.Proofs.YtmfmjhklajmhoaaGreat
open Go Go.RowKit Gv Gv.Lt
set_option maxRecDepth 100000
theorem alr0 : alC [] [] 5 alP0 := by unfold alC; kernel_rfl
theorem als0 : alS [] alP0 := al_piece Tryz.func5 rfl alr0 fun _ _ => alN
theorem alr1 : alC [] [] 40 alP1 := by unfold alC; kernel_rfl
theorem als1 : alS [] alP1 := al_piece Tryz.func40 rfl alr1 fun _ _ => alN
theorem alr2 : alC [] [] 40 alP2 := by unfold alC; kernel_rfl
theorem als2 : alS [] alP2 := al_piece Tryz.func40 rfl alr2 fun _ _ => alN
theorem alr3 : alC [] [] 40 alP3 := by unfold alC; kernel_rfl
theorem als3 : alS [] alP3 := al_piece Tryz.func40 rfl alr3 fun _ _ => alN
theorem alr4 : alC [] [] 40 alP4 := by unfold alC; kernel_rfl
theorem als4 : alS [] alP4 := al_piece Tryz.func40 rfl alr4 fun _ _ => alN
theorem alr5 : alC [] [] 40 alP5 := by unfold alC; kernel_rfl
theorem als5 : alS [] alP5 := al_piece Tryz.func40 rfl alr5 fun _ _ => alN
theorem alr6 : alC [] [] 40 alP6 := by unfold alC; kernel_rfl
theorem als6 : alS [] alP6 := al_piece Tryz.func40 rfl alr6 fun _ _ => alN
theorem alr7 : alC [] [] 40 alP7 := by unfold alC; kernel_rfl
theorem als7 : alS [] alP7 := al_piece Tryz.func40 rfl alr7 fun _ _ => alN
end Go.Proofs.YtmfmjhklajmhoaaGreat
