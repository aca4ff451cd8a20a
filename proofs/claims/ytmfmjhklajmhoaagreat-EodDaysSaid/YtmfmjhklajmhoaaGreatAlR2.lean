/- complinelaw27.alive: runs, part 2. -/
import Derived.Test.YtmfmjhklajmhoaaGreatAlA
import Derived.Test.YtmfmjhklajmhoaaGreatAlR1
namespace Go.Proofs.YtmfmjhklajmhoaaGreat
open Go Go.RowKit Gv Gv.Lt
set_option maxRecDepth 100000
theorem alr12 : alC [] [] 470 alP12 := by unfold alC; kernel_rfl
theorem als12 : alS [] alP12 := al_piece Tryz.func470 rfl alr12 fun _ _ => alN
theorem alr13 : alC [] [] 287 alP13 := by unfold alC; kernel_rfl
theorem als13 : alS [] alP13 := al_piece Tryz.func287 rfl alr13 fun _ _ => alN
theorem alr14 : alC [alP11, alP12, alP13] [] 361 alP14 := by unfold alC; kernel_rfl
theorem als14 : alS [] alP14 := al_piece Tryz.func361 rfl alr14 fun F hm => (alK (als11 F hm) (alK (als12 F hm) (alK (als13 F hm) alN)))
theorem alr15 : alC [alP14] [] 286 alP15 := by unfold alC; kernel_rfl
theorem als15 : alS [] alP15 := al_piece Tryz.func286 rfl alr15 fun F hm => (alK (als14 F hm) alN)
theorem alr16 : alC [alP15] [] 224 alP16 := by unfold alC; kernel_rfl
theorem als16 : alS [] alP16 := al_piece Tryz.func224 rfl alr16 fun F hm => (alK (als15 F hm) alN)
end Go.Proofs.YtmfmjhklajmhoaaGreat
