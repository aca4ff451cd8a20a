/- complinelaw27.alive: runs, part 1. -/
import Derived.Test.YtmfmjhklajmhoaaGreatAlA
namespace Go.Proofs.YtmfmjhklajmhoaaGreat
open Go Go.RowKit Gv Gv.Lt
set_option maxRecDepth 100000
theorem alr8 : alC [] [] 136 alP8 := by unfold alC; kernel_rfl
theorem als8 : alS [] alP8 := al_piece Tryz.func136 rfl alr8 fun _ _ => alN
theorem alr9 : alC [] [] 136 alP9 := by unfold alC; kernel_rfl
theorem als9 : alS [] alP9 := al_piece Tryz.func136 rfl alr9 fun _ _ => alN
theorem alr10 : alC [alP8, alP9] [] 42 alP10 := by unfold alC; kernel_rfl
theorem als10 : alS [] alP10 := al_piece Tryz.func42 rfl alr10 fun F hm => (alK (als8 F hm) (alK (als9 F hm) alN))
theorem alr11 : alC [] [] 287 alP11 := by unfold alC; kernel_rfl
theorem als11 : alS [] alP11 := al_piece Tryz.func287 rfl alr11 fun _ _ => alN
end Go.Proofs.YtmfmjhklajmhoaaGreat
