/- complinelaw27.alive: runs, part 3. -/
import Derived.Test.YtmfmjhklajmhoaaGreatAlA
namespace Go.Proofs.YtmfmjhklajmhoaaGreat
open Go Go.RowKit Gv Gv.Lt
set_option maxRecDepth 100000
theorem alr17 : alC [] [] 225 alP17 := by unfold alC; kernel_rfl
theorem als17 : alS [] alP17 := al_piece Tryz.func225 rfl alr17 fun _ _ => alN
end Go.Proofs.YtmfmjhklajmhoaaGreat
