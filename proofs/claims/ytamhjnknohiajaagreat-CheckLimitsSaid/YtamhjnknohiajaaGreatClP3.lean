/- complinelaw24.CheckLimits: runs within its bounds, part 3. -/
import Derived.Test.YtamhjnknohiajaaGreatClBase
namespace Go.Proofs.YtamhjnknohiajaaGreat
open Go.RowKit Gv
theorem clg12 : ClRun clI [(-1,[(0,1),(1,-1)]), (-1,[(3,1)]), LF.neg (-1,[(2,1)])] := by unfold ClRun; kernel_rfl
theorem clg13 : ClRun clI [(-1,[(0,1),(2,-9)]), LF.neg (-1,[(0,1),(1,-1)]), (-1,[(3,1)]), LF.neg (-1,[(2,1)])] := by unfold ClRun; kernel_rfl
theorem clg14 : ClRun clI [(-1,[(0,1),(1,-1)]), LF.neg (-1,[(3,1)]), LF.neg (-1,[(2,1)])] := by unfold ClRun; kernel_rfl
theorem clg15 : ClRun clI [(-1,[(0,1),(2,-9)]), LF.neg (-1,[(0,1),(1,-1)]), LF.neg (-1,[(3,1)]), LF.neg (-1,[(2,1)])] := by unfold ClRun; kernel_rfl
end Go.Proofs.YtamhjnknohiajaaGreat
