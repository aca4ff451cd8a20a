/- complinelaw24.CheckLimits: runs within its bounds, part 2. -/
import Derived.Test.YtamhjnknohiajaaGreatClBase
namespace Go.Proofs.YtamhjnknohiajaaGreat
open Go.RowKit Gv
theorem clg8 : ClRun clI [(-1,[(0,1),(1,-1)]), LF.neg (-1,[(3,1)]), (-1,[(2,1)])] := by unfold ClRun; kernel_rfl
theorem clg9 : ClRun clI [(-1,[(0,1),(2,-9)]), LF.neg (-1,[(0,1),(1,-1)]), LF.neg (-1,[(3,1)]), (-1,[(2,1)])] := by unfold ClRun; kernel_rfl
theorem clg10 : ClRun clI [(-2,[(2,1)]), LF.neg (-1,[(0,1),(2,-9)]), LF.neg (-1,[(0,1),(1,-1)]), LF.neg (-1,[(3,1)]), (-1,[(2,1)])] := by unfold ClRun; kernel_rfl
theorem clg11 : ClRun clI [LF.neg (-2,[(2,1)]), LF.neg (-1,[(0,1),(2,-9)]), LF.neg (-1,[(0,1),(1,-1)]), LF.neg (-1,[(3,1)]), (-1,[(2,1)])] := by unfold ClRun; kernel_rfl
end Go.Proofs.YtamhjnknohiajaaGreat
