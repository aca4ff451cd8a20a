/- complinelaw24.CheckLimits: runs within its bounds, part 1. -/
import Derived.Test.YtamhjnknohiajaaGreatClBase
namespace Go.Proofs.YtamhjnknohiajaaGreat
open Go.RowKit Gv
theorem clg4 : ClRun clI [LF.neg (-1,[(0,-1),(3,1)]), LF.neg (-1,[(0,1),(3,-1)]), (-2,[(2,1)]), LF.neg (-1,[(0,1),(2,-9)]), LF.neg (-1,[(0,1),(1,-1)]), (-1,[(3,1)]), (-1,[(2,1)])] := by unfold ClRun; kernel_rfl
theorem clg5 : ClRun clI [(-1,[(0,1),(3,-1)]), LF.neg (-2,[(2,1)]), LF.neg (-1,[(0,1),(2,-9)]), LF.neg (-1,[(0,1),(1,-1)]), (-1,[(3,1)]), (-1,[(2,1)])] := by unfold ClRun; kernel_rfl
theorem clg6 : ClRun clI [(-1,[(0,-1),(3,1)]), LF.neg (-1,[(0,1),(3,-1)]), LF.neg (-2,[(2,1)]), LF.neg (-1,[(0,1),(2,-9)]), LF.neg (-1,[(0,1),(1,-1)]), (-1,[(3,1)]), (-1,[(2,1)])] := by unfold ClRun; kernel_rfl
theorem clg7 : ClRun clI [LF.neg (-1,[(0,-1),(3,1)]), LF.neg (-1,[(0,1),(3,-1)]), LF.neg (-2,[(2,1)]), LF.neg (-1,[(0,1),(2,-9)]), LF.neg (-1,[(0,1),(1,-1)]), (-1,[(3,1)]), (-1,[(2,1)])] := by unfold ClRun; kernel_rfl
end Go.Proofs.YtamhjnknohiajaaGreat
