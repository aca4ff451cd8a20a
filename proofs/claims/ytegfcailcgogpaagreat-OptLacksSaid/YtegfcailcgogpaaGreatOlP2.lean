/- complinelaw25.OptLacks: runs within its bounds, part 2. -/
import Derived.Test.YtegfcailcgogpaaGreatOlBase
namespace Go.Proofs.YtegfcailcgogpaaGreat
open Go.RowKit Gv
theorem olg8 : OlRun olI [(-1,[(1,-1),(2,1),(0,1)]), LF.neg (-1,[(2,-1),(1,1)]), LF.neg (0,[(1,-1)]), LF.neg (-1,[(0,1)])] false := by unfold OlRun; kernel_rfl
theorem olg9 : OlRun olI [LF.neg (-1,[(1,-1),(2,1),(0,1)]), LF.neg (-1,[(2,-1),(1,1)]), LF.neg (0,[(1,-1)]), LF.neg (-1,[(0,1)])] false := by unfold OlRun; kernel_rfl
theorem olg10 : OlRun olI [(-1,[(1,-1),(2,1),(0,1)]), (0,[(1,-1)]), (-1,[(0,1)])] true := by unfold OlRun; kernel_rfl
theorem olg11 : OlRun olI [(-1,[(0,-1),(2,-1),(1,1)]), (-1,[(2,-1),(1,1)]), LF.neg (0,[(1,-1)]), (-1,[(0,1)])] true := by unfold OlRun; kernel_rfl
end Go.Proofs.YtegfcailcgogpaaGreat
