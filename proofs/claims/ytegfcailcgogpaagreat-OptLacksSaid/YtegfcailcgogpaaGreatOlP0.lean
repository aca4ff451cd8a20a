/- complinelaw25.OptLacks: runs within its bounds, part 0. -/
import Derived.Test.YtegfcailcgogpaaGreatOlBase
namespace Go.Proofs.YtegfcailcgogpaaGreat
open Go.RowKit Gv
theorem olg0 : OlRun olI [(-1,[(1,-1),(2,1),(0,1)]), (0,[(1,-1)]), (-1,[(0,1)])] false := by unfold OlRun; kernel_rfl
theorem olg1 : OlRun olI [(-1,[(0,-1),(2,-1),(1,1)]), (-1,[(2,-1),(1,1)]), LF.neg (0,[(1,-1)]), (-1,[(0,1)])] false := by unfold OlRun; kernel_rfl
theorem olg2 : OlRun olI [(-1,[(1,-1),(2,1),(0,1)]), LF.neg (-1,[(0,-1),(2,-1),(1,1)]), (-1,[(2,-1),(1,1)]), LF.neg (0,[(1,-1)]), (-1,[(0,1)])] false := by unfold OlRun; kernel_rfl
theorem olg3 : OlRun olI [LF.neg (-1,[(1,-1),(2,1),(0,1)]), LF.neg (-1,[(0,-1),(2,-1),(1,1)]), (-1,[(2,-1),(1,1)]), LF.neg (0,[(1,-1)]), (-1,[(0,1)])] false := by unfold OlRun; kernel_rfl
end Go.Proofs.YtegfcailcgogpaaGreat
