/- complinelaw25.OptLacks: runs within its bounds, part 4. -/
import Derived.Test.YtegfcailcgogpaaGreatOlBase
namespace Go.Proofs.YtegfcailcgogpaaGreat
open Go.RowKit Gv
theorem olg16 : OlRun olI [LF.neg (-1,[(1,-1),(2,1),(0,1)]), (0,[(1,-1)]), LF.neg (-1,[(0,1)])] true := by unfold OlRun; kernel_rfl
theorem olg17 : OlRun olI [(-1,[(1,1),(2,-1),(0,-1)]), LF.neg (-1,[(1,-1),(2,1),(0,1)]), (-1,[(2,-1),(1,1)]), LF.neg (0,[(1,-1)]), LF.neg (-1,[(0,1)])] true := by unfold OlRun; kernel_rfl
theorem olg18 : OlRun olI [(-1,[(1,-1),(2,1),(0,1)]), LF.neg (-1,[(2,-1),(1,1)]), LF.neg (0,[(1,-1)]), LF.neg (-1,[(0,1)])] true := by unfold OlRun; kernel_rfl
theorem olg19 : OlRun olI [LF.neg (-1,[(1,-1),(2,1),(0,1)]), LF.neg (-1,[(2,-1),(1,1)]), LF.neg (0,[(1,-1)]), LF.neg (-1,[(0,1)])] true := by unfold OlRun; kernel_rfl
end Go.Proofs.YtegfcailcgogpaaGreat
