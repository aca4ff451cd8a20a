/- complinelaw25.OptLends: runs within its bounds, part 0. -/
import Derived.Test.YtegfcailcgogpaaGreatLnCQ
namespace Go.Proofs.YtegfcailcgogpaaGreat
open Go.RowKit Gv
theorem lncq0 : LnCRun lncI [(-1,[(1,1),(0,-9)]), (-1,[(3,1),(0,-1)]), (-1,[(1,1)]), (0,[(3,9),(1,-1)]), (8,[(1,1),(3,-9)])] := by unfold LnCRun; kernel_rfl
theorem lncq1 : LnCRun lncI [LF.neg (-1,[(1,1),(0,-9)]), (-1,[(3,1)]), (-1,[(3,9)]), LF.neg (-1,[(3,1),(0,-1)]), (-1,[(1,1)]), (0,[(3,9),(1,-1)]), (8,[(1,1),(3,-9)])] := by unfold LnCRun; kernel_rfl
end Go.Proofs.YtegfcailcgogpaaGreat
