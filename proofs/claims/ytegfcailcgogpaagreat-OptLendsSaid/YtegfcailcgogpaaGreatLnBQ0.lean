/- complinelaw25.OptLends: runs within its bounds, part 0. -/
import Derived.Test.YtegfcailcgogpaaGreatLnBQ
namespace Go.Proofs.YtegfcailcgogpaaGreat
open Go.RowKit Gv
theorem lnbq0 : LnBRun lnbI [(-1,[(2,-1),(1,1),(0,-9)]), (-1,[(3,1),(0,-1)]), (-1,[(2,1)]), (-1,[(1,1),(2,-1)]), (0,[(3,9),(1,-1),(2,1)]), (8,[(1,1),(2,-1),(3,-9)])] := by unfold LnBRun; kernel_rfl
theorem lnbq1 : LnBRun lnbI [LF.neg (-1,[(1,1),(2,-1),(0,-9)]), (-1,[(3,1)]), (-1,[(3,9)]), LF.neg (-1,[(3,1),(0,-1)]), (-1,[(2,1)]), (-1,[(1,1),(2,-1)]), (0,[(3,9),(1,-1),(2,1)]), (8,[(1,1),(2,-1),(3,-9)])] := by unfold LnBRun; kernel_rfl
end Go.Proofs.YtegfcailcgogpaaGreat
