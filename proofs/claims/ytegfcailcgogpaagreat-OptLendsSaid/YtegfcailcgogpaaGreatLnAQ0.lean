/- complinelaw25.OptLends: runs within its bounds, part 0. -/
import Derived.Test.YtegfcailcgogpaaGreatLnAQ
namespace Go.Proofs.YtegfcailcgogpaaGreat
open Go.RowKit Gv
theorem lnaq0 : LnARun lnaI [(-1,[(1,1)]), (-1,[(2,1)]), (0,[(2,1),(1,-1)])] := by unfold LnARun; kernel_rfl
theorem lnaq1 : LnARun lnaI [LF.neg (-1,[(1,1)]), (-1,[(2,1)]), (0,[(2,1),(1,-1)])] := by unfold LnARun; kernel_rfl
theorem lnaq2 : LnARun lnaI [LF.neg (-1,[(1,1)]), LF.neg (-1,[(2,1)]), (0,[(2,1),(1,-1)])] := by unfold LnARun; kernel_rfl
end Go.Proofs.YtegfcailcgogpaaGreat
