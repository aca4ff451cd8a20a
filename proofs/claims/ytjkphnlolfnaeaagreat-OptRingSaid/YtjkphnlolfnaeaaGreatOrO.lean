/- complinelaw25.OptRing: out of its bounds. -/
import Derived.Test.YtjkphnlolfnaeaaGreatOrHt
namespace Go.Proofs.YtjkphnlolfnaeaaGreat
open Go.RowKit Gv
def orO : List (Int × Int) := [(-9223372036854775808, 9223372036854775807), (-9223372036854775808, 9223372036854775807), (-9223372036854775808, 9223372036854775807)]
def orArgs : List V := [.sint .i64 0 [(0,1)], .sint .i64 0 [(1,1)], .sint .i64 0 [(2,1)]]
def orNo : List LF := [(-2,[(0,1)]), (3,[(0,-1)]), (-1,[(1,1)]), (1000,[(1,-1)]), (0,[(2,1)]), (1000,[(2,-1)])]
abbrev OrRun (bd : List (Int × Int)) (ge : List LF) : Prop := (callN (evE Tryz.prog (libS bd ge (mapsH bd ge [] orA)) bd ge []) 100 3 orArgs H0).isTrue = true
theorem oro0 : OrRun orO ((1,[(0,-1)]) :: orNo.take 0) := by unfold OrRun; kernel_rfl
theorem oro1 : OrRun orO ((-4,[(0,1)]) :: orNo.take 1) := by unfold OrRun; kernel_rfl
theorem oro2 : OrRun orO ((0,[(1,-1)]) :: orNo.take 2) := by unfold OrRun; kernel_rfl
theorem oro3 : OrRun orO ((-1001,[(1,1)]) :: orNo.take 3) := by unfold OrRun; kernel_rfl
theorem oro4 : OrRun orO ((-1,[(2,-1)]) :: orNo.take 4) := by unfold OrRun; kernel_rfl
theorem oro5 : OrRun orO ((-1001,[(2,1)]) :: orNo.take 5) := by unfold OrRun; kernel_rfl
end Go.Proofs.YtjkphnlolfnaeaaGreat
