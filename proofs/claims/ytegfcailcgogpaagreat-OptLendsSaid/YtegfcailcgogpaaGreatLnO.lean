/- complinelaw25.OptLends: out of its bounds. -/
import Derived.Test.YtegfcailcgogpaaGreatLnHt
namespace Go.Proofs.YtegfcailcgogpaaGreat
open Go.RowKit Gv
def lnO : List (Int × Int) := [(-9223372036854775808, 9223372036854775807), (-9223372036854775808, 9223372036854775807), (-9223372036854775808, 9223372036854775807)]
def lnArgs : List V := [.sint .i64 0 [(0,1)], .sint .i64 0 [(1,1)], .sint .i64 0 [(2,1)]]
def lnNo : List LF := [(-1,[(0,1)]), (1000,[(0,-1)]), (0,[(1,1)]), (5000,[(1,-1)]), (0,[(2,1)]), (5000,[(2,-1)])]
abbrev LnRun (bd : List (Int × Int)) (ge : List LF) : Prop := (callN (evE Tryz.prog (libS bd ge (mapsH bd ge [] lnA)) bd ge []) 100 5 lnArgs H0).isTrue = true
theorem lno0 : LnRun lnO ((0,[(0,-1)]) :: lnNo.take 0) := by unfold LnRun; kernel_rfl
theorem lno1 : LnRun lnO ((-1001,[(0,1)]) :: lnNo.take 1) := by unfold LnRun; kernel_rfl
theorem lno2 : LnRun lnO ((-1,[(1,-1)]) :: lnNo.take 2) := by unfold LnRun; kernel_rfl
theorem lno3 : LnRun lnO ((-5001,[(1,1)]) :: lnNo.take 3) := by unfold LnRun; kernel_rfl
theorem lno4 : LnRun lnO ((-1,[(2,-1)]) :: lnNo.take 4) := by unfold LnRun; kernel_rfl
theorem lno5 : LnRun lnO ((-5001,[(2,1)]) :: lnNo.take 5) := by unfold LnRun; kernel_rfl
end Go.Proofs.YtegfcailcgogpaaGreat
