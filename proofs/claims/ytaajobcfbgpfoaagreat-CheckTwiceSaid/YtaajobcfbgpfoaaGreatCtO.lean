/- complinelaw24.CheckTwice: out of its bounds. -/
import Derived.Test.YtaajobcfbgpfoaaGreatCtHt
namespace Go.Proofs.YtaajobcfbgpfoaaGreat
open Go.RowKit Gv
def ctO : List (Int × Int) := [(-9223372036854775808, 9223372036854775807), (-9223372036854775808, 9223372036854775807), (-9223372036854775808, 9223372036854775807)]
def ctOArgs : List V := [.sint .i64 0 [(0,1)], .sint .i64 0 [(1,1)], .sint .i64 0 [(2,1)]]
def ctNo : List LF := [(-2,[(0,1)]), (1073741824,[(0,-1)]), (0,[(1,1)]), (1099511627776,[(1,-1)]), (-1,[(2,1)]), (-1,[(0,1),(2,-1)])]
abbrev CtRun (bd : List (Int × Int)) (ge : List LF) : Prop := (callN (evE Tryz.prog (libS bd ge (mapsH bd ge [] ctA)) bd ge []) 100 3 ctOArgs H0).isTrue = true
theorem cto0 : CtRun ctO ((1,[(0,-1)]) :: ctNo.take 0) := by unfold CtRun; kernel_rfl
theorem cto1 : CtRun ctO ((-1073741825,[(0,1)]) :: ctNo.take 1) := by unfold CtRun; kernel_rfl
theorem cto2 : CtRun ctO ((-1,[(1,-1)]) :: ctNo.take 2) := by unfold CtRun; kernel_rfl
theorem cto3 : CtRun ctO ((-1099511627777,[(1,1)]) :: ctNo.take 3) := by unfold CtRun; kernel_rfl
theorem cto4 : CtRun ctO ((0,[(2,-1)]) :: ctNo.take 4) := by unfold CtRun; kernel_rfl
theorem cto5 : CtRun ctO ((0,[(2,1),(0,-1)]) :: ctNo.take 5) := by unfold CtRun; kernel_rfl
end Go.Proofs.YtaajobcfbgpfoaaGreat
