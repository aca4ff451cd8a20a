/- complinelaw24.CheckReasons: out of its bounds. -/
import Derived.Test.YtaajobcfbgpfoaaGreatCrHt
namespace Go.Proofs.YtaajobcfbgpfoaaGreat
open Go.RowKit Gv
def crO : List (Int × Int) := [(-9223372036854775808, 9223372036854775807), (-9223372036854775808, 9223372036854775807), (-9223372036854775808, 9223372036854775807)]
def crOArgs : List V := [.sint .i64 0 [(0,1)], .sint .i64 0 [(1,1)], .sint .i64 0 [(2,1)], .opq 0, .opq 1, .opq 2, .opq 3, .opq 4]
def crNo : List LF := [(-1,[(0,1)]), (1073741824,[(0,-1)]), (0,[(1,1)]), (1099511627776,[(1,-1)]), (-1,[(2,1)]), (0,[(0,1),(2,-1)])]
abbrev CrRun (bd : List (Int × Int)) (ge : List LF) : Prop := (callN (evE Tryz.prog (libS bd ge (mapsH bd ge [] crA)) bd ge []) 100 4 crOArgs H0).isTrue = true
theorem cro0 : CrRun crO ((0,[(0,-1)]) :: crNo.take 0) := by unfold CrRun; kernel_rfl
theorem cro1 : CrRun crO ((-1073741825,[(0,1)]) :: crNo.take 1) := by unfold CrRun; kernel_rfl
theorem cro2 : CrRun crO ((-1,[(1,-1)]) :: crNo.take 2) := by unfold CrRun; kernel_rfl
theorem cro3 : CrRun crO ((-1099511627777,[(1,1)]) :: crNo.take 3) := by unfold CrRun; kernel_rfl
theorem cro4 : CrRun crO ((0,[(2,-1)]) :: crNo.take 4) := by unfold CrRun; kernel_rfl
theorem cro5 : CrRun crO ((-1,[(2,1),(0,-1)]) :: crNo.take 5) := by unfold CrRun; kernel_rfl
end Go.Proofs.YtaajobcfbgpfoaaGreat
