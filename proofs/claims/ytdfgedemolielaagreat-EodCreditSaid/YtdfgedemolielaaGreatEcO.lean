/- complinelaw27.EodCredit: out of its bounds. -/
import Derived.Test.YtdfgedemolielaaGreatEcHt
namespace Go.Proofs.YtdfgedemolielaaGreat
open Go.RowKit Gv
def ecO : List (Int × Int) := [(-9223372036854775808, 9223372036854775807), (-9223372036854775808, 9223372036854775807), (-9223372036854775808, 9223372036854775807)]
def ecOArgs : List V := [.sint .i64 0 [(0,1)], .sint .i64 0 [(1,1)], .sint .i64 0 [(2,1)], .opq 0]
def ecNo : List LF := [(0,[(0,1)]), (400,[(0,-1)]), (0,[(1,1)]), (1000,[(1,-1)]), (0,[(2,1)]), (1000,[(2,-1)])]
abbrev EcRun (bd : List (Int × Int)) (ge : List LF) : Prop := (callN (evE Tryz.prog (libS bd ge (mapsH bd ge [] ecA)) bd ge []) 100 4 ecOArgs H0).isTrue = true
theorem eco0 : EcRun ecO ((-1,[(0,-1)]) :: ecNo.take 0) := by unfold EcRun; kernel_rfl
theorem eco1 : EcRun ecO ((-401,[(0,1)]) :: ecNo.take 1) := by unfold EcRun; kernel_rfl
theorem eco2 : EcRun ecO ((-1,[(1,-1)]) :: ecNo.take 2) := by unfold EcRun; kernel_rfl
theorem eco3 : EcRun ecO ((-1001,[(1,1)]) :: ecNo.take 3) := by unfold EcRun; kernel_rfl
theorem eco4 : EcRun ecO ((-1,[(2,-1)]) :: ecNo.take 4) := by unfold EcRun; kernel_rfl
theorem eco5 : EcRun ecO ((-1001,[(2,1)]) :: ecNo.take 5) := by unfold EcRun; kernel_rfl
end Go.Proofs.YtdfgedemolielaaGreat
