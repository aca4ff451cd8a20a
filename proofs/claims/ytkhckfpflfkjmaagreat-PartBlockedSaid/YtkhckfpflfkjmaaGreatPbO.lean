/- complinelaw23.PartBlocked: out of its bounds. -/
import Derived.Test.YtkhckfpflfkjmaaGreatPbHt
namespace Go.Proofs.YtkhckfpflfkjmaaGreat
open Go.RowKit Gv
def pbO : List (Int × Int) := [(-9223372036854775808, 9223372036854775807), (-9223372036854775808, 9223372036854775807), (-9223372036854775808, 9223372036854775807), (-9223372036854775808, 9223372036854775807)]
def pbOArgs : List V := [.sint .i64 0 [(0,1)], .sint .i64 0 [(1,1)], .sint .i64 0 [(2,1)], .sint .i64 0 [(3,1)], .opq 0, .opq 1, .opq 2]
def pbNo : List LF := [(-1,[(0,1)]), (1000,[(0,-1)]), (0,[(1,1)]), (1000,[(1,-1)]), (0,[(2,1)]), (1000,[(2,-1)]), (0,[(3,1)]), (1000,[(3,-1)])]
abbrev PbRun (bd : List (Int × Int)) (ge : List LF) : Prop := (callN (evE Tryz.prog (libS bd ge (mapsH bd ge [] pbA)) bd ge []) 100 5 pbOArgs H0).isTrue = true
theorem pbo0 : PbRun pbO ((0,[(0,-1)]) :: pbNo.take 0) := by unfold PbRun; kernel_rfl
theorem pbo1 : PbRun pbO ((-1001,[(0,1)]) :: pbNo.take 1) := by unfold PbRun; kernel_rfl
theorem pbo2 : PbRun pbO ((-1,[(1,-1)]) :: pbNo.take 2) := by unfold PbRun; kernel_rfl
theorem pbo3 : PbRun pbO ((-1001,[(1,1)]) :: pbNo.take 3) := by unfold PbRun; kernel_rfl
theorem pbo4 : PbRun pbO ((-1,[(2,-1)]) :: pbNo.take 4) := by unfold PbRun; kernel_rfl
theorem pbo5 : PbRun pbO ((-1001,[(2,1)]) :: pbNo.take 5) := by unfold PbRun; kernel_rfl
theorem pbo6 : PbRun pbO ((-1,[(3,-1)]) :: pbNo.take 6) := by unfold PbRun; kernel_rfl
theorem pbo7 : PbRun pbO ((-1001,[(3,1)]) :: pbNo.take 7) := by unfold PbRun; kernel_rfl
end Go.Proofs.YtkhckfpflfkjmaaGreat
