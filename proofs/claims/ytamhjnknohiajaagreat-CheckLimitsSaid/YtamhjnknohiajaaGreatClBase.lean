/- complinelaw24.CheckLimits: its tables, and the runs out of its bounds. -/
import Derived.Test.YtamhjnknohiajaaGreatAlive24
namespace Go.Proofs.YtamhjnknohiajaaGreat
open Go.RowKit Gv
noncomputable def clA : Nat → Option (Gv.Call → List V → H → RV) := hkT [⟨6, [], .bool true⟩]
def clO : List (Int × Int) := [(-9223372036854775808, 9223372036854775807), (-9223372036854775808, 9223372036854775807), (-9223372036854775808, 9223372036854775807), (-9223372036854775808, 9223372036854775807)]
def clI : List (Int × Int) := [(1, 1073741824), (0, 1073741824), (0, 1073741824), (0, 1073741824)]
def clArgs : List V := [.sint .i64 0 [(0, 1)], .sint .i64 0 [(1, 1)], .sint .i64 0 [(2, 1)], .sint .i64 0 [(3, 1)]]
/-- What holds where the first k tests say no. -/
def clNo : List LF := [(-1,[(0,1)]), (1073741824,[(0,-1)]), (0,[(1,1)]), (1073741824,[(1,-1)]), (0,[(2,1)]), (1073741824,[(2,-1)]), (0,[(3,1)]), (1073741824,[(3,-1)])]
abbrev ClRun (bd : List (Int × Int)) (ge : List LF) : Prop := (callN (evE Tryz.prog (libS bd ge (mapsH bd ge [] clA)) bd ge []) 100 4 (clArgs) H0).isTrue = true
theorem clo0_x : ClRun clO ((0,[(0,-1)]) :: clNo.take 0) := by unfold ClRun; kernel_rfl
theorem clo1_x : ClRun clO ((-1073741825,[(0,1)]) :: clNo.take 1) := by unfold ClRun; kernel_rfl
theorem clo2_x : ClRun clO ((-1,[(1,-1)]) :: clNo.take 2) := by unfold ClRun; kernel_rfl
theorem clo3_x : ClRun clO ((-1073741825,[(1,1)]) :: clNo.take 3) := by unfold ClRun; kernel_rfl
theorem clo4_x : ClRun clO ((-1,[(2,-1)]) :: clNo.take 4) := by unfold ClRun; kernel_rfl
theorem clo5_x : ClRun clO ((-1073741825,[(2,1)]) :: clNo.take 5) := by unfold ClRun; kernel_rfl
theorem clo6_x : ClRun clO ((-1,[(3,-1)]) :: clNo.take 6) := by unfold ClRun; kernel_rfl
theorem clo7_x : ClRun clO ((-1073741825,[(3,1)]) :: clNo.take 7) := by unfold ClRun; kernel_rfl
end Go.Proofs.YtamhjnknohiajaaGreat
