/- complinelaw25.OptLacks: its tables, and the runs out of its bounds. -/
import Derived.Test.YtegfcailcgogpaaGreatAlive25
namespace Go.Proofs.YtegfcailcgogpaaGreat
open Go.RowKit Gv
noncomputable def olA : Nat → Option (Gv.Call → List V → H → RV) := hkT [⟨6, [], .bool true⟩]
def olO : List (Int × Int) := [(-9223372036854775808, 9223372036854775807), (-9223372036854775808, 9223372036854775807), (-9223372036854775808, 9223372036854775807), (-9223372036854775808, 9223372036854775807)]
def olI : List (Int × Int) := [(0, 1099511627776), (0, 1099511627776), (0, 1099511627776), (0, 1099511627776)]
def olArgs (blocked : Bool) : List V := [.sint .i64 0 [(0, 1)], .sint .i64 0 [(1, 1)], .sint .i64 0 [(2, 1)], .sint .i64 0 [(3, 1)], .bool blocked]
/-- What holds where the first k tests say no. -/
def olNo : List LF := [(0,[(0,1)]), (1099511627776,[(0,-1)]), (0,[(1,1)]), (1099511627776,[(1,-1)]), (0,[(2,1)]), (1099511627776,[(2,-1)]), (0,[(3,1)]), (1099511627776,[(3,-1)])]
abbrev OlRun (bd : List (Int × Int)) (ge : List LF) (blocked : Bool) : Prop := (callN (evE Tryz.prog (libS bd ge (mapsH bd ge [] olA)) bd ge []) 100 3 (olArgs blocked) H0).isTrue = true
theorem olo0_f : OlRun olO ((-1,[(0,-1)]) :: olNo.take 0) false := by unfold OlRun; kernel_rfl
theorem olo0_t : OlRun olO ((-1,[(0,-1)]) :: olNo.take 0) true := by unfold OlRun; kernel_rfl
theorem olo1_f : OlRun olO ((-1099511627777,[(0,1)]) :: olNo.take 1) false := by unfold OlRun; kernel_rfl
theorem olo1_t : OlRun olO ((-1099511627777,[(0,1)]) :: olNo.take 1) true := by unfold OlRun; kernel_rfl
theorem olo2_f : OlRun olO ((-1,[(1,-1)]) :: olNo.take 2) false := by unfold OlRun; kernel_rfl
theorem olo2_t : OlRun olO ((-1,[(1,-1)]) :: olNo.take 2) true := by unfold OlRun; kernel_rfl
theorem olo3_f : OlRun olO ((-1099511627777,[(1,1)]) :: olNo.take 3) false := by unfold OlRun; kernel_rfl
theorem olo3_t : OlRun olO ((-1099511627777,[(1,1)]) :: olNo.take 3) true := by unfold OlRun; kernel_rfl
theorem olo4_f : OlRun olO ((-1,[(2,-1)]) :: olNo.take 4) false := by unfold OlRun; kernel_rfl
theorem olo4_t : OlRun olO ((-1,[(2,-1)]) :: olNo.take 4) true := by unfold OlRun; kernel_rfl
theorem olo5_f : OlRun olO ((-1099511627777,[(2,1)]) :: olNo.take 5) false := by unfold OlRun; kernel_rfl
theorem olo5_t : OlRun olO ((-1099511627777,[(2,1)]) :: olNo.take 5) true := by unfold OlRun; kernel_rfl
theorem olo6_f : OlRun olO ((-1,[(3,-1)]) :: olNo.take 6) false := by unfold OlRun; kernel_rfl
theorem olo6_t : OlRun olO ((-1,[(3,-1)]) :: olNo.take 6) true := by unfold OlRun; kernel_rfl
theorem olo7_f : OlRun olO ((-1099511627777,[(3,1)]) :: olNo.take 7) false := by unfold OlRun; kernel_rfl
theorem olo7_t : OlRun olO ((-1099511627777,[(3,1)]) :: olNo.take 7) true := by unfold OlRun; kernel_rfl
end Go.Proofs.YtegfcailcgogpaaGreat
