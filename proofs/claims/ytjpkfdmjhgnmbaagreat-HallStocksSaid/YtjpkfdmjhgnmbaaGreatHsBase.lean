/- HallStocks: its cases, as facts, and the runs out of its bounds. -/
import Derived.Test.YtjpkfdmjhgnmbaaGreatAlive22
namespace Go.Proofs.YtjpkfdmjhgnmbaaGreat
open Go.RowKit Gv
noncomputable def aH : Nat → Option (Gv.Call → List V → H → RV) := hkT [⟨7, [], .bool true⟩]
def bdH : List (Int × Int) := [(-9223372036854775808, 9223372036854775807), (-9223372036854775808, 9223372036854775807), (-9223372036854775808, 9223372036854775807)]
def bdI : List (Int × Int) := [(0, 1099511627776), (0, 1099511627776), (0, 1099511627776)]
def hArgs (b : Bool) : List V := [.sint .i64 0 [(0, 1)], .sint .i64 0 [(1, 1)], .sint .i64 0 [(2, 1)], .bool b]
/-- What holds where the first k tests say no. -/
def noH : List LF := [(0,[(0,1)]), (1099511627776,[(0,-1)]), (0,[(1,1)]), (1099511627776,[(1,-1)]), (0,[(2,1)]), (1099511627776,[(2,-1)])]
abbrev HRun (bd : List (Int × Int)) (ge : List LF) (b : Bool) : Prop := (callN (evE Tryz.prog (libS bd ge aH) bd ge []) 100 3 (hArgs b) H0).isTrue = true
theorem o0_false : HRun bdH ((-1,[(0,-1)]) :: noH.take 0) false := by unfold HRun; kernel_rfl
theorem o0_true : HRun bdH ((-1,[(0,-1)]) :: noH.take 0) true := by unfold HRun; kernel_rfl
theorem o0 (b : Bool) : HRun bdH ((-1,[(0,-1)]) :: noH.take 0) b := by
  cases b
  · exact o0_false
  · exact o0_true
theorem o1_false : HRun bdH ((-1099511627777,[(0,1)]) :: noH.take 1) false := by unfold HRun; kernel_rfl
theorem o1_true : HRun bdH ((-1099511627777,[(0,1)]) :: noH.take 1) true := by unfold HRun; kernel_rfl
theorem o1 (b : Bool) : HRun bdH ((-1099511627777,[(0,1)]) :: noH.take 1) b := by
  cases b
  · exact o1_false
  · exact o1_true
theorem o2_false : HRun bdH ((-1,[(1,-1)]) :: noH.take 2) false := by unfold HRun; kernel_rfl
theorem o2_true : HRun bdH ((-1,[(1,-1)]) :: noH.take 2) true := by unfold HRun; kernel_rfl
theorem o2 (b : Bool) : HRun bdH ((-1,[(1,-1)]) :: noH.take 2) b := by
  cases b
  · exact o2_false
  · exact o2_true
theorem o3_false : HRun bdH ((-1099511627777,[(1,1)]) :: noH.take 3) false := by unfold HRun; kernel_rfl
theorem o3_true : HRun bdH ((-1099511627777,[(1,1)]) :: noH.take 3) true := by unfold HRun; kernel_rfl
theorem o3 (b : Bool) : HRun bdH ((-1099511627777,[(1,1)]) :: noH.take 3) b := by
  cases b
  · exact o3_false
  · exact o3_true
theorem o4_false : HRun bdH ((-1,[(2,-1)]) :: noH.take 4) false := by unfold HRun; kernel_rfl
theorem o4_true : HRun bdH ((-1,[(2,-1)]) :: noH.take 4) true := by unfold HRun; kernel_rfl
theorem o4 (b : Bool) : HRun bdH ((-1,[(2,-1)]) :: noH.take 4) b := by
  cases b
  · exact o4_false
  · exact o4_true
theorem o5_false : HRun bdH ((-1099511627777,[(2,1)]) :: noH.take 5) false := by unfold HRun; kernel_rfl
theorem o5_true : HRun bdH ((-1099511627777,[(2,1)]) :: noH.take 5) true := by unfold HRun; kernel_rfl
theorem o5 (b : Bool) : HRun bdH ((-1099511627777,[(2,1)]) :: noH.take 5) b := by
  cases b
  · exact o5_false
  · exact o5_true
def Fg1 : List LF := [(-1,[(0,1)]), (-1,[(1,1)]), (-1,[(2,1)]), (0,[(0,1),(1,-1)]), (-1,[(0,1),(1,-1),(2,1)])]
def Fg2 : List LF := [(-1,[(0,1)]), (-1,[(1,1)]), (-1,[(2,1)]), (-1,[(0,-1),(1,1)]), (-1,[(0,1),(1,-1),(2,1)])]
def Fg3 : List LF := [(-1,[(0,1)]), (-1,[(1,1)]), (-1,[(2,1)]), (-1,[(0,-1),(1,1)]), (0,[(0,1),(1,-1),(2,1)]), (0,[(0,-1),(1,1),(2,-1)])]
def Fg4 : List LF := [(-1,[(0,1)]), (-1,[(1,1)]), (-1,[(2,1)]), (-1,[(0,-1),(1,1)]), (-1,[(0,-1),(1,1),(2,-1)])]
def Fg5 : List LF := [(-1,[(0,1)]), (0,[(1,1)]), (0,[(1,-1)]), (-1,[(2,1)]), (-1,[(0,1),(1,-1)]), (-1,[(0,1),(1,-1),(2,1)])]
def Fg6 : List LF := [(-1,[(0,1)]), (0,[(1,1)]), (0,[(1,-1)]), (0,[(2,1)]), (0,[(2,-1)]), (-1,[(0,1),(1,-1)]), (-1,[(0,1),(1,-1),(2,1)])]
def Fg7 : List LF := [(0,[(0,1)]), (0,[(0,-1)]), (0,[(1,1)]), (0,[(1,-1)]), (-1,[(2,1)]), (0,[(0,1),(1,-1)]), (0,[(0,-1),(1,1)]), (-1,[(0,1),(1,-1),(2,1)]), (-1,[(1,-1),(2,1)])]
def Fg8 : List LF := [(0,[(0,1)]), (0,[(0,-1)]), (0,[(1,1)]), (0,[(1,-1)]), (0,[(2,1)]), (0,[(2,-1)]), (0,[(0,1),(1,-1)]), (0,[(0,-1),(1,1)]), (0,[(0,1),(1,-1),(2,1)]), (0,[(0,-1),(1,1),(2,-1)])]
def Fg9 : List LF := [(-1,[(0,1)]), (-1,[(1,1)]), (0,[(2,1)]), (0,[(2,-1)]), (-1,[(0,1),(1,-1)]), (-1,[(0,1),(1,-1),(2,1)])]
def Fg10 : List LF := [(-1,[(0,1)]), (-1,[(1,1)]), (0,[(2,1)]), (0,[(2,-1)]), (0,[(0,1),(1,-1)]), (0,[(0,-1),(1,1)]), (0,[(0,1),(1,-1),(2,1)]), (0,[(0,-1),(1,1),(2,-1)])]
def Fg11 : List LF := [(-1,[(0,1)]), (-1,[(1,1)]), (0,[(2,1)]), (0,[(2,-1)]), (-1,[(0,-1),(1,1)]), (-1,[(0,-1),(1,1),(2,-1)])]
def Fg12 : List LF := [(0,[(0,1)]), (0,[(0,-1)]), (-1,[(1,1)]), (0,[(2,1)]), (0,[(2,-1)]), (-1,[(0,-1),(1,1)]), (-1,[(0,-1),(1,1),(2,-1)])]
def Fg13 : List LF := [(0,[(0,1)]), (0,[(0,-1)]), (-1,[(1,1)]), (-1,[(2,1)]), (-1,[(0,-1),(1,1)]), (-1,[(0,1),(1,-1),(2,1)]), (-1,[(1,-1),(2,1)])]
def Fg14 : List LF := [(0,[(0,1)]), (0,[(0,-1)]), (-1,[(1,1)]), (-1,[(2,1)]), (-1,[(0,-1),(1,1)]), (0,[(0,1),(1,-1),(2,1)]), (0,[(0,-1),(1,1),(2,-1)]), (0,[(1,-1),(2,1)]), (0,[(1,1),(2,-1)])]
def Fg15 : List LF := [(0,[(0,1)]), (0,[(0,-1)]), (-1,[(1,1)]), (-1,[(2,1)]), (-1,[(0,-1),(1,1)]), (-1,[(0,-1),(1,1),(2,-1)]), (-1,[(1,1),(2,-1)])]
end Go.Proofs.YtjpkfdmjhgnmbaaGreat
