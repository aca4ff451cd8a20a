/- HallStocks: runs within its bounds, part A. -/
import Derived.Test.YtjpkfdmjhgnmbaaGreatHsBase
namespace Go.Proofs.YtjpkfdmjhgnmbaaGreat
open Go.RowKit Gv
theorem g1_false : HRun bdI Fg1 false := by unfold HRun; kernel_rfl
theorem g2_false : HRun bdI Fg2 false := by unfold HRun; kernel_rfl
theorem g3_false : HRun bdI Fg3 false := by unfold HRun; kernel_rfl
theorem g4_false : HRun bdI Fg4 false := by unfold HRun; kernel_rfl
theorem g5_false : HRun bdI Fg5 false := by unfold HRun; kernel_rfl
theorem g6_false : HRun bdI Fg6 false := by unfold HRun; kernel_rfl
theorem g7_false : HRun bdI Fg7 false := by unfold HRun; kernel_rfl
theorem g8_false : HRun bdI Fg8 false := by unfold HRun; kernel_rfl
end Go.Proofs.YtjpkfdmjhgnmbaaGreat
