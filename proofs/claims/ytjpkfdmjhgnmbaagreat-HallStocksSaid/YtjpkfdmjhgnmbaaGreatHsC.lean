/- HallStocks: runs within its bounds, part C. -/
import Derived.Test.YtjpkfdmjhgnmbaaGreatHsBase
namespace Go.Proofs.YtjpkfdmjhgnmbaaGreat
open Go.RowKit Gv
theorem g1_true : HRun bdI Fg1 true := by unfold HRun; kernel_rfl
theorem g2_true : HRun bdI Fg2 true := by unfold HRun; kernel_rfl
theorem g3_true : HRun bdI Fg3 true := by unfold HRun; kernel_rfl
theorem g4_true : HRun bdI Fg4 true := by unfold HRun; kernel_rfl
theorem g5_true : HRun bdI Fg5 true := by unfold HRun; kernel_rfl
theorem g6_true : HRun bdI Fg6 true := by unfold HRun; kernel_rfl
theorem g7_true : HRun bdI Fg7 true := by unfold HRun; kernel_rfl
theorem g8_true : HRun bdI Fg8 true := by unfold HRun; kernel_rfl
end Go.Proofs.YtjpkfdmjhgnmbaaGreat
