/- HallStocks: runs within its bounds, part D. -/
import Derived.Test.YtjpkfdmjhgnmbaaGreatHsBase
namespace Go.Proofs.YtjpkfdmjhgnmbaaGreat
open Go.RowKit Gv
theorem g9_true : HRun bdI Fg9 true := by unfold HRun; kernel_rfl
theorem g10_true : HRun bdI Fg10 true := by unfold HRun; kernel_rfl
theorem g11_true : HRun bdI Fg11 true := by unfold HRun; kernel_rfl
theorem g12_true : HRun bdI Fg12 true := by unfold HRun; kernel_rfl
theorem g13_true : HRun bdI Fg13 true := by unfold HRun; kernel_rfl
theorem g14_true : HRun bdI Fg14 true := by unfold HRun; kernel_rfl
theorem g15_true : HRun bdI Fg15 true := by unfold HRun; kernel_rfl
end Go.Proofs.YtjpkfdmjhgnmbaaGreat
