/- HallStocks: runs within its bounds, part B. -/
import Derived.Test.YtjpkfdmjhgnmbaaGreatHsBase
namespace Go.Proofs.YtjpkfdmjhgnmbaaGreat
open Go.RowKit Gv
theorem g9_false : HRun bdI Fg9 false := by unfold HRun; kernel_rfl
theorem g10_false : HRun bdI Fg10 false := by unfold HRun; kernel_rfl
theorem g11_false : HRun bdI Fg11 false := by unfold HRun; kernel_rfl
theorem g12_false : HRun bdI Fg12 false := by unfold HRun; kernel_rfl
theorem g13_false : HRun bdI Fg13 false := by unfold HRun; kernel_rfl
theorem g14_false : HRun bdI Fg14 false := by unfold HRun; kernel_rfl
theorem g15_false : HRun bdI Fg15 false := by unfold HRun; kernel_rfl
end Go.Proofs.YtjpkfdmjhgnmbaaGreat
