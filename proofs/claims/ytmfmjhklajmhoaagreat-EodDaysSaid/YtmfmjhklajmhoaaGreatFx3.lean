/- The program's cells, part 3: the other half of the types, and that all is laid out. -/
import Derived.Test.YtmfmjhklajmhoaaGreatFx2
namespace Go.Proofs.YtmfmjhklajmhoaaGreat.cells
open Go Go.ChangeShapes Go.WideShapes Go.ChangeAt Go.RowKit
theorem lo2 : (List.range' 337 337).all (rowFine Tryz.pinned.checked.prog) = true := by kernel_rfl
theorem lo3 : Tryz.pinned.checked.prog.globals.all (fun g => decide (g.type < Tryz.pinned.checked.prog.types.size)) = true := by kernel_rfl
theorem lo4 : (Tryz.pinned.checked.prog.funcs.all (fun f => f.params.all fun t => decide (t < Tryz.pinned.checked.prog.types.size))) = true := by kernel_rfl
theorem size : Tryz.pinned.checked.prog.types.size = 674 := by kernel_rfl
theorem laid : laidOutB Tryz.pinned.checked.prog = true := by
  unfold laidOutB
  rw [lo3, lo4, size, show List.range 674 = List.range 337 ++ List.range' 337 337 from by kernel_rfl, List.all_append, lo1, lo2]
  rfl
end Go.Proofs.YtmfmjhklajmhoaaGreat.cells
