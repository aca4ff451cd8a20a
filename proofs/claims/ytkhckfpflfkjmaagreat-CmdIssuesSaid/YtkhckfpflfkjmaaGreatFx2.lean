/- The program's cells, part 2: the first half of the types. -/
import Derived.Test.YtkhckfpflfkjmaaGreatRows
import Derived.WalkKit
import Derived.ProofKit
import Derived.OpenShut
namespace Go.Proofs.YtkhckfpflfkjmaaGreat.cells
open Go Go.ChangeShapes Go.WideShapes Go.ChangeAt Go.RowKit
theorem lo1 : (List.range 350).all (rowFine Tryz.pinned.checked.prog) = true := by kernel_rfl
end Go.Proofs.YtkhckfpflfkjmaaGreat.cells
