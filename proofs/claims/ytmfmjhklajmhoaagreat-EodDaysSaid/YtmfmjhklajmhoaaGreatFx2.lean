/- The program's cells, part 2: the first half of the types. -/
import Derived.Test.YtmfmjhklajmhoaaGreatRows
import Derived.WalkKit
import Derived.ProofKit
import Derived.OpenShut
namespace Go.Proofs.YtmfmjhklajmhoaaGreat.cells
open Go Go.ChangeShapes Go.WideShapes Go.ChangeAt Go.RowKit
theorem lo1 : (List.range 337).all (rowFine Tryz.pinned.checked.prog) = true := by kernel_rfl
end Go.Proofs.YtmfmjhklajmhoaaGreat.cells
