/- The program's cells, part 0: what it may enter. -/
import Derived.Test.YtmfmjhklajmhoaaGreatRows
import Derived.WalkKit
import Derived.ProofKit
import Derived.OpenShut
namespace Go.Proofs.YtmfmjhklajmhoaaGreat.cells
open Go Go.ChangeShapes Go.WideShapes Go.ChangeAt Go.RowKit
theorem mayEnter : Tryz.pinned.checked.prog.mayEnter = true := by kernel_rfl
end Go.Proofs.YtmfmjhklajmhoaaGreat.cells
