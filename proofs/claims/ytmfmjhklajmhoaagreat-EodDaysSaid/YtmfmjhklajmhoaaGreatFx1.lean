/- The program's cells, part 1: the maps' types. -/
import Derived.Test.YtmfmjhklajmhoaaGreatRows
import Derived.WalkKit
import Derived.ProofKit
import Derived.OpenShut
namespace Go.Proofs.YtmfmjhklajmhoaaGreat.cells
open Go Go.ChangeShapes Go.WideShapes Go.ChangeAt Go.RowKit
theorem maps : mapsRowed Tryz.pinned.checked.prog = true := by kernel_rfl
end Go.Proofs.YtmfmjhklajmhoaaGreat.cells
