/- EodNone: what the row's closed cells say of the program, limb by limb. -/
import Derived.Test.YtmeifmkmlbbdgaaGreatRows
import Derived.WalkKit
import Derived.ProofKit
import Derived.OpenShut
namespace Go.Proofs.YtmeifmkmlbbdgaaGreat.eodNone
open Go.ChangeShapes Go.WideShapes Go.ChangeAt Go.RowKit
set_option maxHeartbeats 20000000 in
theorem closed : joinedFacts Tryz.pinned.checked.prog 3 Tryz.f3 Rows.eodNoneSpec Rows.eodNoneRow = true := by
  unfold joinedFacts
  simp only [Bool.and_eq_true]
  repeat' apply And.intro
  all_goals as_aux_lemma => kernel_rfl
end Go.Proofs.YtmeifmkmlbbdgaaGreat.eodNone
