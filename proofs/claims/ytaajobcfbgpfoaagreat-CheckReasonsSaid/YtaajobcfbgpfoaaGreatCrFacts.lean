/- CheckReasons: what the row's closed cells say of the program, limb by limb. -/
import Derived.Test.YtaajobcfbgpfoaaGreatRows
import Derived.WalkKit
import Derived.ProofKit
import Derived.OpenShut
namespace Go.Proofs.YtaajobcfbgpfoaaGreat.checkReasons
open Go.ChangeShapes Go.WideShapes Go.ChangeAt Go.RowKit
set_option maxHeartbeats 20000000 in
theorem closed : joinedFacts Tryz.pinned.checked.prog 4 Tryz.f4 Rows.checkReasonsSpec Rows.checkReasonsRow = true := by
  unfold joinedFacts
  simp only [Bool.and_eq_true]
  repeat' apply And.intro
  all_goals as_aux_lemma => kernel_rfl
end Go.Proofs.YtaajobcfbgpfoaaGreat.checkReasons
