/- complinelaw25.OptRing: within its bounds. -/
import Derived.Test.YtjkphnlolfnaeaaGreatOr2R0
import Derived.Test.YtjkphnlolfnaeaaGreatOr2R1
import Derived.Test.YtjkphnlolfnaeaaGreatOr2R2
import Derived.Test.YtjkphnlolfnaeaaGreatOr2R3
import Derived.Test.YtjkphnlolfnaeaaGreatOr2R4
import Derived.Test.YtjkphnlolfnaeaaGreatOr2R5
import Derived.Test.YtjkphnlolfnaeaaGreatOr2R6
import Derived.Test.YtjkphnlolfnaeaaGreatOr2R7
import Derived.Test.YtjkphnlolfnaeaaGreatOr2R8
import Derived.Test.YtjkphnlolfnaeaaGreatOr2R9
namespace Go.Proofs.YtjkphnlolfnaeaaGreat
open Go Go.RowKit Gv Gv.Lt
set_option maxRecDepth 100000 in
theorem or2_in (qty amount : Int) (w : World) (hnl : nlOk (mkGh [] [qty, amount] rfl) []) (hT : HooksOk Tryz.prog (mkGh [] [qty, amount] rfl) (hkT orT)) (hI : bdOk (mkGh [] [qty, amount] rfl).σ or2I 0) : geOk (mkGh [] [qty, amount] rfl).σ [] → Calls Tryz.prog 3 #[.int .i64 (2), .int .i64 qty, .int .i64 amount] w (TrueBelow w) := by
  have hm : ¬ ((mkGh [] [qty, amount] rfl)).mono := fun h => h
  have hl : concL (mkGh [] [qty, amount] rfl) (fun _ => none) or2Args = some [.int .i64 (2), .int .i64 qty, .int .i64 amount] := by simp [or2Args, concL, conc, den, mkGh]
  exact (split_at (-1,[(1,1)]) (fun hg => or2u0 ⟨hI, hg, hnl⟩ hm hT hl w) (fun hg => or2u1 ⟨hI, hg, hnl⟩ hm hT hl w))
end Go.Proofs.YtjkphnlolfnaeaaGreat
