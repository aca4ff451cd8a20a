/- complinelaw25.OptRing: within its bounds. -/
import Derived.Test.YtjkphnlolfnaeaaGreatOr3R0
import Derived.Test.YtjkphnlolfnaeaaGreatOr3R1
import Derived.Test.YtjkphnlolfnaeaaGreatOr3R2
import Derived.Test.YtjkphnlolfnaeaaGreatOr3R3
import Derived.Test.YtjkphnlolfnaeaaGreatOr3R4
import Derived.Test.YtjkphnlolfnaeaaGreatOr3R5
namespace Go.Proofs.YtjkphnlolfnaeaaGreat
open Go Go.RowKit Gv Gv.Lt
set_option maxRecDepth 100000 in
theorem or3_in (qty amount : Int) (w : World) (hnl : nlOk (mkGh [] [qty, amount] rfl) []) (hT : HooksOk Tryz.prog (mkGh [] [qty, amount] rfl) (hkT orT)) (hI : bdOk (mkGh [] [qty, amount] rfl).σ or3I 0) : geOk (mkGh [] [qty, amount] rfl).σ [] → Calls Tryz.prog 3 #[.int .i64 (3), .int .i64 qty, .int .i64 amount] w (TrueBelow w) := by
  have hm : ¬ ((mkGh [] [qty, amount] rfl)).mono := fun h => h
  have hl : concL (mkGh [] [qty, amount] rfl) (fun _ => none) or3Args = some [.int .i64 (3), .int .i64 qty, .int .i64 amount] := by simp [or3Args, concL, conc, den, mkGh]
  exact (split_at (-1,[(1,1)]) (fun hg => or3u0 ⟨hI, hg, hnl⟩ hm hT hl w) (fun hg => or3u1 ⟨hI, hg, hnl⟩ hm hT hl w))
end Go.Proofs.YtjkphnlolfnaeaaGreat
