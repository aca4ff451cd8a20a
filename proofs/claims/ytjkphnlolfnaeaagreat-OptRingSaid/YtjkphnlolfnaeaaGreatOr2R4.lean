/- complinelaw25.OptRing: runs, part 4. -/
import Derived.Test.YtjkphnlolfnaeaaGreatOr2Q
namespace Go.Proofs.YtjkphnlolfnaeaaGreat
open Go Go.RowKit Gv Gv.Lt
theorem or2r19 : isSn or2P19 (callN (or2E [] or2I [(-1,[(1,1)])]) 100 12 or2P19.args or2P19.h0) = true := by kernel_rfl
set_option maxRecDepth 100000 in
theorem or2s19 {G : Gh} (F : Facts G or2I [(-1,[(1,1)])] []) (hm : ¬ G.mono) (hT : HooksOk Tryz.prog G (hkT orT)) : SNOk Tryz.prog G or2P19 := snap_ok progOk F (or2H F hm hT or2N) 100 or2P19 Tryz.func12 rfl or2r19
end Go.Proofs.YtjkphnlolfnaeaaGreat
