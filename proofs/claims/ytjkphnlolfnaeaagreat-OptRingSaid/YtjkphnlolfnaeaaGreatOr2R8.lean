/- complinelaw25.OptRing: runs, part 8. -/
import Derived.Test.YtjkphnlolfnaeaaGreatOr2Q
namespace Go.Proofs.YtjkphnlolfnaeaaGreat
open Go Go.RowKit Gv Gv.Lt
theorem or2r16 : isSn or2P16 (callN (or2E [] or2I [(0,[(1,-1)])]) 100 12 or2P16.args or2P16.h0) = true := by kernel_rfl
set_option maxRecDepth 100000 in
theorem or2s16 {G : Gh} (F : Facts G or2I [(0,[(1,-1)])] []) (hm : ¬ G.mono) (hT : HooksOk Tryz.prog G (hkT orT)) : SNOk Tryz.prog G or2P16 := snap_ok progOk F (or2H F hm hT or2N) 100 or2P16 Tryz.func12 rfl or2r16
theorem or2r18 : isSn or2P18 (callN (or2E [] or2I [(0,[(1,-1)])]) 100 12 or2P18.args or2P18.h0) = true := by kernel_rfl
set_option maxRecDepth 100000 in
theorem or2s18 {G : Gh} (F : Facts G or2I [(0,[(1,-1)])] []) (hm : ¬ G.mono) (hT : HooksOk Tryz.prog G (hkT orT)) : SNOk Tryz.prog G or2P18 := snap_ok progOk F (or2H F hm hT or2N) 100 or2P18 Tryz.func12 rfl or2r18
end Go.Proofs.YtjkphnlolfnaeaaGreat
