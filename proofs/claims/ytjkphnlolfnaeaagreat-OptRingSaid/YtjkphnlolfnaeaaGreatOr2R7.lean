/- complinelaw25.OptRing: runs, part 7. -/
import Derived.Test.YtjkphnlolfnaeaaGreatOr2Q
namespace Go.Proofs.YtjkphnlolfnaeaaGreat
open Go Go.RowKit Gv Gv.Lt
theorem or2r12 : isSn or2P12 (callN (or2E [] or2I [(0,[(1,-1)])]) 100 11 or2P12.args or2P12.h0) = true := by kernel_rfl
set_option maxRecDepth 100000 in
theorem or2s12 {G : Gh} (F : Facts G or2I [(0,[(1,-1)])] []) (hm : ¬ G.mono) (hT : HooksOk Tryz.prog G (hkT orT)) : SNOk Tryz.prog G or2P12 := snap_ok progOk F (or2H F hm hT or2N) 100 or2P12 Tryz.func11 rfl or2r12
theorem or2r14 : isSn or2P14 (callN (or2E [] or2I [(0,[(1,-1)])]) 100 12 or2P14.args or2P14.h0) = true := by kernel_rfl
set_option maxRecDepth 100000 in
theorem or2s14 {G : Gh} (F : Facts G or2I [(0,[(1,-1)])] []) (hm : ¬ G.mono) (hT : HooksOk Tryz.prog G (hkT orT)) : SNOk Tryz.prog G or2P14 := snap_ok progOk F (or2H F hm hT or2N) 100 or2P14 Tryz.func12 rfl or2r14
end Go.Proofs.YtjkphnlolfnaeaaGreat
