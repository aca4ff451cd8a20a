/- complinelaw25.OptRing: runs, part 2. -/
import Derived.Test.YtjkphnlolfnaeaaGreatOr2Q
namespace Go.Proofs.YtjkphnlolfnaeaaGreat
open Go Go.RowKit Gv Gv.Lt
theorem or2r13 : isSn or2P13 (callN (or2E [] or2I [(-1,[(1,1)])]) 100 11 or2P13.args or2P13.h0) = true := by kernel_rfl
set_option maxRecDepth 100000 in
theorem or2s13 {G : Gh} (F : Facts G or2I [(-1,[(1,1)])] []) (hm : ¬ G.mono) (hT : HooksOk Tryz.prog G (hkT orT)) : SNOk Tryz.prog G or2P13 := snap_ok progOk F (or2H F hm hT or2N) 100 or2P13 Tryz.func11 rfl or2r13
theorem or2r15 : isSn or2P15 (callN (or2E [] or2I [(-1,[(1,1)])]) 100 12 or2P15.args or2P15.h0) = true := by kernel_rfl
set_option maxRecDepth 100000 in
theorem or2s15 {G : Gh} (F : Facts G or2I [(-1,[(1,1)])] []) (hm : ¬ G.mono) (hT : HooksOk Tryz.prog G (hkT orT)) : SNOk Tryz.prog G or2P15 := snap_ok progOk F (or2H F hm hT or2N) 100 or2P15 Tryz.func12 rfl or2r15
end Go.Proofs.YtjkphnlolfnaeaaGreat
