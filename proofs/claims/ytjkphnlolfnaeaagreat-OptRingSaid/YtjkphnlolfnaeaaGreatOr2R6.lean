/- complinelaw25.OptRing: runs, part 6. -/
import Derived.Test.YtjkphnlolfnaeaaGreatOr2Q
namespace Go.Proofs.YtjkphnlolfnaeaaGreat
open Go Go.RowKit Gv Gv.Lt
theorem or2r7 : isSn or2P7 (callN (or2E [] or2I [(0,[(1,-1)])]) 100 9 or2P7.args or2P7.h0) = true := by kernel_rfl
set_option maxRecDepth 100000 in
theorem or2s7 {G : Gh} (F : Facts G or2I [(0,[(1,-1)])] []) (hm : ¬ G.mono) (hT : HooksOk Tryz.prog G (hkT orT)) : SNOk Tryz.prog G or2P7 := snap_ok progOk F (or2H F hm hT or2N) 100 or2P7 Tryz.func9 rfl or2r7
theorem or2r8 : isSn or2P8 (callN (or2E [] or2I [(0,[(1,-1)])]) 100 9 or2P8.args or2P8.h0) = true := by kernel_rfl
set_option maxRecDepth 100000 in
theorem or2s8 {G : Gh} (F : Facts G or2I [(0,[(1,-1)])] []) (hm : ¬ G.mono) (hT : HooksOk Tryz.prog G (hkT orT)) : SNOk Tryz.prog G or2P8 := snap_ok progOk F (or2H F hm hT or2N) 100 or2P8 Tryz.func9 rfl or2r8
theorem or2r10 : isSn or2P10 (callN (or2E [] or2I [(0,[(1,-1)])]) 100 10 or2P10.args or2P10.h0) = true := by kernel_rfl
set_option maxRecDepth 100000 in
theorem or2s10 {G : Gh} (F : Facts G or2I [(0,[(1,-1)])] []) (hm : ¬ G.mono) (hT : HooksOk Tryz.prog G (hkT orT)) : SNOk Tryz.prog G or2P10 := snap_ok progOk F (or2H F hm hT or2N) 100 or2P10 Tryz.func10 rfl or2r10
end Go.Proofs.YtjkphnlolfnaeaaGreat
