/- complinelaw25.OptRing: runs, part 1. -/
import Derived.Test.YtjkphnlolfnaeaaGreatOr2Q
namespace Go.Proofs.YtjkphnlolfnaeaaGreat
open Go Go.RowKit Gv Gv.Lt
theorem or2r6 : isSn or2P6 (callN (or2E [] or2I [(-1,[(1,1)])]) 100 9 or2P6.args or2P6.h0) = true := by kernel_rfl
set_option maxRecDepth 100000 in
theorem or2s6 {G : Gh} (F : Facts G or2I [(-1,[(1,1)])] []) (hm : ¬ G.mono) (hT : HooksOk Tryz.prog G (hkT orT)) : SNOk Tryz.prog G or2P6 := snap_ok progOk F (or2H F hm hT or2N) 100 or2P6 Tryz.func9 rfl or2r6
theorem or2r9 : isSn or2P9 (callN (or2E [] or2I [(-1,[(1,1)])]) 100 9 or2P9.args or2P9.h0) = true := by kernel_rfl
set_option maxRecDepth 100000 in
theorem or2s9 {G : Gh} (F : Facts G or2I [(-1,[(1,1)])] []) (hm : ¬ G.mono) (hT : HooksOk Tryz.prog G (hkT orT)) : SNOk Tryz.prog G or2P9 := snap_ok progOk F (or2H F hm hT or2N) 100 or2P9 Tryz.func9 rfl or2r9
theorem or2r11 : isSn or2P11 (callN (or2E [] or2I [(-1,[(1,1)])]) 100 10 or2P11.args or2P11.h0) = true := by kernel_rfl
set_option maxRecDepth 100000 in
theorem or2s11 {G : Gh} (F : Facts G or2I [(-1,[(1,1)])] []) (hm : ¬ G.mono) (hT : HooksOk Tryz.prog G (hkT orT)) : SNOk Tryz.prog G or2P11 := snap_ok progOk F (or2H F hm hT or2N) 100 or2P11 Tryz.func10 rfl or2r11
end Go.Proofs.YtjkphnlolfnaeaaGreat
