/- complinelaw25.OptRing: runs, part 1. -/
import Derived.Test.YtjkphnlolfnaeaaGreatOr3Q
namespace Go.Proofs.YtjkphnlolfnaeaaGreat
open Go Go.RowKit Gv Gv.Lt
theorem or3r7 : isSn or3P7 (callN (or3E [] or3I []) 100 8 or3P7.args or3P7.h0) = true := by kernel_rfl
set_option maxRecDepth 100000 in
theorem or3s7 {G : Gh} (F : Facts G or3I [] []) (hm : ¬ G.mono) (hT : HooksOk Tryz.prog G (hkT orT)) : SNOk Tryz.prog G or3P7 := snap_ok progOk F (or3H F hm hT or3N) 100 or3P7 Tryz.func8 rfl or3r7
theorem or3r8 : isSn or3P8 (callN (or3E [] or3I [(-1,[(1,1)])]) 100 9 or3P8.args or3P8.h0) = true := by kernel_rfl
set_option maxRecDepth 100000 in
theorem or3s8 {G : Gh} (F : Facts G or3I [(-1,[(1,1)])] []) (hm : ¬ G.mono) (hT : HooksOk Tryz.prog G (hkT orT)) : SNOk Tryz.prog G or3P8 := snap_ok progOk F (or3H F hm hT or3N) 100 or3P8 Tryz.func9 rfl or3r8
theorem or3r11 : isSn or3P11 (callN (or3E [] or3I [(-1,[(1,1)])]) 100 9 or3P11.args or3P11.h0) = true := by kernel_rfl
set_option maxRecDepth 100000 in
theorem or3s11 {G : Gh} (F : Facts G or3I [(-1,[(1,1)])] []) (hm : ¬ G.mono) (hT : HooksOk Tryz.prog G (hkT orT)) : SNOk Tryz.prog G or3P11 := snap_ok progOk F (or3H F hm hT or3N) 100 or3P11 Tryz.func9 rfl or3r11
end Go.Proofs.YtjkphnlolfnaeaaGreat
