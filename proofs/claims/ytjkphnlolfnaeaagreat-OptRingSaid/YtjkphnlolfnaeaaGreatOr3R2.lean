/- complinelaw25.OptRing: runs, part 2. -/
import Derived.Test.YtjkphnlolfnaeaaGreatOr3Q
namespace Go.Proofs.YtjkphnlolfnaeaaGreat
open Go Go.RowKit Gv Gv.Lt
theorem or3r13 : isSn or3P13 (callN (or3E [] or3I [(-1,[(1,1)])]) 100 9 or3P13.args or3P13.h0) = true := by kernel_rfl
set_option maxRecDepth 100000 in
theorem or3s13 {G : Gh} (F : Facts G or3I [(-1,[(1,1)])] []) (hm : ¬ G.mono) (hT : HooksOk Tryz.prog G (hkT orT)) : SNOk Tryz.prog G or3P13 := snap_ok progOk F (or3H F hm hT or3N) 100 or3P13 Tryz.func9 rfl or3r13
theorem or3r15 : isSn or3P15 (callN (or3E [] or3I [(-1,[(1,1)])]) 100 10 or3P15.args or3P15.h0) = true := by kernel_rfl
set_option maxRecDepth 100000 in
theorem or3s15 {G : Gh} (F : Facts G or3I [(-1,[(1,1)])] []) (hm : ¬ G.mono) (hT : HooksOk Tryz.prog G (hkT orT)) : SNOk Tryz.prog G or3P15 := snap_ok progOk F (or3H F hm hT or3N) 100 or3P15 Tryz.func10 rfl or3r15
end Go.Proofs.YtjkphnlolfnaeaaGreat
