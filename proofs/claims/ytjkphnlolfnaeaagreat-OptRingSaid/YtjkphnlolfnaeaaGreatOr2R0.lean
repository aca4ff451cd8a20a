/- complinelaw25.OptRing: runs, part 0. -/
import Derived.Test.YtjkphnlolfnaeaaGreatOr2Q
namespace Go.Proofs.YtjkphnlolfnaeaaGreat
open Go Go.RowKit Gv Gv.Lt
theorem or2r0 : isSn or2P0 (callN (or2E [] or2I []) 100 5 or2P0.args or2P0.h0) = true := by kernel_rfl
set_option maxRecDepth 100000 in
theorem or2s0 {G : Gh} (F : Facts G or2I [] []) (hm : ¬ G.mono) (hT : HooksOk Tryz.prog G (hkT orT)) : SNOk Tryz.prog G or2P0 := snap_ok progOk F (or2H F hm hT or2N) 100 or2P0 Tryz.func5 rfl or2r0
theorem or2r1 : isSn or2P1 (callN (or2E [] or2I []) 100 7 or2P1.args or2P1.h0) = true := by kernel_rfl
set_option maxRecDepth 100000 in
theorem or2s1 {G : Gh} (F : Facts G or2I [] []) (hm : ¬ G.mono) (hT : HooksOk Tryz.prog G (hkT orT)) : SNOk Tryz.prog G or2P1 := snap_ok progOk F (or2H F hm hT or2N) 100 or2P1 Tryz.func7 rfl or2r1
theorem or2r2 : isSn or2P2 (callN (or2E [] or2I []) 100 6 or2P2.args or2P2.h0) = true := by kernel_rfl
set_option maxRecDepth 100000 in
theorem or2s2 {G : Gh} (F : Facts G or2I [] []) (hm : ¬ G.mono) (hT : HooksOk Tryz.prog G (hkT orT)) : SNOk Tryz.prog G or2P2 := snap_ok progOk F (or2H F hm hT or2N) 100 or2P2 Tryz.func6 rfl or2r2
theorem or2r3 : isSn or2P3 (callN (or2E [] or2I []) 100 7 or2P3.args or2P3.h0) = true := by kernel_rfl
set_option maxRecDepth 100000 in
theorem or2s3 {G : Gh} (F : Facts G or2I [] []) (hm : ¬ G.mono) (hT : HooksOk Tryz.prog G (hkT orT)) : SNOk Tryz.prog G or2P3 := snap_ok progOk F (or2H F hm hT or2N) 100 or2P3 Tryz.func7 rfl or2r3
theorem or2r4 : isSn or2P4 (callN (or2E [] or2I []) 100 6 or2P4.args or2P4.h0) = true := by kernel_rfl
set_option maxRecDepth 100000 in
theorem or2s4 {G : Gh} (F : Facts G or2I [] []) (hm : ¬ G.mono) (hT : HooksOk Tryz.prog G (hkT orT)) : SNOk Tryz.prog G or2P4 := snap_ok progOk F (or2H F hm hT or2N) 100 or2P4 Tryz.func6 rfl or2r4
theorem or2r5 : isSn or2P5 (callN (or2E [] or2I []) 100 8 or2P5.args or2P5.h0) = true := by kernel_rfl
set_option maxRecDepth 100000 in
theorem or2s5 {G : Gh} (F : Facts G or2I [] []) (hm : ¬ G.mono) (hT : HooksOk Tryz.prog G (hkT orT)) : SNOk Tryz.prog G or2P5 := snap_ok progOk F (or2H F hm hT or2N) 100 or2P5 Tryz.func8 rfl or2r5
end Go.Proofs.YtjkphnlolfnaeaaGreat
