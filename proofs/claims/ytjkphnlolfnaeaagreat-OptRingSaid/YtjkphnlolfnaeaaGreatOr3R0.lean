/- complinelaw25.OptRing: runs, part 0. -/
import Derived.Test.YtjkphnlolfnaeaaGreatOr3Q
namespace Go.Proofs.YtjkphnlolfnaeaaGreat
open Go Go.RowKit Gv Gv.Lt
theorem or3r0 : isSn or3P0 (callN (or3E [] or3I []) 100 5 or3P0.args or3P0.h0) = true := by kernel_rfl
set_option maxRecDepth 100000 in
theorem or3s0 {G : Gh} (F : Facts G or3I [] []) (hm : ¬ G.mono) (hT : HooksOk Tryz.prog G (hkT orT)) : SNOk Tryz.prog G or3P0 := snap_ok progOk F (or3H F hm hT or3N) 100 or3P0 Tryz.func5 rfl or3r0
theorem or3r1 : isSn or3P1 (callN (or3E [] or3I []) 100 7 or3P1.args or3P1.h0) = true := by kernel_rfl
set_option maxRecDepth 100000 in
theorem or3s1 {G : Gh} (F : Facts G or3I [] []) (hm : ¬ G.mono) (hT : HooksOk Tryz.prog G (hkT orT)) : SNOk Tryz.prog G or3P1 := snap_ok progOk F (or3H F hm hT or3N) 100 or3P1 Tryz.func7 rfl or3r1
theorem or3r2 : isSn or3P2 (callN (or3E [] or3I []) 100 6 or3P2.args or3P2.h0) = true := by kernel_rfl
set_option maxRecDepth 100000 in
theorem or3s2 {G : Gh} (F : Facts G or3I [] []) (hm : ¬ G.mono) (hT : HooksOk Tryz.prog G (hkT orT)) : SNOk Tryz.prog G or3P2 := snap_ok progOk F (or3H F hm hT or3N) 100 or3P2 Tryz.func6 rfl or3r2
theorem or3r3 : isSn or3P3 (callN (or3E [] or3I []) 100 7 or3P3.args or3P3.h0) = true := by kernel_rfl
set_option maxRecDepth 100000 in
theorem or3s3 {G : Gh} (F : Facts G or3I [] []) (hm : ¬ G.mono) (hT : HooksOk Tryz.prog G (hkT orT)) : SNOk Tryz.prog G or3P3 := snap_ok progOk F (or3H F hm hT or3N) 100 or3P3 Tryz.func7 rfl or3r3
theorem or3r4 : isSn or3P4 (callN (or3E [] or3I []) 100 6 or3P4.args or3P4.h0) = true := by kernel_rfl
set_option maxRecDepth 100000 in
theorem or3s4 {G : Gh} (F : Facts G or3I [] []) (hm : ¬ G.mono) (hT : HooksOk Tryz.prog G (hkT orT)) : SNOk Tryz.prog G or3P4 := snap_ok progOk F (or3H F hm hT or3N) 100 or3P4 Tryz.func6 rfl or3r4
theorem or3r5 : isSn or3P5 (callN (or3E [] or3I []) 100 7 or3P5.args or3P5.h0) = true := by kernel_rfl
set_option maxRecDepth 100000 in
theorem or3s5 {G : Gh} (F : Facts G or3I [] []) (hm : ¬ G.mono) (hT : HooksOk Tryz.prog G (hkT orT)) : SNOk Tryz.prog G or3P5 := snap_ok progOk F (or3H F hm hT or3N) 100 or3P5 Tryz.func7 rfl or3r5
theorem or3r6 : isSn or3P6 (callN (or3E [] or3I []) 100 6 or3P6.args or3P6.h0) = true := by kernel_rfl
set_option maxRecDepth 100000 in
theorem or3s6 {G : Gh} (F : Facts G or3I [] []) (hm : ¬ G.mono) (hT : HooksOk Tryz.prog G (hkT orT)) : SNOk Tryz.prog G or3P6 := snap_ok progOk F (or3H F hm hT or3N) 100 or3P6 Tryz.func6 rfl or3r6
end Go.Proofs.YtjkphnlolfnaeaaGreat
