/- complinelaw25.OptRing: runs, part 4. -/
import Derived.Test.YtjkphnlolfnaeaaGreatOr3Q
namespace Go.Proofs.YtjkphnlolfnaeaaGreat
open Go Go.RowKit Gv Gv.Lt
theorem or3r10 : isSn or3P10 (callN (or3E [] or3I [(0,[(1,-1)])]) 100 9 or3P10.args or3P10.h0) = true := by kernel_rfl
set_option maxRecDepth 100000 in
theorem or3s10 {G : Gh} (F : Facts G or3I [(0,[(1,-1)])] []) (hm : ¬ G.mono) (hT : HooksOk Tryz.prog G (hkT orT)) : SNOk Tryz.prog G or3P10 := snap_ok progOk F (or3H F hm hT or3N) 100 or3P10 Tryz.func9 rfl or3r10
theorem or3r12 : isSn or3P12 (callN (or3E [] or3I [(0,[(1,-1)])]) 100 9 or3P12.args or3P12.h0) = true := by kernel_rfl
set_option maxRecDepth 100000 in
theorem or3s12 {G : Gh} (F : Facts G or3I [(0,[(1,-1)])] []) (hm : ¬ G.mono) (hT : HooksOk Tryz.prog G (hkT orT)) : SNOk Tryz.prog G or3P12 := snap_ok progOk F (or3H F hm hT or3N) 100 or3P12 Tryz.func9 rfl or3r12
theorem or3r14 : isSn or3P14 (callN (or3E [] or3I [(0,[(1,-1)])]) 100 10 or3P14.args or3P14.h0) = true := by kernel_rfl
set_option maxRecDepth 100000 in
theorem or3s14 {G : Gh} (F : Facts G or3I [(0,[(1,-1)])] []) (hm : ¬ G.mono) (hT : HooksOk Tryz.prog G (hkT orT)) : SNOk Tryz.prog G or3P14 := snap_ok progOk F (or3H F hm hT or3N) 100 or3P14 Tryz.func10 rfl or3r14
theorem or3r16 : isSn or3P16 (callN (or3E [] or3I [(0,[(1,-1)])]) 100 11 or3P16.args or3P16.h0) = true := by kernel_rfl
set_option maxRecDepth 100000 in
theorem or3s16 {G : Gh} (F : Facts G or3I [(0,[(1,-1)])] []) (hm : ¬ G.mono) (hT : HooksOk Tryz.prog G (hkT orT)) : SNOk Tryz.prog G or3P16 := snap_ok progOk F (or3H F hm hT or3N) 100 or3P16 Tryz.func11 rfl or3r16
end Go.Proofs.YtjkphnlolfnaeaaGreat
