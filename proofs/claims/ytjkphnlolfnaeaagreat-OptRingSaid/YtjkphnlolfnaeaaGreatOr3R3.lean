/- complinelaw25.OptRing: runs, part 3. -/
import Derived.Test.YtjkphnlolfnaeaaGreatOr3Q
namespace Go.Proofs.YtjkphnlolfnaeaaGreat
open Go Go.RowKit Gv Gv.Lt
theorem or3r18 : isSn or3P18 (callN (or3E [] or3I [(-1,[(1,1)])]) 100 11 or3P18.args or3P18.h0) = true := by kernel_rfl
set_option maxRecDepth 100000 in
theorem or3s18 {G : Gh} (F : Facts G or3I [(-1,[(1,1)])] []) (hm : ¬ G.mono) (hT : HooksOk Tryz.prog G (hkT orT)) : SNOk Tryz.prog G or3P18 := snap_ok progOk F (or3H F hm hT or3N) 100 or3P18 Tryz.func11 rfl or3r18
theorem or3r20 : isSn or3P20 (callN (or3E [] or3I [(-1,[(1,1)])]) 100 12 or3P20.args or3P20.h0) = true := by kernel_rfl
set_option maxRecDepth 100000 in
theorem or3s20 {G : Gh} (F : Facts G or3I [(-1,[(1,1)])] []) (hm : ¬ G.mono) (hT : HooksOk Tryz.prog G (hkT orT)) : SNOk Tryz.prog G or3P20 := snap_ok progOk F (or3H F hm hT or3N) 100 or3P20 Tryz.func12 rfl or3r20
theorem or3r22 : isSn or3P22 (callN (or3E [] or3I [(-1,[(1,1)])]) 100 12 or3P22.args or3P22.h0) = true := by kernel_rfl
set_option maxRecDepth 100000 in
theorem or3s22 {G : Gh} (F : Facts G or3I [(-1,[(1,1)])] []) (hm : ¬ G.mono) (hT : HooksOk Tryz.prog G (hkT orT)) : SNOk Tryz.prog G or3P22 := snap_ok progOk F (or3H F hm hT or3N) 100 or3P22 Tryz.func12 rfl or3r22
theorem or3r24 : isSn or3P24 (callN (or3E [] or3I [(-1,[(1,1)])]) 100 12 or3P24.args or3P24.h0) = true := by kernel_rfl
set_option maxRecDepth 100000 in
theorem or3s24 {G : Gh} (F : Facts G or3I [(-1,[(1,1)])] []) (hm : ¬ G.mono) (hT : HooksOk Tryz.prog G (hkT orT)) : SNOk Tryz.prog G or3P24 := snap_ok progOk F (or3H F hm hT or3N) 100 or3P24 Tryz.func12 rfl or3r24
theorem or3r26 : isSn or3P26 (callN (or3E [] or3I [(-1,[(1,1)])]) 100 12 or3P26.args or3P26.h0) = true := by kernel_rfl
set_option maxRecDepth 100000 in
theorem or3s26 {G : Gh} (F : Facts G or3I [(-1,[(1,1)])] []) (hm : ¬ G.mono) (hT : HooksOk Tryz.prog G (hkT orT)) : SNOk Tryz.prog G or3P26 := snap_ok progOk F (or3H F hm hT or3N) 100 or3P26 Tryz.func12 rfl or3r26
theorem or3r28 : isSn or3P28 (callN (or3E [] or3I [(-1,[(1,1)])]) 100 12 or3P28.args or3P28.h0) = true := by kernel_rfl
set_option maxRecDepth 100000 in
theorem or3s28 {G : Gh} (F : Facts G or3I [(-1,[(1,1)])] []) (hm : ¬ G.mono) (hT : HooksOk Tryz.prog G (hkT orT)) : SNOk Tryz.prog G or3P28 := snap_ok progOk F (or3H F hm hT or3N) 100 or3P28 Tryz.func12 rfl or3r28
theorem or3r29 : isSn or3P29 (callN (or3E [] or3I [(-1,[(1,1)])]) 100 12 or3P29.args or3P29.h0) = true := by kernel_rfl
set_option maxRecDepth 100000 in
theorem or3s29 {G : Gh} (F : Facts G or3I [(-1,[(1,1)])] []) (hm : ¬ G.mono) (hT : HooksOk Tryz.prog G (hkT orT)) : SNOk Tryz.prog G or3P29 := snap_ok progOk F (or3H F hm hT or3N) 100 or3P29 Tryz.func12 rfl or3r29
theorem or3r9 : isSn or3P9 (callN (or3E [] or3I [(0,[(1,-1)])]) 100 9 or3P9.args or3P9.h0) = true := by kernel_rfl
set_option maxRecDepth 100000 in
theorem or3s9 {G : Gh} (F : Facts G or3I [(0,[(1,-1)])] []) (hm : ¬ G.mono) (hT : HooksOk Tryz.prog G (hkT orT)) : SNOk Tryz.prog G or3P9 := snap_ok progOk F (or3H F hm hT or3N) 100 or3P9 Tryz.func9 rfl or3r9
end Go.Proofs.YtjkphnlolfnaeaaGreat
