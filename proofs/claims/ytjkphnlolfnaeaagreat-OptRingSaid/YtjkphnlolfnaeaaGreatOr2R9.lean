/- complinelaw25.OptRing: runs, part 9. -/
import Derived.Test.YtjkphnlolfnaeaaGreatOr2Q
import Derived.Test.YtjkphnlolfnaeaaGreatOr2R0
import Derived.Test.YtjkphnlolfnaeaaGreatOr2R1
import Derived.Test.YtjkphnlolfnaeaaGreatOr2R2
import Derived.Test.YtjkphnlolfnaeaaGreatOr2R3
import Derived.Test.YtjkphnlolfnaeaaGreatOr2R4
import Derived.Test.YtjkphnlolfnaeaaGreatOr2R5
import Derived.Test.YtjkphnlolfnaeaaGreatOr2R6
import Derived.Test.YtjkphnlolfnaeaaGreatOr2R7
import Derived.Test.YtjkphnlolfnaeaaGreatOr2R8
namespace Go.Proofs.YtjkphnlolfnaeaaGreat
open Go Go.RowKit Gv Gv.Lt
theorem or2r20 : isSn or2P20 (callN (or2E [] or2I [(0,[(1,-1)])]) 100 12 or2P20.args or2P20.h0) = true := by kernel_rfl
set_option maxRecDepth 100000 in
theorem or2s20 {G : Gh} (F : Facts G or2I [(0,[(1,-1)])] []) (hm : ¬ G.mono) (hT : HooksOk Tryz.prog G (hkT orT)) : SNOk Tryz.prog G or2P20 := snap_ok progOk F (or2H F hm hT or2N) 100 or2P20 Tryz.func12 rfl or2r20
theorem or2t0 : (callN (or2E [or2P0, or2P1, or2P2, or2P3, or2P4, or2P5, or2P6, or2P9, or2P11, or2P13, or2P15, or2P17, or2P19, or2P21] or2I [(-1,[(1,1)])]) 100 3 or2Args H0).isTrue = true := by kernel_rfl
set_option maxRecDepth 100000 in
theorem or2u0 {G : Gh} (F : Facts G or2I [(-1,[(1,1)])] []) (hm : ¬ G.mono) (hT : HooksOk Tryz.prog G (hkT orT)) {ul : List Value} (hl : concL G (fun _ => none) or2Args = some ul) (w : World) : Calls Tryz.prog 3 ul.toArray w (TrueBelow w) := run_true (nl := []) progOk F (or2H F hm hT (List.forall_mem_cons.2 ⟨or2s0 ⟨F.bd, F.ge.2, F.nl⟩ hm hT, (List.forall_mem_cons.2 ⟨or2s1 ⟨F.bd, F.ge.2, F.nl⟩ hm hT, (List.forall_mem_cons.2 ⟨or2s2 ⟨F.bd, F.ge.2, F.nl⟩ hm hT, (List.forall_mem_cons.2 ⟨or2s3 ⟨F.bd, F.ge.2, F.nl⟩ hm hT, (List.forall_mem_cons.2 ⟨or2s4 ⟨F.bd, F.ge.2, F.nl⟩ hm hT, (List.forall_mem_cons.2 ⟨or2s5 ⟨F.bd, F.ge.2, F.nl⟩ hm hT, (List.forall_mem_cons.2 ⟨or2s6 F hm hT, (List.forall_mem_cons.2 ⟨or2s9 F hm hT, (List.forall_mem_cons.2 ⟨or2s11 F hm hT, (List.forall_mem_cons.2 ⟨or2s13 F hm hT, (List.forall_mem_cons.2 ⟨or2s15 F hm hT, (List.forall_mem_cons.2 ⟨or2s17 F hm hT, (List.forall_mem_cons.2 ⟨or2s19 F hm hT, (List.forall_mem_cons.2 ⟨or2s21 F hm hT, or2N⟩)⟩)⟩)⟩)⟩)⟩)⟩)⟩)⟩)⟩)⟩)⟩)⟩)⟩)) Tryz.func3 rfl hl or2t0 w
theorem or2t1 : (callN (or2E [or2P0, or2P1, or2P2, or2P3, or2P4, or2P5, or2P7, or2P8, or2P10, or2P12, or2P14, or2P16, or2P18, or2P20] or2I [(0,[(1,-1)])]) 100 3 or2Args H0).isTrue = true := by kernel_rfl
set_option maxRecDepth 100000 in
theorem or2u1 {G : Gh} (F : Facts G or2I [(0,[(1,-1)])] []) (hm : ¬ G.mono) (hT : HooksOk Tryz.prog G (hkT orT)) {ul : List Value} (hl : concL G (fun _ => none) or2Args = some ul) (w : World) : Calls Tryz.prog 3 ul.toArray w (TrueBelow w) := run_true (nl := []) progOk F (or2H F hm hT (List.forall_mem_cons.2 ⟨or2s0 ⟨F.bd, F.ge.2, F.nl⟩ hm hT, (List.forall_mem_cons.2 ⟨or2s1 ⟨F.bd, F.ge.2, F.nl⟩ hm hT, (List.forall_mem_cons.2 ⟨or2s2 ⟨F.bd, F.ge.2, F.nl⟩ hm hT, (List.forall_mem_cons.2 ⟨or2s3 ⟨F.bd, F.ge.2, F.nl⟩ hm hT, (List.forall_mem_cons.2 ⟨or2s4 ⟨F.bd, F.ge.2, F.nl⟩ hm hT, (List.forall_mem_cons.2 ⟨or2s5 ⟨F.bd, F.ge.2, F.nl⟩ hm hT, (List.forall_mem_cons.2 ⟨or2s7 F hm hT, (List.forall_mem_cons.2 ⟨or2s8 F hm hT, (List.forall_mem_cons.2 ⟨or2s10 F hm hT, (List.forall_mem_cons.2 ⟨or2s12 F hm hT, (List.forall_mem_cons.2 ⟨or2s14 F hm hT, (List.forall_mem_cons.2 ⟨or2s16 F hm hT, (List.forall_mem_cons.2 ⟨or2s18 F hm hT, (List.forall_mem_cons.2 ⟨or2s20 F hm hT, or2N⟩)⟩)⟩)⟩)⟩)⟩)⟩)⟩)⟩)⟩)⟩)⟩)⟩)⟩)) Tryz.func3 rfl hl or2t1 w
end Go.Proofs.YtjkphnlolfnaeaaGreat
