/- complinelaw25.OptRing: runs, part 5. -/
import Derived.Test.YtjkphnlolfnaeaaGreatOr3Q
import Derived.Test.YtjkphnlolfnaeaaGreatOr3R0
import Derived.Test.YtjkphnlolfnaeaaGreatOr3R1
import Derived.Test.YtjkphnlolfnaeaaGreatOr3R2
import Derived.Test.YtjkphnlolfnaeaaGreatOr3R3
import Derived.Test.YtjkphnlolfnaeaaGreatOr3R4
namespace Go.Proofs.YtjkphnlolfnaeaaGreat
open Go Go.RowKit Gv Gv.Lt
theorem or3r17 : isSn or3P17 (callN (or3E [] or3I [(0,[(1,-1)])]) 100 12 or3P17.args or3P17.h0) = true := by kernel_rfl
set_option maxRecDepth 100000 in
theorem or3s17 {G : Gh} (F : Facts G or3I [(0,[(1,-1)])] []) (hm : ¬ G.mono) (hT : HooksOk Tryz.prog G (hkT orT)) : SNOk Tryz.prog G or3P17 := snap_ok progOk F (or3H F hm hT or3N) 100 or3P17 Tryz.func12 rfl or3r17
theorem or3r19 : isSn or3P19 (callN (or3E [] or3I [(0,[(1,-1)])]) 100 12 or3P19.args or3P19.h0) = true := by kernel_rfl
set_option maxRecDepth 100000 in
theorem or3s19 {G : Gh} (F : Facts G or3I [(0,[(1,-1)])] []) (hm : ¬ G.mono) (hT : HooksOk Tryz.prog G (hkT orT)) : SNOk Tryz.prog G or3P19 := snap_ok progOk F (or3H F hm hT or3N) 100 or3P19 Tryz.func12 rfl or3r19
theorem or3r21 : isSn or3P21 (callN (or3E [] or3I [(0,[(1,-1)])]) 100 12 or3P21.args or3P21.h0) = true := by kernel_rfl
set_option maxRecDepth 100000 in
theorem or3s21 {G : Gh} (F : Facts G or3I [(0,[(1,-1)])] []) (hm : ¬ G.mono) (hT : HooksOk Tryz.prog G (hkT orT)) : SNOk Tryz.prog G or3P21 := snap_ok progOk F (or3H F hm hT or3N) 100 or3P21 Tryz.func12 rfl or3r21
theorem or3r23 : isSn or3P23 (callN (or3E [] or3I [(0,[(1,-1)])]) 100 12 or3P23.args or3P23.h0) = true := by kernel_rfl
set_option maxRecDepth 100000 in
theorem or3s23 {G : Gh} (F : Facts G or3I [(0,[(1,-1)])] []) (hm : ¬ G.mono) (hT : HooksOk Tryz.prog G (hkT orT)) : SNOk Tryz.prog G or3P23 := snap_ok progOk F (or3H F hm hT or3N) 100 or3P23 Tryz.func12 rfl or3r23
theorem or3r25 : isSn or3P25 (callN (or3E [] or3I [(0,[(1,-1)])]) 100 12 or3P25.args or3P25.h0) = true := by kernel_rfl
set_option maxRecDepth 100000 in
theorem or3s25 {G : Gh} (F : Facts G or3I [(0,[(1,-1)])] []) (hm : ¬ G.mono) (hT : HooksOk Tryz.prog G (hkT orT)) : SNOk Tryz.prog G or3P25 := snap_ok progOk F (or3H F hm hT or3N) 100 or3P25 Tryz.func12 rfl or3r25
theorem or3r27 : isSn or3P27 (callN (or3E [] or3I [(0,[(1,-1)])]) 100 12 or3P27.args or3P27.h0) = true := by kernel_rfl
set_option maxRecDepth 100000 in
theorem or3s27 {G : Gh} (F : Facts G or3I [(0,[(1,-1)])] []) (hm : ¬ G.mono) (hT : HooksOk Tryz.prog G (hkT orT)) : SNOk Tryz.prog G or3P27 := snap_ok progOk F (or3H F hm hT or3N) 100 or3P27 Tryz.func12 rfl or3r27
theorem or3t0 : (callN (or3E [or3P0, or3P1, or3P2, or3P3, or3P4, or3P5, or3P6, or3P7, or3P8, or3P11, or3P13, or3P15, or3P18, or3P20, or3P22, or3P24, or3P26, or3P28, or3P29] or3I [(-1,[(1,1)])]) 100 3 or3Args H0).isTrue = true := by kernel_rfl
set_option maxRecDepth 100000 in
theorem or3u0 {G : Gh} (F : Facts G or3I [(-1,[(1,1)])] []) (hm : ¬ G.mono) (hT : HooksOk Tryz.prog G (hkT orT)) {ul : List Value} (hl : concL G (fun _ => none) or3Args = some ul) (w : World) : Calls Tryz.prog 3 ul.toArray w (TrueBelow w) := run_true (nl := []) progOk F (or3H F hm hT (List.forall_mem_cons.2 ⟨or3s0 ⟨F.bd, F.ge.2, F.nl⟩ hm hT, (List.forall_mem_cons.2 ⟨or3s1 ⟨F.bd, F.ge.2, F.nl⟩ hm hT, (List.forall_mem_cons.2 ⟨or3s2 ⟨F.bd, F.ge.2, F.nl⟩ hm hT, (List.forall_mem_cons.2 ⟨or3s3 ⟨F.bd, F.ge.2, F.nl⟩ hm hT, (List.forall_mem_cons.2 ⟨or3s4 ⟨F.bd, F.ge.2, F.nl⟩ hm hT, (List.forall_mem_cons.2 ⟨or3s5 ⟨F.bd, F.ge.2, F.nl⟩ hm hT, (List.forall_mem_cons.2 ⟨or3s6 ⟨F.bd, F.ge.2, F.nl⟩ hm hT, (List.forall_mem_cons.2 ⟨or3s7 ⟨F.bd, F.ge.2, F.nl⟩ hm hT, (List.forall_mem_cons.2 ⟨or3s8 F hm hT, (List.forall_mem_cons.2 ⟨or3s11 F hm hT, (List.forall_mem_cons.2 ⟨or3s13 F hm hT, (List.forall_mem_cons.2 ⟨or3s15 F hm hT, (List.forall_mem_cons.2 ⟨or3s18 F hm hT, (List.forall_mem_cons.2 ⟨or3s20 F hm hT, (List.forall_mem_cons.2 ⟨or3s22 F hm hT, (List.forall_mem_cons.2 ⟨or3s24 F hm hT, (List.forall_mem_cons.2 ⟨or3s26 F hm hT, (List.forall_mem_cons.2 ⟨or3s28 F hm hT, (List.forall_mem_cons.2 ⟨or3s29 F hm hT, or3N⟩)⟩)⟩)⟩)⟩)⟩)⟩)⟩)⟩)⟩)⟩)⟩)⟩)⟩)⟩)⟩)⟩)⟩)⟩)) Tryz.func3 rfl hl or3t0 w
theorem or3t1 : (callN (or3E [or3P0, or3P1, or3P2, or3P3, or3P4, or3P5, or3P6, or3P7, or3P9, or3P10, or3P12, or3P14, or3P16, or3P17, or3P19, or3P21, or3P23, or3P25, or3P27] or3I [(0,[(1,-1)])]) 100 3 or3Args H0).isTrue = true := by kernel_rfl
set_option maxRecDepth 100000 in
theorem or3u1 {G : Gh} (F : Facts G or3I [(0,[(1,-1)])] []) (hm : ¬ G.mono) (hT : HooksOk Tryz.prog G (hkT orT)) {ul : List Value} (hl : concL G (fun _ => none) or3Args = some ul) (w : World) : Calls Tryz.prog 3 ul.toArray w (TrueBelow w) := run_true (nl := []) progOk F (or3H F hm hT (List.forall_mem_cons.2 ⟨or3s0 ⟨F.bd, F.ge.2, F.nl⟩ hm hT, (List.forall_mem_cons.2 ⟨or3s1 ⟨F.bd, F.ge.2, F.nl⟩ hm hT, (List.forall_mem_cons.2 ⟨or3s2 ⟨F.bd, F.ge.2, F.nl⟩ hm hT, (List.forall_mem_cons.2 ⟨or3s3 ⟨F.bd, F.ge.2, F.nl⟩ hm hT, (List.forall_mem_cons.2 ⟨or3s4 ⟨F.bd, F.ge.2, F.nl⟩ hm hT, (List.forall_mem_cons.2 ⟨or3s5 ⟨F.bd, F.ge.2, F.nl⟩ hm hT, (List.forall_mem_cons.2 ⟨or3s6 ⟨F.bd, F.ge.2, F.nl⟩ hm hT, (List.forall_mem_cons.2 ⟨or3s7 ⟨F.bd, F.ge.2, F.nl⟩ hm hT, (List.forall_mem_cons.2 ⟨or3s9 F hm hT, (List.forall_mem_cons.2 ⟨or3s10 F hm hT, (List.forall_mem_cons.2 ⟨or3s12 F hm hT, (List.forall_mem_cons.2 ⟨or3s14 F hm hT, (List.forall_mem_cons.2 ⟨or3s16 F hm hT, (List.forall_mem_cons.2 ⟨or3s17 F hm hT, (List.forall_mem_cons.2 ⟨or3s19 F hm hT, (List.forall_mem_cons.2 ⟨or3s21 F hm hT, (List.forall_mem_cons.2 ⟨or3s23 F hm hT, (List.forall_mem_cons.2 ⟨or3s25 F hm hT, (List.forall_mem_cons.2 ⟨or3s27 F hm hT, or3N⟩)⟩)⟩)⟩)⟩)⟩)⟩)⟩)⟩)⟩)⟩)⟩)⟩)⟩)⟩)⟩)⟩)⟩)⟩)) Tryz.func3 rfl hl or3t1 w
end Go.Proofs.YtjkphnlolfnaeaaGreat
