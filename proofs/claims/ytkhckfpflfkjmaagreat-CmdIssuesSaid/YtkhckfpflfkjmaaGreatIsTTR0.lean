/- complinelaw28.CmdIssues: runs, part 0. -/
import Derived.Test.YtkhckfpflfkjmaaGreatIsTTQ
namespace Go.Proofs.YtkhckfpflfkjmaaGreat
open Go Go.RowKit Gv Gv.Lt
theorem isttr0 : isSn isttP0 (callN (isttE [] isttI []) 100 12 isttP0.args isttP0.h0) = true := by kernel_rfl
set_option maxRecDepth 100000 in
theorem istts0 {G : Gh} (F : Facts G isttI [] isttNL) (hA : KA G) (hS : KS G) (hm : ¬ G.mono) (hT : HooksOk Tryz.prog G (hkT isT)) : SNOk Tryz.prog G isttP0 := by have _hA := hA; have _hS := hS; exact snap_ok progOk F (isttH F hm hT isttN) 100 isttP0 Tryz.func12 rfl isttr0
theorem isttr1_0 : isttC [] [] 352 isttP1_0 := by unfold isttC; kernel_rfl
theorem isttr1_1 : isttC [] [] 352 isttP1_1 := by unfold isttC; kernel_rfl
theorem isttr1_2 : isttC [] [] 352 isttP1_2 := by unfold isttC; kernel_rfl
theorem isttr1_3 : isttC [] [] 352 isttP1_3 := by unfold isttC; kernel_rfl
theorem isttr1_4 : isttC [] [] 352 isttP1_4 := by unfold isttC; kernel_rfl
theorem isttr1_5 : isttC [] [] 352 isttP1_5 := by unfold isttC; kernel_rfl
theorem isttr1_6 : isttC [] [] 352 isttP1_6 := by unfold isttC; kernel_rfl
set_option maxRecDepth 100000 in
theorem istts1 {G : Gh} (F : Facts G isttI [] isttNL) (hA : KA G) (hS : KS G) (hm : ¬ G.mono) (hT : HooksOk Tryz.prog G (hkT isT)) : SNOk Tryz.prog G isttP1 := by
  have _hA := hA; have _hS := hS; rcases hA with ⟨e0, e1, e2⟩ | ⟨e0, e1, e2⟩ | ⟨e0, e1, e2⟩ | ⟨e0, e1, e2⟩ | ⟨e0, e1, e2⟩ | ⟨e0, e1, e2⟩ | ⟨e0, e1, e2⟩
  · exact istt_sc (snap_ok progOk F (isttH F hm hT isttN) 100 isttP1_0 Tryz.func352 rfl isttr1_0) (istt_c0 e0) (istt_d1 e1 e2)
  · exact istt_sc (snap_ok progOk F (isttH F hm hT isttN) 100 isttP1_1 Tryz.func352 rfl isttr1_1) (istt_c2 e0) (istt_d3 e1 e2)
  · exact istt_sc (snap_ok progOk F (isttH F hm hT isttN) 100 isttP1_2 Tryz.func352 rfl isttr1_2) (istt_c4 e0) (istt_d5 e1 e2)
  · exact istt_sc (snap_ok progOk F (isttH F hm hT isttN) 100 isttP1_3 Tryz.func352 rfl isttr1_3) (istt_c6 e0) (istt_d7 e1 e2)
  · exact istt_sc (snap_ok progOk F (isttH F hm hT isttN) 100 isttP1_4 Tryz.func352 rfl isttr1_4) (istt_c8 e0) (istt_d9 e1 e2)
  · exact istt_sc (snap_ok progOk F (isttH F hm hT isttN) 100 isttP1_5 Tryz.func352 rfl isttr1_5) (istt_c10 e0) (istt_d11 e1 e2)
  · exact istt_sc (snap_ok progOk F (isttH F hm hT isttN) 100 isttP1_6 Tryz.func352 rfl isttr1_6) (istt_c12 e0) (istt_d13 e1 e2)
theorem isttr2_0 : isttC [] [] 95 isttP2_0 := by unfold isttC; kernel_rfl
theorem isttr2_1 : isttC [] [] 95 isttP2_1 := by unfold isttC; kernel_rfl
theorem isttr2_2 : isttC [] [] 95 isttP2_2 := by unfold isttC; kernel_rfl
theorem isttr2_3 : isttC [] [] 95 isttP2_3 := by unfold isttC; kernel_rfl
theorem isttr2_4 : isttC [] [] 95 isttP2_4 := by unfold isttC; kernel_rfl
set_option maxRecDepth 100000 in
theorem istts2 {G : Gh} (F : Facts G isttI [] isttNL) (hA : KA G) (hS : KS G) (hm : ¬ G.mono) (hT : HooksOk Tryz.prog G (hkT isT)) : SNOk Tryz.prog G isttP2 := by
  have _hA := hA; have _hS := hS; rcases hS with ⟨e0, e1, e2, e3, e4, e5, e6, e7, e8⟩ | ⟨e0, e1, e2, e3, e4, e5, e6, e7, e8⟩ | ⟨e0, e1, e2, e3, e4, e5, e6, e7, e8⟩ | ⟨e0, e1, e2, e3, e4, e5, e6, e7, e8⟩ | ⟨e0, e1, e2, e3, e4, e5, e6, e7, e8⟩
  · exact istt_sc (snap_ok progOk F (isttH F hm hT isttN) 100 isttP2_0 Tryz.func95 rfl isttr2_0) (istt_c14 e0) (istt_d15 e1 e2 e3 e4 e5 e6 e7 e8)
  · exact istt_sc (snap_ok progOk F (isttH F hm hT isttN) 100 isttP2_1 Tryz.func95 rfl isttr2_1) (istt_c16 e0) (istt_d17 e1 e2 e3 e4 e5 e6 e7 e8)
  · exact istt_sc (snap_ok progOk F (isttH F hm hT isttN) 100 isttP2_2 Tryz.func95 rfl isttr2_2) (istt_c18 e0) (istt_d19 e1 e2 e3 e4 e5 e6 e7 e8)
  · exact istt_sc (snap_ok progOk F (isttH F hm hT isttN) 100 isttP2_3 Tryz.func95 rfl isttr2_3) (istt_c20 e0) (istt_d21 e1 e2 e3 e4 e5 e6 e7 e8)
  · exact istt_sc (snap_ok progOk F (isttH F hm hT isttN) 100 isttP2_4 Tryz.func95 rfl isttr2_4) (istt_c22 e0) (istt_d23 e1 e2 e3 e4 e5 e6 e7 e8)
theorem isttr3 : isSn isttP3 (callN (isttE [isttP1, isttP2] isttI isttG0) 100 10 isttP3.args isttP3.h0) = true := by kernel_rfl
set_option maxRecDepth 100000 in
theorem istts3 {G : Gh} (F : Facts G isttI isttG0 isttNL) (hA : KA G) (hS : KS G) (hm : ¬ G.mono) (hT : HooksOk Tryz.prog G (hkT isT)) : SNOk Tryz.prog G isttP3 := by have _hA := hA; have _hS := hS; exact snap_ok progOk F (isttH F hm hT (List.forall_mem_cons.2 ⟨istts1 ⟨F.bd, trivial, F.nl⟩ hA hS hm hT, (List.forall_mem_cons.2 ⟨istts2 ⟨F.bd, trivial, F.nl⟩ hA hS hm hT, isttN⟩)⟩)) 100 isttP3 Tryz.func10 rfl isttr3
theorem isttr8_0 : isttC [] isttG0 352 isttP8_0 := by unfold isttC; kernel_rfl
theorem isttr8_1 : isttC [] isttG0 352 isttP8_1 := by unfold isttC; kernel_rfl
theorem isttr8_2 : isttC [] isttG0 352 isttP8_2 := by unfold isttC; kernel_rfl
theorem isttr8_3 : isttC [] isttG0 352 isttP8_3 := by unfold isttC; kernel_rfl
theorem isttr8_4 : isttC [] isttG0 352 isttP8_4 := by unfold isttC; kernel_rfl
theorem isttr8_5 : isttC [] isttG0 352 isttP8_5 := by unfold isttC; kernel_rfl
theorem isttr8_6 : isttC [] isttG0 352 isttP8_6 := by unfold isttC; kernel_rfl
set_option maxRecDepth 100000 in
theorem istts8 {G : Gh} (F : Facts G isttI isttG0 isttNL) (hA : KA G) (hS : KS G) (hm : ¬ G.mono) (hT : HooksOk Tryz.prog G (hkT isT)) : SNOk Tryz.prog G isttP8 := by
  have _hA := hA; have _hS := hS; rcases hA with ⟨e0, e1, e2⟩ | ⟨e0, e1, e2⟩ | ⟨e0, e1, e2⟩ | ⟨e0, e1, e2⟩ | ⟨e0, e1, e2⟩ | ⟨e0, e1, e2⟩ | ⟨e0, e1, e2⟩
  · exact istt_sc (snap_ok progOk F (isttH F hm hT isttN) 100 isttP8_0 Tryz.func352 rfl isttr8_0) (istt_c0 e0) (istt_d1 e1 e2)
  · exact istt_sc (snap_ok progOk F (isttH F hm hT isttN) 100 isttP8_1 Tryz.func352 rfl isttr8_1) (istt_c2 e0) (istt_d3 e1 e2)
  · exact istt_sc (snap_ok progOk F (isttH F hm hT isttN) 100 isttP8_2 Tryz.func352 rfl isttr8_2) (istt_c4 e0) (istt_d5 e1 e2)
  · exact istt_sc (snap_ok progOk F (isttH F hm hT isttN) 100 isttP8_3 Tryz.func352 rfl isttr8_3) (istt_c6 e0) (istt_d7 e1 e2)
  · exact istt_sc (snap_ok progOk F (isttH F hm hT isttN) 100 isttP8_4 Tryz.func352 rfl isttr8_4) (istt_c8 e0) (istt_d9 e1 e2)
  · exact istt_sc (snap_ok progOk F (isttH F hm hT isttN) 100 isttP8_5 Tryz.func352 rfl isttr8_5) (istt_c10 e0) (istt_d11 e1 e2)
  · exact istt_sc (snap_ok progOk F (isttH F hm hT isttN) 100 isttP8_6 Tryz.func352 rfl isttr8_6) (istt_c12 e0) (istt_d13 e1 e2)
theorem isttr11_0 : isttC [] isttG0 95 isttP11_0 := by unfold isttC; kernel_rfl
theorem isttr11_1 : isttC [] isttG0 95 isttP11_1 := by unfold isttC; kernel_rfl
theorem isttr11_2 : isttC [] isttG0 95 isttP11_2 := by unfold isttC; kernel_rfl
theorem isttr11_3 : isttC [] isttG0 95 isttP11_3 := by unfold isttC; kernel_rfl
theorem isttr11_4 : isttC [] isttG0 95 isttP11_4 := by unfold isttC; kernel_rfl
set_option maxRecDepth 100000 in
theorem istts11 {G : Gh} (F : Facts G isttI isttG0 isttNL) (hA : KA G) (hS : KS G) (hm : ¬ G.mono) (hT : HooksOk Tryz.prog G (hkT isT)) : SNOk Tryz.prog G isttP11 := by
  have _hA := hA; have _hS := hS; rcases hS with ⟨e0, e1, e2, e3, e4, e5, e6, e7, e8⟩ | ⟨e0, e1, e2, e3, e4, e5, e6, e7, e8⟩ | ⟨e0, e1, e2, e3, e4, e5, e6, e7, e8⟩ | ⟨e0, e1, e2, e3, e4, e5, e6, e7, e8⟩ | ⟨e0, e1, e2, e3, e4, e5, e6, e7, e8⟩
  · exact istt_sc (snap_ok progOk F (isttH F hm hT isttN) 100 isttP11_0 Tryz.func95 rfl isttr11_0) (istt_c14 e0) (istt_d15 e1 e2 e3 e4 e5 e6 e7 e8)
  · exact istt_sc (snap_ok progOk F (isttH F hm hT isttN) 100 isttP11_1 Tryz.func95 rfl isttr11_1) (istt_c16 e0) (istt_d17 e1 e2 e3 e4 e5 e6 e7 e8)
  · exact istt_sc (snap_ok progOk F (isttH F hm hT isttN) 100 isttP11_2 Tryz.func95 rfl isttr11_2) (istt_c18 e0) (istt_d19 e1 e2 e3 e4 e5 e6 e7 e8)
  · exact istt_sc (snap_ok progOk F (isttH F hm hT isttN) 100 isttP11_3 Tryz.func95 rfl isttr11_3) (istt_c20 e0) (istt_d21 e1 e2 e3 e4 e5 e6 e7 e8)
  · exact istt_sc (snap_ok progOk F (isttH F hm hT isttN) 100 isttP11_4 Tryz.func95 rfl isttr11_4) (istt_c22 e0) (istt_d23 e1 e2 e3 e4 e5 e6 e7 e8)
theorem isttr12 : isSn isttP12 (callN (isttE [isttP8, isttP11] isttI isttG1) 100 10 isttP12.args isttP12.h0) = true := by kernel_rfl
set_option maxRecDepth 100000 in
theorem istts12 {G : Gh} (F : Facts G isttI isttG1 isttNL) (hA : KA G) (hS : KS G) (hm : ¬ G.mono) (hT : HooksOk Tryz.prog G (hkT isT)) : SNOk Tryz.prog G isttP12 := by have _hA := hA; have _hS := hS; exact snap_ok progOk F (isttH F hm hT (List.forall_mem_cons.2 ⟨istts8 ⟨F.bd, F.ge.2, F.nl⟩ hA hS hm hT, (List.forall_mem_cons.2 ⟨istts11 ⟨F.bd, F.ge.2, F.nl⟩ hA hS hm hT, isttN⟩)⟩)) 100 isttP12 Tryz.func10 rfl isttr12
theorem isttr23 : isSn isttP23 (callN (isttE [] isttI isttG1) 100 10 isttP23.args isttP23.h0) = true := by kernel_rfl
set_option maxRecDepth 100000 in
theorem istts23 {G : Gh} (F : Facts G isttI isttG1 isttNL) (hA : KA G) (hS : KS G) (hm : ¬ G.mono) (hT : HooksOk Tryz.prog G (hkT isT)) : SNOk Tryz.prog G isttP23 := by have _hA := hA; have _hS := hS; exact snap_ok progOk F (isttH F hm hT isttN) 100 isttP23 Tryz.func10 rfl isttr23
theorem isttr38_0 : isttC [] isttG1 13 isttP38_0 := by unfold isttC; kernel_rfl
theorem isttr38_1 : isttC [] isttG1 13 isttP38_1 := by unfold isttC; kernel_rfl
theorem isttr38_2 : isttC [] isttG1 13 isttP38_2 := by unfold isttC; kernel_rfl
theorem isttr38_3 : isttC [] isttG1 13 isttP38_3 := by unfold isttC; kernel_rfl
theorem isttr38_4 : isttC [] isttG1 13 isttP38_4 := by unfold isttC; kernel_rfl
theorem isttr38_5 : isttC [] isttG1 13 isttP38_5 := by unfold isttC; kernel_rfl
theorem isttr38_6 : isttC [] isttG1 13 isttP38_6 := by unfold isttC; kernel_rfl
set_option maxRecDepth 100000 in
theorem istts38 {G : Gh} (F : Facts G isttI isttG1 isttNL) (hA : KA G) (hS : KS G) (hm : ¬ G.mono) (hT : HooksOk Tryz.prog G (hkT isT)) : SNOk Tryz.prog G isttP38 := by
  have _hA := hA; have _hS := hS; rcases hA with ⟨e0, e1, e2⟩ | ⟨e0, e1, e2⟩ | ⟨e0, e1, e2⟩ | ⟨e0, e1, e2⟩ | ⟨e0, e1, e2⟩ | ⟨e0, e1, e2⟩ | ⟨e0, e1, e2⟩
  · exact istt_sc (snap_ok progOk F (isttH F hm hT isttN) 100 isttP38_0 Tryz.func13 rfl isttr38_0) (istt_c24 e0) (istt_d1 e1 e2)
  · exact istt_sc (snap_ok progOk F (isttH F hm hT isttN) 100 isttP38_1 Tryz.func13 rfl isttr38_1) (istt_c25 e0) (istt_d3 e1 e2)
  · exact istt_sc (snap_ok progOk F (isttH F hm hT isttN) 100 isttP38_2 Tryz.func13 rfl isttr38_2) (istt_c26 e0) (istt_d5 e1 e2)
  · exact istt_sc (snap_ok progOk F (isttH F hm hT isttN) 100 isttP38_3 Tryz.func13 rfl isttr38_3) (istt_c27 e0) (istt_d7 e1 e2)
  · exact istt_sc (snap_ok progOk F (isttH F hm hT isttN) 100 isttP38_4 Tryz.func13 rfl isttr38_4) (istt_c28 e0) (istt_d9 e1 e2)
  · exact istt_sc (snap_ok progOk F (isttH F hm hT isttN) 100 isttP38_5 Tryz.func13 rfl isttr38_5) (istt_c29 e0) (istt_d11 e1 e2)
  · exact istt_sc (snap_ok progOk F (isttH F hm hT isttN) 100 isttP38_6 Tryz.func13 rfl isttr38_6) (istt_c30 e0) (istt_d13 e1 e2)
theorem isttr59_0 : isttC [] isttG1 14 isttP59_0 := by unfold isttC; kernel_rfl
theorem isttr59_1 : isttC [] isttG1 14 isttP59_1 := by unfold isttC; kernel_rfl
theorem isttr59_2 : isttC [] isttG1 14 isttP59_2 := by unfold isttC; kernel_rfl
theorem isttr59_3 : isttC [] isttG1 14 isttP59_3 := by unfold isttC; kernel_rfl
theorem isttr59_4 : isttC [] isttG1 14 isttP59_4 := by unfold isttC; kernel_rfl
set_option maxRecDepth 100000 in
theorem istts59 {G : Gh} (F : Facts G isttI isttG1 isttNL) (hA : KA G) (hS : KS G) (hm : ¬ G.mono) (hT : HooksOk Tryz.prog G (hkT isT)) : SNOk Tryz.prog G isttP59 := by
  have _hA := hA; have _hS := hS; rcases hS with ⟨e0, e1, e2, e3, e4, e5, e6, e7, e8⟩ | ⟨e0, e1, e2, e3, e4, e5, e6, e7, e8⟩ | ⟨e0, e1, e2, e3, e4, e5, e6, e7, e8⟩ | ⟨e0, e1, e2, e3, e4, e5, e6, e7, e8⟩ | ⟨e0, e1, e2, e3, e4, e5, e6, e7, e8⟩
  · exact istt_sc (snap_ok progOk F (isttH F hm hT isttN) 100 isttP59_0 Tryz.func14 rfl isttr59_0) (istt_c31 e0) (istt_d15 e1 e2 e3 e4 e5 e6 e7 e8)
  · exact istt_sc (snap_ok progOk F (isttH F hm hT isttN) 100 isttP59_1 Tryz.func14 rfl isttr59_1) (istt_c32 e0) (istt_d17 e1 e2 e3 e4 e5 e6 e7 e8)
  · exact istt_sc (snap_ok progOk F (isttH F hm hT isttN) 100 isttP59_2 Tryz.func14 rfl isttr59_2) (istt_c33 e0) (istt_d19 e1 e2 e3 e4 e5 e6 e7 e8)
  · exact istt_sc (snap_ok progOk F (isttH F hm hT isttN) 100 isttP59_3 Tryz.func14 rfl isttr59_3) (istt_c34 e0) (istt_d21 e1 e2 e3 e4 e5 e6 e7 e8)
  · exact istt_sc (snap_ok progOk F (isttH F hm hT isttN) 100 isttP59_4 Tryz.func14 rfl isttr59_4) (istt_c35 e0) (istt_d23 e1 e2 e3 e4 e5 e6 e7 e8)
end Go.Proofs.YtkhckfpflfkjmaaGreat
