/- complinelaw28.CmdIssues: runs, part 6. -/
import Derived.Test.YtkhckfpflfkjmaaGreatIsTTQ
import Derived.Test.YtkhckfpflfkjmaaGreatIsTTR0
namespace Go.Proofs.YtkhckfpflfkjmaaGreat
open Go Go.RowKit Gv Gv.Lt
theorem isttr114_0 : isttC [] isttG17 14 isttP114_0 := by unfold isttC; kernel_rfl
theorem isttr114_1 : isttC [] isttG17 14 isttP114_1 := by unfold isttC; kernel_rfl
theorem isttr114_2 : isttC [] isttG17 14 isttP114_2 := by unfold isttC; kernel_rfl
theorem isttr114_3 : isttC [] isttG17 14 isttP114_3 := by unfold isttC; kernel_rfl
theorem isttr114_4 : isttC [] isttG17 14 isttP114_4 := by unfold isttC; kernel_rfl
set_option maxRecDepth 100000 in
theorem istts114 {G : Gh} (F : Facts G isttI isttG17 isttNL) (hA : KA G) (hS : KS G) (hm : ¬ G.mono) (hT : HooksOk Tryz.prog G (hkT isT)) : SNOk Tryz.prog G isttP114 := by
  have _hA := hA; have _hS := hS; rcases hS with ⟨e0, e1, e2, e3, e4, e5, e6, e7, e8⟩ | ⟨e0, e1, e2, e3, e4, e5, e6, e7, e8⟩ | ⟨e0, e1, e2, e3, e4, e5, e6, e7, e8⟩ | ⟨e0, e1, e2, e3, e4, e5, e6, e7, e8⟩ | ⟨e0, e1, e2, e3, e4, e5, e6, e7, e8⟩
  · exact istt_sc (snap_ok progOk F (isttH F hm hT isttN) 100 isttP114_0 Tryz.func14 rfl isttr114_0) (istt_c31 e0) (istt_d15 e1 e2 e3 e4 e5 e6 e7 e8)
  · exact istt_sc (snap_ok progOk F (isttH F hm hT isttN) 100 isttP114_1 Tryz.func14 rfl isttr114_1) (istt_c32 e0) (istt_d17 e1 e2 e3 e4 e5 e6 e7 e8)
  · exact istt_sc (snap_ok progOk F (isttH F hm hT isttN) 100 isttP114_2 Tryz.func14 rfl isttr114_2) (istt_c33 e0) (istt_d19 e1 e2 e3 e4 e5 e6 e7 e8)
  · exact istt_sc (snap_ok progOk F (isttH F hm hT isttN) 100 isttP114_3 Tryz.func14 rfl isttr114_3) (istt_c34 e0) (istt_d21 e1 e2 e3 e4 e5 e6 e7 e8)
  · exact istt_sc (snap_ok progOk F (isttH F hm hT isttN) 100 isttP114_4 Tryz.func14 rfl isttr114_4) (istt_c35 e0) (istt_d23 e1 e2 e3 e4 e5 e6 e7 e8)
theorem isttr6 : isSn isttP6 (callN (isttE [isttP1, isttP2] isttI isttG18) 100 10 isttP6.args isttP6.h0) = true := by kernel_rfl
set_option maxRecDepth 100000 in
theorem istts6 {G : Gh} (F : Facts G isttI isttG18 isttNL) (hA : KA G) (hS : KS G) (hm : ¬ G.mono) (hT : HooksOk Tryz.prog G (hkT isT)) : SNOk Tryz.prog G isttP6 := by have _hA := hA; have _hS := hS; exact snap_ok progOk F (isttH F hm hT (List.forall_mem_cons.2 ⟨istts1 ⟨F.bd, trivial, F.nl⟩ hA hS hm hT, (List.forall_mem_cons.2 ⟨istts2 ⟨F.bd, trivial, F.nl⟩ hA hS hm hT, isttN⟩)⟩)) 100 isttP6 Tryz.func10 rfl isttr6
theorem isttr34_0 : isttC [] isttG18 352 isttP34_0 := by unfold isttC; kernel_rfl
theorem isttr34_1 : isttC [] isttG18 352 isttP34_1 := by unfold isttC; kernel_rfl
theorem isttr34_2 : isttC [] isttG18 352 isttP34_2 := by unfold isttC; kernel_rfl
theorem isttr34_3 : isttC [] isttG18 352 isttP34_3 := by unfold isttC; kernel_rfl
theorem isttr34_4 : isttC [] isttG18 352 isttP34_4 := by unfold isttC; kernel_rfl
theorem isttr34_5 : isttC [] isttG18 352 isttP34_5 := by unfold isttC; kernel_rfl
theorem isttr34_6 : isttC [] isttG18 352 isttP34_6 := by unfold isttC; kernel_rfl
set_option maxRecDepth 100000 in
theorem istts34 {G : Gh} (F : Facts G isttI isttG18 isttNL) (hA : KA G) (hS : KS G) (hm : ¬ G.mono) (hT : HooksOk Tryz.prog G (hkT isT)) : SNOk Tryz.prog G isttP34 := by
  have _hA := hA; have _hS := hS; rcases hA with ⟨e0, e1, e2⟩ | ⟨e0, e1, e2⟩ | ⟨e0, e1, e2⟩ | ⟨e0, e1, e2⟩ | ⟨e0, e1, e2⟩ | ⟨e0, e1, e2⟩ | ⟨e0, e1, e2⟩
  · exact istt_sc (snap_ok progOk F (isttH F hm hT isttN) 100 isttP34_0 Tryz.func352 rfl isttr34_0) (istt_c0 e0) (istt_d1 e1 e2)
  · exact istt_sc (snap_ok progOk F (isttH F hm hT isttN) 100 isttP34_1 Tryz.func352 rfl isttr34_1) (istt_c2 e0) (istt_d3 e1 e2)
  · exact istt_sc (snap_ok progOk F (isttH F hm hT isttN) 100 isttP34_2 Tryz.func352 rfl isttr34_2) (istt_c4 e0) (istt_d5 e1 e2)
  · exact istt_sc (snap_ok progOk F (isttH F hm hT isttN) 100 isttP34_3 Tryz.func352 rfl isttr34_3) (istt_c6 e0) (istt_d7 e1 e2)
  · exact istt_sc (snap_ok progOk F (isttH F hm hT isttN) 100 isttP34_4 Tryz.func352 rfl isttr34_4) (istt_c8 e0) (istt_d9 e1 e2)
  · exact istt_sc (snap_ok progOk F (isttH F hm hT isttN) 100 isttP34_5 Tryz.func352 rfl isttr34_5) (istt_c10 e0) (istt_d11 e1 e2)
  · exact istt_sc (snap_ok progOk F (isttH F hm hT isttN) 100 isttP34_6 Tryz.func352 rfl isttr34_6) (istt_c12 e0) (istt_d13 e1 e2)
theorem isttr43_0 : isttC [] isttG18 95 isttP43_0 := by unfold isttC; kernel_rfl
theorem isttr43_1 : isttC [] isttG18 95 isttP43_1 := by unfold isttC; kernel_rfl
theorem isttr43_2 : isttC [] isttG18 95 isttP43_2 := by unfold isttC; kernel_rfl
theorem isttr43_3 : isttC [] isttG18 95 isttP43_3 := by unfold isttC; kernel_rfl
theorem isttr43_4 : isttC [] isttG18 95 isttP43_4 := by unfold isttC; kernel_rfl
set_option maxRecDepth 100000 in
theorem istts43 {G : Gh} (F : Facts G isttI isttG18 isttNL) (hA : KA G) (hS : KS G) (hm : ¬ G.mono) (hT : HooksOk Tryz.prog G (hkT isT)) : SNOk Tryz.prog G isttP43 := by
  have _hA := hA; have _hS := hS; rcases hS with ⟨e0, e1, e2, e3, e4, e5, e6, e7, e8⟩ | ⟨e0, e1, e2, e3, e4, e5, e6, e7, e8⟩ | ⟨e0, e1, e2, e3, e4, e5, e6, e7, e8⟩ | ⟨e0, e1, e2, e3, e4, e5, e6, e7, e8⟩ | ⟨e0, e1, e2, e3, e4, e5, e6, e7, e8⟩
  · exact istt_sc (snap_ok progOk F (isttH F hm hT isttN) 100 isttP43_0 Tryz.func95 rfl isttr43_0) (istt_c14 e0) (istt_d15 e1 e2 e3 e4 e5 e6 e7 e8)
  · exact istt_sc (snap_ok progOk F (isttH F hm hT isttN) 100 isttP43_1 Tryz.func95 rfl isttr43_1) (istt_c16 e0) (istt_d17 e1 e2 e3 e4 e5 e6 e7 e8)
  · exact istt_sc (snap_ok progOk F (isttH F hm hT isttN) 100 isttP43_2 Tryz.func95 rfl isttr43_2) (istt_c18 e0) (istt_d19 e1 e2 e3 e4 e5 e6 e7 e8)
  · exact istt_sc (snap_ok progOk F (isttH F hm hT isttN) 100 isttP43_3 Tryz.func95 rfl isttr43_3) (istt_c20 e0) (istt_d21 e1 e2 e3 e4 e5 e6 e7 e8)
  · exact istt_sc (snap_ok progOk F (isttH F hm hT isttN) 100 isttP43_4 Tryz.func95 rfl isttr43_4) (istt_c22 e0) (istt_d23 e1 e2 e3 e4 e5 e6 e7 e8)
theorem isttr78 : isSn isttP78 (callN (isttE [isttP34, isttP43] isttI isttG19) 100 10 isttP78.args isttP78.h0) = true := by kernel_rfl
set_option maxRecDepth 100000 in
theorem istts78 {G : Gh} (F : Facts G isttI isttG19 isttNL) (hA : KA G) (hS : KS G) (hm : ¬ G.mono) (hT : HooksOk Tryz.prog G (hkT isT)) : SNOk Tryz.prog G isttP78 := by have _hA := hA; have _hS := hS; exact snap_ok progOk F (isttH F hm hT (List.forall_mem_cons.2 ⟨istts34 ⟨F.bd, F.ge.2, F.nl⟩ hA hS hm hT, (List.forall_mem_cons.2 ⟨istts43 ⟨F.bd, F.ge.2, F.nl⟩ hA hS hm hT, isttN⟩)⟩)) 100 isttP78 Tryz.func10 rfl isttr78
theorem isttr86 : isSn isttP86 (callN (isttE [] isttI isttG19) 100 10 isttP86.args isttP86.h0) = true := by kernel_rfl
set_option maxRecDepth 100000 in
theorem istts86 {G : Gh} (F : Facts G isttI isttG19 isttNL) (hA : KA G) (hS : KS G) (hm : ¬ G.mono) (hT : HooksOk Tryz.prog G (hkT isT)) : SNOk Tryz.prog G isttP86 := by have _hA := hA; have _hS := hS; exact snap_ok progOk F (isttH F hm hT isttN) 100 isttP86 Tryz.func10 rfl isttr86
theorem isttr103_0 : isttC [] isttG19 13 isttP103_0 := by unfold isttC; kernel_rfl
theorem isttr103_1 : isttC [] isttG19 13 isttP103_1 := by unfold isttC; kernel_rfl
theorem isttr103_2 : isttC [] isttG19 13 isttP103_2 := by unfold isttC; kernel_rfl
theorem isttr103_3 : isttC [] isttG19 13 isttP103_3 := by unfold isttC; kernel_rfl
theorem isttr103_4 : isttC [] isttG19 13 isttP103_4 := by unfold isttC; kernel_rfl
theorem isttr103_5 : isttC [] isttG19 13 isttP103_5 := by unfold isttC; kernel_rfl
theorem isttr103_6 : isttC [] isttG19 13 isttP103_6 := by unfold isttC; kernel_rfl
set_option maxRecDepth 100000 in
theorem istts103 {G : Gh} (F : Facts G isttI isttG19 isttNL) (hA : KA G) (hS : KS G) (hm : ¬ G.mono) (hT : HooksOk Tryz.prog G (hkT isT)) : SNOk Tryz.prog G isttP103 := by
  have _hA := hA; have _hS := hS; rcases hA with ⟨e0, e1, e2⟩ | ⟨e0, e1, e2⟩ | ⟨e0, e1, e2⟩ | ⟨e0, e1, e2⟩ | ⟨e0, e1, e2⟩ | ⟨e0, e1, e2⟩ | ⟨e0, e1, e2⟩
  · exact istt_sc (snap_ok progOk F (isttH F hm hT isttN) 100 isttP103_0 Tryz.func13 rfl isttr103_0) (istt_c24 e0) (istt_d1 e1 e2)
  · exact istt_sc (snap_ok progOk F (isttH F hm hT isttN) 100 isttP103_1 Tryz.func13 rfl isttr103_1) (istt_c25 e0) (istt_d3 e1 e2)
  · exact istt_sc (snap_ok progOk F (isttH F hm hT isttN) 100 isttP103_2 Tryz.func13 rfl isttr103_2) (istt_c26 e0) (istt_d5 e1 e2)
  · exact istt_sc (snap_ok progOk F (isttH F hm hT isttN) 100 isttP103_3 Tryz.func13 rfl isttr103_3) (istt_c27 e0) (istt_d7 e1 e2)
  · exact istt_sc (snap_ok progOk F (isttH F hm hT isttN) 100 isttP103_4 Tryz.func13 rfl isttr103_4) (istt_c28 e0) (istt_d9 e1 e2)
  · exact istt_sc (snap_ok progOk F (isttH F hm hT isttN) 100 isttP103_5 Tryz.func13 rfl isttr103_5) (istt_c29 e0) (istt_d11 e1 e2)
  · exact istt_sc (snap_ok progOk F (isttH F hm hT isttN) 100 isttP103_6 Tryz.func13 rfl isttr103_6) (istt_c30 e0) (istt_d13 e1 e2)
theorem isttr120_0 : isttC [] isttG19 14 isttP120_0 := by unfold isttC; kernel_rfl
theorem isttr120_1 : isttC [] isttG19 14 isttP120_1 := by unfold isttC; kernel_rfl
theorem isttr120_2 : isttC [] isttG19 14 isttP120_2 := by unfold isttC; kernel_rfl
theorem isttr120_3 : isttC [] isttG19 14 isttP120_3 := by unfold isttC; kernel_rfl
theorem isttr120_4 : isttC [] isttG19 14 isttP120_4 := by unfold isttC; kernel_rfl
set_option maxRecDepth 100000 in
theorem istts120 {G : Gh} (F : Facts G isttI isttG19 isttNL) (hA : KA G) (hS : KS G) (hm : ¬ G.mono) (hT : HooksOk Tryz.prog G (hkT isT)) : SNOk Tryz.prog G isttP120 := by
  have _hA := hA; have _hS := hS; rcases hS with ⟨e0, e1, e2, e3, e4, e5, e6, e7, e8⟩ | ⟨e0, e1, e2, e3, e4, e5, e6, e7, e8⟩ | ⟨e0, e1, e2, e3, e4, e5, e6, e7, e8⟩ | ⟨e0, e1, e2, e3, e4, e5, e6, e7, e8⟩ | ⟨e0, e1, e2, e3, e4, e5, e6, e7, e8⟩
  · exact istt_sc (snap_ok progOk F (isttH F hm hT isttN) 100 isttP120_0 Tryz.func14 rfl isttr120_0) (istt_c31 e0) (istt_d15 e1 e2 e3 e4 e5 e6 e7 e8)
  · exact istt_sc (snap_ok progOk F (isttH F hm hT isttN) 100 isttP120_1 Tryz.func14 rfl isttr120_1) (istt_c32 e0) (istt_d17 e1 e2 e3 e4 e5 e6 e7 e8)
  · exact istt_sc (snap_ok progOk F (isttH F hm hT isttN) 100 isttP120_2 Tryz.func14 rfl isttr120_2) (istt_c33 e0) (istt_d19 e1 e2 e3 e4 e5 e6 e7 e8)
  · exact istt_sc (snap_ok progOk F (isttH F hm hT isttN) 100 isttP120_3 Tryz.func14 rfl isttr120_3) (istt_c34 e0) (istt_d21 e1 e2 e3 e4 e5 e6 e7 e8)
  · exact istt_sc (snap_ok progOk F (isttH F hm hT isttN) 100 isttP120_4 Tryz.func14 rfl isttr120_4) (istt_c35 e0) (istt_d23 e1 e2 e3 e4 e5 e6 e7 e8)
theorem isttr79 : isSn isttP79 (callN (isttE [isttP34, isttP43] isttI isttG20) 100 10 isttP79.args isttP79.h0) = true := by kernel_rfl
set_option maxRecDepth 100000 in
theorem istts79 {G : Gh} (F : Facts G isttI isttG20 isttNL) (hA : KA G) (hS : KS G) (hm : ¬ G.mono) (hT : HooksOk Tryz.prog G (hkT isT)) : SNOk Tryz.prog G isttP79 := by have _hA := hA; have _hS := hS; exact snap_ok progOk F (isttH F hm hT (List.forall_mem_cons.2 ⟨istts34 ⟨F.bd, F.ge.2.2, F.nl⟩ hA hS hm hT, (List.forall_mem_cons.2 ⟨istts43 ⟨F.bd, F.ge.2.2, F.nl⟩ hA hS hm hT, isttN⟩)⟩)) 100 isttP79 Tryz.func10 rfl isttr79
theorem isttr85 : isSn isttP85 (callN (isttE [] isttI isttG20) 100 10 isttP85.args isttP85.h0) = true := by kernel_rfl
set_option maxRecDepth 100000 in
theorem istts85 {G : Gh} (F : Facts G isttI isttG20 isttNL) (hA : KA G) (hS : KS G) (hm : ¬ G.mono) (hT : HooksOk Tryz.prog G (hkT isT)) : SNOk Tryz.prog G isttP85 := by have _hA := hA; have _hS := hS; exact snap_ok progOk F (isttH F hm hT isttN) 100 isttP85 Tryz.func10 rfl isttr85
theorem isttr102_0 : isttC [] isttG20 13 isttP102_0 := by unfold isttC; kernel_rfl
theorem isttr102_1 : isttC [] isttG20 13 isttP102_1 := by unfold isttC; kernel_rfl
theorem isttr102_2 : isttC [] isttG20 13 isttP102_2 := by unfold isttC; kernel_rfl
theorem isttr102_3 : isttC [] isttG20 13 isttP102_3 := by unfold isttC; kernel_rfl
theorem isttr102_4 : isttC [] isttG20 13 isttP102_4 := by unfold isttC; kernel_rfl
theorem isttr102_5 : isttC [] isttG20 13 isttP102_5 := by unfold isttC; kernel_rfl
theorem isttr102_6 : isttC [] isttG20 13 isttP102_6 := by unfold isttC; kernel_rfl
set_option maxRecDepth 100000 in
theorem istts102 {G : Gh} (F : Facts G isttI isttG20 isttNL) (hA : KA G) (hS : KS G) (hm : ¬ G.mono) (hT : HooksOk Tryz.prog G (hkT isT)) : SNOk Tryz.prog G isttP102 := by
  have _hA := hA; have _hS := hS; rcases hA with ⟨e0, e1, e2⟩ | ⟨e0, e1, e2⟩ | ⟨e0, e1, e2⟩ | ⟨e0, e1, e2⟩ | ⟨e0, e1, e2⟩ | ⟨e0, e1, e2⟩ | ⟨e0, e1, e2⟩
  · exact istt_sc (snap_ok progOk F (isttH F hm hT isttN) 100 isttP102_0 Tryz.func13 rfl isttr102_0) (istt_c24 e0) (istt_d1 e1 e2)
  · exact istt_sc (snap_ok progOk F (isttH F hm hT isttN) 100 isttP102_1 Tryz.func13 rfl isttr102_1) (istt_c25 e0) (istt_d3 e1 e2)
  · exact istt_sc (snap_ok progOk F (isttH F hm hT isttN) 100 isttP102_2 Tryz.func13 rfl isttr102_2) (istt_c26 e0) (istt_d5 e1 e2)
  · exact istt_sc (snap_ok progOk F (isttH F hm hT isttN) 100 isttP102_3 Tryz.func13 rfl isttr102_3) (istt_c27 e0) (istt_d7 e1 e2)
  · exact istt_sc (snap_ok progOk F (isttH F hm hT isttN) 100 isttP102_4 Tryz.func13 rfl isttr102_4) (istt_c28 e0) (istt_d9 e1 e2)
  · exact istt_sc (snap_ok progOk F (isttH F hm hT isttN) 100 isttP102_5 Tryz.func13 rfl isttr102_5) (istt_c29 e0) (istt_d11 e1 e2)
  · exact istt_sc (snap_ok progOk F (isttH F hm hT isttN) 100 isttP102_6 Tryz.func13 rfl isttr102_6) (istt_c30 e0) (istt_d13 e1 e2)
theorem isttr119_0 : isttC [] isttG20 14 isttP119_0 := by unfold isttC; kernel_rfl
theorem isttr119_1 : isttC [] isttG20 14 isttP119_1 := by unfold isttC; kernel_rfl
theorem isttr119_2 : isttC [] isttG20 14 isttP119_2 := by unfold isttC; kernel_rfl
theorem isttr119_3 : isttC [] isttG20 14 isttP119_3 := by unfold isttC; kernel_rfl
theorem isttr119_4 : isttC [] isttG20 14 isttP119_4 := by unfold isttC; kernel_rfl
set_option maxRecDepth 100000 in
theorem istts119 {G : Gh} (F : Facts G isttI isttG20 isttNL) (hA : KA G) (hS : KS G) (hm : ¬ G.mono) (hT : HooksOk Tryz.prog G (hkT isT)) : SNOk Tryz.prog G isttP119 := by
  have _hA := hA; have _hS := hS; rcases hS with ⟨e0, e1, e2, e3, e4, e5, e6, e7, e8⟩ | ⟨e0, e1, e2, e3, e4, e5, e6, e7, e8⟩ | ⟨e0, e1, e2, e3, e4, e5, e6, e7, e8⟩ | ⟨e0, e1, e2, e3, e4, e5, e6, e7, e8⟩ | ⟨e0, e1, e2, e3, e4, e5, e6, e7, e8⟩
  · exact istt_sc (snap_ok progOk F (isttH F hm hT isttN) 100 isttP119_0 Tryz.func14 rfl isttr119_0) (istt_c31 e0) (istt_d15 e1 e2 e3 e4 e5 e6 e7 e8)
  · exact istt_sc (snap_ok progOk F (isttH F hm hT isttN) 100 isttP119_1 Tryz.func14 rfl isttr119_1) (istt_c32 e0) (istt_d17 e1 e2 e3 e4 e5 e6 e7 e8)
  · exact istt_sc (snap_ok progOk F (isttH F hm hT isttN) 100 isttP119_2 Tryz.func14 rfl isttr119_2) (istt_c33 e0) (istt_d19 e1 e2 e3 e4 e5 e6 e7 e8)
  · exact istt_sc (snap_ok progOk F (isttH F hm hT isttN) 100 isttP119_3 Tryz.func14 rfl isttr119_3) (istt_c34 e0) (istt_d21 e1 e2 e3 e4 e5 e6 e7 e8)
  · exact istt_sc (snap_ok progOk F (isttH F hm hT isttN) 100 isttP119_4 Tryz.func14 rfl isttr119_4) (istt_c35 e0) (istt_d23 e1 e2 e3 e4 e5 e6 e7 e8)
end Go.Proofs.YtkhckfpflfkjmaaGreat
