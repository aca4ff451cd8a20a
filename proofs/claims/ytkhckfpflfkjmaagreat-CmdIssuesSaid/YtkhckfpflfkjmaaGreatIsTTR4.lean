/- complinelaw28.CmdIssues: runs, part 4. -/
import Derived.Test.YtkhckfpflfkjmaaGreatIsTTQ
import Derived.Test.YtkhckfpflfkjmaaGreatIsTTR0
namespace Go.Proofs.YtkhckfpflfkjmaaGreat
open Go Go.RowKit Gv Gv.Lt
theorem isttr46_0 : isttC [] isttG11 13 isttP46_0 := by unfold isttC; kernel_rfl
theorem isttr46_1 : isttC [] isttG11 13 isttP46_1 := by unfold isttC; kernel_rfl
theorem isttr46_2 : isttC [] isttG11 13 isttP46_2 := by unfold isttC; kernel_rfl
theorem isttr46_3 : isttC [] isttG11 13 isttP46_3 := by unfold isttC; kernel_rfl
theorem isttr46_4 : isttC [] isttG11 13 isttP46_4 := by unfold isttC; kernel_rfl
theorem isttr46_5 : isttC [] isttG11 13 isttP46_5 := by unfold isttC; kernel_rfl
theorem isttr46_6 : isttC [] isttG11 13 isttP46_6 := by unfold isttC; kernel_rfl
set_option maxRecDepth 100000 in
theorem istts46 {G : Gh} (F : Facts G isttI isttG11 isttNL) (hA : KA G) (hS : KS G) (hm : ¬ G.mono) (hT : HooksOk Tryz.prog G (hkT isT)) : SNOk Tryz.prog G isttP46 := by
  have _hA := hA; have _hS := hS; rcases hA with ⟨e0, e1, e2⟩ | ⟨e0, e1, e2⟩ | ⟨e0, e1, e2⟩ | ⟨e0, e1, e2⟩ | ⟨e0, e1, e2⟩ | ⟨e0, e1, e2⟩ | ⟨e0, e1, e2⟩
  · exact istt_sc (snap_ok progOk F (isttH F hm hT isttN) 100 isttP46_0 Tryz.func13 rfl isttr46_0) (istt_c24 e0) (istt_d1 e1 e2)
  · exact istt_sc (snap_ok progOk F (isttH F hm hT isttN) 100 isttP46_1 Tryz.func13 rfl isttr46_1) (istt_c25 e0) (istt_d3 e1 e2)
  · exact istt_sc (snap_ok progOk F (isttH F hm hT isttN) 100 isttP46_2 Tryz.func13 rfl isttr46_2) (istt_c26 e0) (istt_d5 e1 e2)
  · exact istt_sc (snap_ok progOk F (isttH F hm hT isttN) 100 isttP46_3 Tryz.func13 rfl isttr46_3) (istt_c27 e0) (istt_d7 e1 e2)
  · exact istt_sc (snap_ok progOk F (isttH F hm hT isttN) 100 isttP46_4 Tryz.func13 rfl isttr46_4) (istt_c28 e0) (istt_d9 e1 e2)
  · exact istt_sc (snap_ok progOk F (isttH F hm hT isttN) 100 isttP46_5 Tryz.func13 rfl isttr46_5) (istt_c29 e0) (istt_d11 e1 e2)
  · exact istt_sc (snap_ok progOk F (isttH F hm hT isttN) 100 isttP46_6 Tryz.func13 rfl isttr46_6) (istt_c30 e0) (istt_d13 e1 e2)
theorem isttr66_0 : isttC [] isttG11 14 isttP66_0 := by unfold isttC; kernel_rfl
theorem isttr66_1 : isttC [] isttG11 14 isttP66_1 := by unfold isttC; kernel_rfl
theorem isttr66_2 : isttC [] isttG11 14 isttP66_2 := by unfold isttC; kernel_rfl
theorem isttr66_3 : isttC [] isttG11 14 isttP66_3 := by unfold isttC; kernel_rfl
theorem isttr66_4 : isttC [] isttG11 14 isttP66_4 := by unfold isttC; kernel_rfl
set_option maxRecDepth 100000 in
theorem istts66 {G : Gh} (F : Facts G isttI isttG11 isttNL) (hA : KA G) (hS : KS G) (hm : ¬ G.mono) (hT : HooksOk Tryz.prog G (hkT isT)) : SNOk Tryz.prog G isttP66 := by
  have _hA := hA; have _hS := hS; rcases hS with ⟨e0, e1, e2, e3, e4, e5, e6, e7, e8⟩ | ⟨e0, e1, e2, e3, e4, e5, e6, e7, e8⟩ | ⟨e0, e1, e2, e3, e4, e5, e6, e7, e8⟩ | ⟨e0, e1, e2, e3, e4, e5, e6, e7, e8⟩ | ⟨e0, e1, e2, e3, e4, e5, e6, e7, e8⟩
  · exact istt_sc (snap_ok progOk F (isttH F hm hT isttN) 100 isttP66_0 Tryz.func14 rfl isttr66_0) (istt_c31 e0) (istt_d15 e1 e2 e3 e4 e5 e6 e7 e8)
  · exact istt_sc (snap_ok progOk F (isttH F hm hT isttN) 100 isttP66_1 Tryz.func14 rfl isttr66_1) (istt_c32 e0) (istt_d17 e1 e2 e3 e4 e5 e6 e7 e8)
  · exact istt_sc (snap_ok progOk F (isttH F hm hT isttN) 100 isttP66_2 Tryz.func14 rfl isttr66_2) (istt_c33 e0) (istt_d19 e1 e2 e3 e4 e5 e6 e7 e8)
  · exact istt_sc (snap_ok progOk F (isttH F hm hT isttN) 100 isttP66_3 Tryz.func14 rfl isttr66_3) (istt_c34 e0) (istt_d21 e1 e2 e3 e4 e5 e6 e7 e8)
  · exact istt_sc (snap_ok progOk F (isttH F hm hT isttN) 100 isttP66_4 Tryz.func14 rfl isttr66_4) (istt_c35 e0) (istt_d23 e1 e2 e3 e4 e5 e6 e7 e8)
theorem isttr5 : isSn isttP5 (callN (isttE [isttP1, isttP2] isttI isttG12) 100 10 isttP5.args isttP5.h0) = true := by kernel_rfl
set_option maxRecDepth 100000 in
theorem istts5 {G : Gh} (F : Facts G isttI isttG12 isttNL) (hA : KA G) (hS : KS G) (hm : ¬ G.mono) (hT : HooksOk Tryz.prog G (hkT isT)) : SNOk Tryz.prog G isttP5 := by have _hA := hA; have _hS := hS; exact snap_ok progOk F (isttH F hm hT (List.forall_mem_cons.2 ⟨istts1 ⟨F.bd, trivial, F.nl⟩ hA hS hm hT, (List.forall_mem_cons.2 ⟨istts2 ⟨F.bd, trivial, F.nl⟩ hA hS hm hT, isttN⟩)⟩)) 100 isttP5 Tryz.func10 rfl isttr5
theorem isttr33_0 : isttC [] isttG12 352 isttP33_0 := by unfold isttC; kernel_rfl
theorem isttr33_1 : isttC [] isttG12 352 isttP33_1 := by unfold isttC; kernel_rfl
theorem isttr33_2 : isttC [] isttG12 352 isttP33_2 := by unfold isttC; kernel_rfl
theorem isttr33_3 : isttC [] isttG12 352 isttP33_3 := by unfold isttC; kernel_rfl
theorem isttr33_4 : isttC [] isttG12 352 isttP33_4 := by unfold isttC; kernel_rfl
theorem isttr33_5 : isttC [] isttG12 352 isttP33_5 := by unfold isttC; kernel_rfl
theorem isttr33_6 : isttC [] isttG12 352 isttP33_6 := by unfold isttC; kernel_rfl
set_option maxRecDepth 100000 in
theorem istts33 {G : Gh} (F : Facts G isttI isttG12 isttNL) (hA : KA G) (hS : KS G) (hm : ¬ G.mono) (hT : HooksOk Tryz.prog G (hkT isT)) : SNOk Tryz.prog G isttP33 := by
  have _hA := hA; have _hS := hS; rcases hA with ⟨e0, e1, e2⟩ | ⟨e0, e1, e2⟩ | ⟨e0, e1, e2⟩ | ⟨e0, e1, e2⟩ | ⟨e0, e1, e2⟩ | ⟨e0, e1, e2⟩ | ⟨e0, e1, e2⟩
  · exact istt_sc (snap_ok progOk F (isttH F hm hT isttN) 100 isttP33_0 Tryz.func352 rfl isttr33_0) (istt_c0 e0) (istt_d1 e1 e2)
  · exact istt_sc (snap_ok progOk F (isttH F hm hT isttN) 100 isttP33_1 Tryz.func352 rfl isttr33_1) (istt_c2 e0) (istt_d3 e1 e2)
  · exact istt_sc (snap_ok progOk F (isttH F hm hT isttN) 100 isttP33_2 Tryz.func352 rfl isttr33_2) (istt_c4 e0) (istt_d5 e1 e2)
  · exact istt_sc (snap_ok progOk F (isttH F hm hT isttN) 100 isttP33_3 Tryz.func352 rfl isttr33_3) (istt_c6 e0) (istt_d7 e1 e2)
  · exact istt_sc (snap_ok progOk F (isttH F hm hT isttN) 100 isttP33_4 Tryz.func352 rfl isttr33_4) (istt_c8 e0) (istt_d9 e1 e2)
  · exact istt_sc (snap_ok progOk F (isttH F hm hT isttN) 100 isttP33_5 Tryz.func352 rfl isttr33_5) (istt_c10 e0) (istt_d11 e1 e2)
  · exact istt_sc (snap_ok progOk F (isttH F hm hT isttN) 100 isttP33_6 Tryz.func352 rfl isttr33_6) (istt_c12 e0) (istt_d13 e1 e2)
theorem isttr36_0 : isttC [] isttG12 95 isttP36_0 := by unfold isttC; kernel_rfl
theorem isttr36_1 : isttC [] isttG12 95 isttP36_1 := by unfold isttC; kernel_rfl
theorem isttr36_2 : isttC [] isttG12 95 isttP36_2 := by unfold isttC; kernel_rfl
theorem isttr36_3 : isttC [] isttG12 95 isttP36_3 := by unfold isttC; kernel_rfl
theorem isttr36_4 : isttC [] isttG12 95 isttP36_4 := by unfold isttC; kernel_rfl
set_option maxRecDepth 100000 in
theorem istts36 {G : Gh} (F : Facts G isttI isttG12 isttNL) (hA : KA G) (hS : KS G) (hm : ¬ G.mono) (hT : HooksOk Tryz.prog G (hkT isT)) : SNOk Tryz.prog G isttP36 := by
  have _hA := hA; have _hS := hS; rcases hS with ⟨e0, e1, e2, e3, e4, e5, e6, e7, e8⟩ | ⟨e0, e1, e2, e3, e4, e5, e6, e7, e8⟩ | ⟨e0, e1, e2, e3, e4, e5, e6, e7, e8⟩ | ⟨e0, e1, e2, e3, e4, e5, e6, e7, e8⟩ | ⟨e0, e1, e2, e3, e4, e5, e6, e7, e8⟩
  · exact istt_sc (snap_ok progOk F (isttH F hm hT isttN) 100 isttP36_0 Tryz.func95 rfl isttr36_0) (istt_c14 e0) (istt_d15 e1 e2 e3 e4 e5 e6 e7 e8)
  · exact istt_sc (snap_ok progOk F (isttH F hm hT isttN) 100 isttP36_1 Tryz.func95 rfl isttr36_1) (istt_c16 e0) (istt_d17 e1 e2 e3 e4 e5 e6 e7 e8)
  · exact istt_sc (snap_ok progOk F (isttH F hm hT isttN) 100 isttP36_2 Tryz.func95 rfl isttr36_2) (istt_c18 e0) (istt_d19 e1 e2 e3 e4 e5 e6 e7 e8)
  · exact istt_sc (snap_ok progOk F (isttH F hm hT isttN) 100 isttP36_3 Tryz.func95 rfl isttr36_3) (istt_c20 e0) (istt_d21 e1 e2 e3 e4 e5 e6 e7 e8)
  · exact istt_sc (snap_ok progOk F (isttH F hm hT isttN) 100 isttP36_4 Tryz.func95 rfl isttr36_4) (istt_c22 e0) (istt_d23 e1 e2 e3 e4 e5 e6 e7 e8)
theorem isttr48 : isSn isttP48 (callN (isttE [isttP33, isttP36] isttI isttG13) 100 10 isttP48.args isttP48.h0) = true := by kernel_rfl
set_option maxRecDepth 100000 in
theorem istts48 {G : Gh} (F : Facts G isttI isttG13 isttNL) (hA : KA G) (hS : KS G) (hm : ¬ G.mono) (hT : HooksOk Tryz.prog G (hkT isT)) : SNOk Tryz.prog G isttP48 := by have _hA := hA; have _hS := hS; exact snap_ok progOk F (isttH F hm hT (List.forall_mem_cons.2 ⟨istts33 ⟨F.bd, F.ge.2, F.nl⟩ hA hS hm hT, (List.forall_mem_cons.2 ⟨istts36 ⟨F.bd, F.ge.2, F.nl⟩ hA hS hm hT, isttN⟩)⟩)) 100 isttP48 Tryz.func10 rfl isttr48
theorem isttr69 : isSn isttP69 (callN (isttE [] isttI isttG13) 100 10 isttP69.args isttP69.h0) = true := by kernel_rfl
set_option maxRecDepth 100000 in
theorem istts69 {G : Gh} (F : Facts G isttI isttG13 isttNL) (hA : KA G) (hS : KS G) (hm : ¬ G.mono) (hT : HooksOk Tryz.prog G (hkT isT)) : SNOk Tryz.prog G isttP69 := by have _hA := hA; have _hS := hS; exact snap_ok progOk F (isttH F hm hT isttN) 100 isttP69 Tryz.func10 rfl isttr69
theorem isttr93_0 : isttC [] isttG13 13 isttP93_0 := by unfold isttC; kernel_rfl
theorem isttr93_1 : isttC [] isttG13 13 isttP93_1 := by unfold isttC; kernel_rfl
theorem isttr93_2 : isttC [] isttG13 13 isttP93_2 := by unfold isttC; kernel_rfl
theorem isttr93_3 : isttC [] isttG13 13 isttP93_3 := by unfold isttC; kernel_rfl
theorem isttr93_4 : isttC [] isttG13 13 isttP93_4 := by unfold isttC; kernel_rfl
theorem isttr93_5 : isttC [] isttG13 13 isttP93_5 := by unfold isttC; kernel_rfl
theorem isttr93_6 : isttC [] isttG13 13 isttP93_6 := by unfold isttC; kernel_rfl
set_option maxRecDepth 100000 in
theorem istts93 {G : Gh} (F : Facts G isttI isttG13 isttNL) (hA : KA G) (hS : KS G) (hm : ¬ G.mono) (hT : HooksOk Tryz.prog G (hkT isT)) : SNOk Tryz.prog G isttP93 := by
  have _hA := hA; have _hS := hS; rcases hA with ⟨e0, e1, e2⟩ | ⟨e0, e1, e2⟩ | ⟨e0, e1, e2⟩ | ⟨e0, e1, e2⟩ | ⟨e0, e1, e2⟩ | ⟨e0, e1, e2⟩ | ⟨e0, e1, e2⟩
  · exact istt_sc (snap_ok progOk F (isttH F hm hT isttN) 100 isttP93_0 Tryz.func13 rfl isttr93_0) (istt_c24 e0) (istt_d1 e1 e2)
  · exact istt_sc (snap_ok progOk F (isttH F hm hT isttN) 100 isttP93_1 Tryz.func13 rfl isttr93_1) (istt_c25 e0) (istt_d3 e1 e2)
  · exact istt_sc (snap_ok progOk F (isttH F hm hT isttN) 100 isttP93_2 Tryz.func13 rfl isttr93_2) (istt_c26 e0) (istt_d5 e1 e2)
  · exact istt_sc (snap_ok progOk F (isttH F hm hT isttN) 100 isttP93_3 Tryz.func13 rfl isttr93_3) (istt_c27 e0) (istt_d7 e1 e2)
  · exact istt_sc (snap_ok progOk F (isttH F hm hT isttN) 100 isttP93_4 Tryz.func13 rfl isttr93_4) (istt_c28 e0) (istt_d9 e1 e2)
  · exact istt_sc (snap_ok progOk F (isttH F hm hT isttN) 100 isttP93_5 Tryz.func13 rfl isttr93_5) (istt_c29 e0) (istt_d11 e1 e2)
  · exact istt_sc (snap_ok progOk F (isttH F hm hT isttN) 100 isttP93_6 Tryz.func13 rfl isttr93_6) (istt_c30 e0) (istt_d13 e1 e2)
theorem isttr111_0 : isttC [] isttG13 14 isttP111_0 := by unfold isttC; kernel_rfl
theorem isttr111_1 : isttC [] isttG13 14 isttP111_1 := by unfold isttC; kernel_rfl
theorem isttr111_2 : isttC [] isttG13 14 isttP111_2 := by unfold isttC; kernel_rfl
theorem isttr111_3 : isttC [] isttG13 14 isttP111_3 := by unfold isttC; kernel_rfl
theorem isttr111_4 : isttC [] isttG13 14 isttP111_4 := by unfold isttC; kernel_rfl
set_option maxRecDepth 100000 in
theorem istts111 {G : Gh} (F : Facts G isttI isttG13 isttNL) (hA : KA G) (hS : KS G) (hm : ¬ G.mono) (hT : HooksOk Tryz.prog G (hkT isT)) : SNOk Tryz.prog G isttP111 := by
  have _hA := hA; have _hS := hS; rcases hS with ⟨e0, e1, e2, e3, e4, e5, e6, e7, e8⟩ | ⟨e0, e1, e2, e3, e4, e5, e6, e7, e8⟩ | ⟨e0, e1, e2, e3, e4, e5, e6, e7, e8⟩ | ⟨e0, e1, e2, e3, e4, e5, e6, e7, e8⟩ | ⟨e0, e1, e2, e3, e4, e5, e6, e7, e8⟩
  · exact istt_sc (snap_ok progOk F (isttH F hm hT isttN) 100 isttP111_0 Tryz.func14 rfl isttr111_0) (istt_c31 e0) (istt_d15 e1 e2 e3 e4 e5 e6 e7 e8)
  · exact istt_sc (snap_ok progOk F (isttH F hm hT isttN) 100 isttP111_1 Tryz.func14 rfl isttr111_1) (istt_c32 e0) (istt_d17 e1 e2 e3 e4 e5 e6 e7 e8)
  · exact istt_sc (snap_ok progOk F (isttH F hm hT isttN) 100 isttP111_2 Tryz.func14 rfl isttr111_2) (istt_c33 e0) (istt_d19 e1 e2 e3 e4 e5 e6 e7 e8)
  · exact istt_sc (snap_ok progOk F (isttH F hm hT isttN) 100 isttP111_3 Tryz.func14 rfl isttr111_3) (istt_c34 e0) (istt_d21 e1 e2 e3 e4 e5 e6 e7 e8)
  · exact istt_sc (snap_ok progOk F (isttH F hm hT isttN) 100 isttP111_4 Tryz.func14 rfl isttr111_4) (istt_c35 e0) (istt_d23 e1 e2 e3 e4 e5 e6 e7 e8)
theorem isttr49 : isSn isttP49 (callN (isttE [isttP33, isttP36] isttI isttG14) 100 10 isttP49.args isttP49.h0) = true := by kernel_rfl
set_option maxRecDepth 100000 in
theorem istts49 {G : Gh} (F : Facts G isttI isttG14 isttNL) (hA : KA G) (hS : KS G) (hm : ¬ G.mono) (hT : HooksOk Tryz.prog G (hkT isT)) : SNOk Tryz.prog G isttP49 := by have _hA := hA; have _hS := hS; exact snap_ok progOk F (isttH F hm hT (List.forall_mem_cons.2 ⟨istts33 ⟨F.bd, F.ge.2.2, F.nl⟩ hA hS hm hT, (List.forall_mem_cons.2 ⟨istts36 ⟨F.bd, F.ge.2.2, F.nl⟩ hA hS hm hT, isttN⟩)⟩)) 100 isttP49 Tryz.func10 rfl isttr49
theorem isttr75 : isSn isttP75 (callN (isttE [] isttI isttG14) 100 10 isttP75.args isttP75.h0) = true := by kernel_rfl
set_option maxRecDepth 100000 in
theorem istts75 {G : Gh} (F : Facts G isttI isttG14 isttNL) (hA : KA G) (hS : KS G) (hm : ¬ G.mono) (hT : HooksOk Tryz.prog G (hkT isT)) : SNOk Tryz.prog G isttP75 := by have _hA := hA; have _hS := hS; exact snap_ok progOk F (isttH F hm hT isttN) 100 isttP75 Tryz.func10 rfl isttr75
theorem isttr98_0 : isttC [] isttG14 13 isttP98_0 := by unfold isttC; kernel_rfl
theorem isttr98_1 : isttC [] isttG14 13 isttP98_1 := by unfold isttC; kernel_rfl
theorem isttr98_2 : isttC [] isttG14 13 isttP98_2 := by unfold isttC; kernel_rfl
theorem isttr98_3 : isttC [] isttG14 13 isttP98_3 := by unfold isttC; kernel_rfl
theorem isttr98_4 : isttC [] isttG14 13 isttP98_4 := by unfold isttC; kernel_rfl
theorem isttr98_5 : isttC [] isttG14 13 isttP98_5 := by unfold isttC; kernel_rfl
theorem isttr98_6 : isttC [] isttG14 13 isttP98_6 := by unfold isttC; kernel_rfl
set_option maxRecDepth 100000 in
theorem istts98 {G : Gh} (F : Facts G isttI isttG14 isttNL) (hA : KA G) (hS : KS G) (hm : ¬ G.mono) (hT : HooksOk Tryz.prog G (hkT isT)) : SNOk Tryz.prog G isttP98 := by
  have _hA := hA; have _hS := hS; rcases hA with ⟨e0, e1, e2⟩ | ⟨e0, e1, e2⟩ | ⟨e0, e1, e2⟩ | ⟨e0, e1, e2⟩ | ⟨e0, e1, e2⟩ | ⟨e0, e1, e2⟩ | ⟨e0, e1, e2⟩
  · exact istt_sc (snap_ok progOk F (isttH F hm hT isttN) 100 isttP98_0 Tryz.func13 rfl isttr98_0) (istt_c24 e0) (istt_d1 e1 e2)
  · exact istt_sc (snap_ok progOk F (isttH F hm hT isttN) 100 isttP98_1 Tryz.func13 rfl isttr98_1) (istt_c25 e0) (istt_d3 e1 e2)
  · exact istt_sc (snap_ok progOk F (isttH F hm hT isttN) 100 isttP98_2 Tryz.func13 rfl isttr98_2) (istt_c26 e0) (istt_d5 e1 e2)
  · exact istt_sc (snap_ok progOk F (isttH F hm hT isttN) 100 isttP98_3 Tryz.func13 rfl isttr98_3) (istt_c27 e0) (istt_d7 e1 e2)
  · exact istt_sc (snap_ok progOk F (isttH F hm hT isttN) 100 isttP98_4 Tryz.func13 rfl isttr98_4) (istt_c28 e0) (istt_d9 e1 e2)
  · exact istt_sc (snap_ok progOk F (isttH F hm hT isttN) 100 isttP98_5 Tryz.func13 rfl isttr98_5) (istt_c29 e0) (istt_d11 e1 e2)
  · exact istt_sc (snap_ok progOk F (isttH F hm hT isttN) 100 isttP98_6 Tryz.func13 rfl isttr98_6) (istt_c30 e0) (istt_d13 e1 e2)
end Go.Proofs.YtkhckfpflfkjmaaGreat
