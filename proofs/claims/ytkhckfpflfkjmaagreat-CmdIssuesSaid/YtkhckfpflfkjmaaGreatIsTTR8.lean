/- complinelaw28.CmdIssues: runs, part 8. -/
import Derived.Test.YtkhckfpflfkjmaaGreatIsTTQ
import Derived.Test.YtkhckfpflfkjmaaGreatIsTTR0
import Derived.Test.YtkhckfpflfkjmaaGreatIsTTR6
namespace Go.Proofs.YtkhckfpflfkjmaaGreat
open Go Go.RowKit Gv Gv.Lt
theorem isttr81 : isSn isttP81 (callN (isttE [isttP34, isttP43] isttI isttG24) 100 10 isttP81.args isttP81.h0) = true := by kernel_rfl
set_option maxRecDepth 100000 in
theorem istts81 {G : Gh} (F : Facts G isttI isttG24 isttNL) (hA : KA G) (hS : KS G) (hm : ¬ G.mono) (hT : HooksOk Tryz.prog G (hkT isT)) : SNOk Tryz.prog G isttP81 := by have _hA := hA; have _hS := hS; exact snap_ok progOk F (isttH F hm hT (List.forall_mem_cons.2 ⟨istts34 ⟨F.bd, F.ge.2.2.2.2.2, F.nl⟩ hA hS hm hT, (List.forall_mem_cons.2 ⟨istts43 ⟨F.bd, F.ge.2.2.2.2.2, F.nl⟩ hA hS hm hT, isttN⟩)⟩)) 100 isttP81 Tryz.func10 rfl isttr81
theorem isttr88 : isSn isttP88 (callN (isttE [] isttI isttG24) 100 10 isttP88.args isttP88.h0) = true := by kernel_rfl
set_option maxRecDepth 100000 in
theorem istts88 {G : Gh} (F : Facts G isttI isttG24 isttNL) (hA : KA G) (hS : KS G) (hm : ¬ G.mono) (hT : HooksOk Tryz.prog G (hkT isT)) : SNOk Tryz.prog G isttP88 := by have _hA := hA; have _hS := hS; exact snap_ok progOk F (isttH F hm hT isttN) 100 isttP88 Tryz.func10 rfl isttr88
theorem isttr105_0 : isttC [] isttG24 13 isttP105_0 := by unfold isttC; kernel_rfl
theorem isttr105_1 : isttC [] isttG24 13 isttP105_1 := by unfold isttC; kernel_rfl
theorem isttr105_2 : isttC [] isttG24 13 isttP105_2 := by unfold isttC; kernel_rfl
theorem isttr105_3 : isttC [] isttG24 13 isttP105_3 := by unfold isttC; kernel_rfl
theorem isttr105_4 : isttC [] isttG24 13 isttP105_4 := by unfold isttC; kernel_rfl
theorem isttr105_5 : isttC [] isttG24 13 isttP105_5 := by unfold isttC; kernel_rfl
theorem isttr105_6 : isttC [] isttG24 13 isttP105_6 := by unfold isttC; kernel_rfl
set_option maxRecDepth 100000 in
theorem istts105 {G : Gh} (F : Facts G isttI isttG24 isttNL) (hA : KA G) (hS : KS G) (hm : ¬ G.mono) (hT : HooksOk Tryz.prog G (hkT isT)) : SNOk Tryz.prog G isttP105 := by
  have _hA := hA; have _hS := hS; rcases hA with ⟨e0, e1, e2⟩ | ⟨e0, e1, e2⟩ | ⟨e0, e1, e2⟩ | ⟨e0, e1, e2⟩ | ⟨e0, e1, e2⟩ | ⟨e0, e1, e2⟩ | ⟨e0, e1, e2⟩
  · exact istt_sc (snap_ok progOk F (isttH F hm hT isttN) 100 isttP105_0 Tryz.func13 rfl isttr105_0) (istt_c24 e0) (istt_d1 e1 e2)
  · exact istt_sc (snap_ok progOk F (isttH F hm hT isttN) 100 isttP105_1 Tryz.func13 rfl isttr105_1) (istt_c25 e0) (istt_d3 e1 e2)
  · exact istt_sc (snap_ok progOk F (isttH F hm hT isttN) 100 isttP105_2 Tryz.func13 rfl isttr105_2) (istt_c26 e0) (istt_d5 e1 e2)
  · exact istt_sc (snap_ok progOk F (isttH F hm hT isttN) 100 isttP105_3 Tryz.func13 rfl isttr105_3) (istt_c27 e0) (istt_d7 e1 e2)
  · exact istt_sc (snap_ok progOk F (isttH F hm hT isttN) 100 isttP105_4 Tryz.func13 rfl isttr105_4) (istt_c28 e0) (istt_d9 e1 e2)
  · exact istt_sc (snap_ok progOk F (isttH F hm hT isttN) 100 isttP105_5 Tryz.func13 rfl isttr105_5) (istt_c29 e0) (istt_d11 e1 e2)
  · exact istt_sc (snap_ok progOk F (isttH F hm hT isttN) 100 isttP105_6 Tryz.func13 rfl isttr105_6) (istt_c30 e0) (istt_d13 e1 e2)
theorem isttr122_0 : isttC [] isttG24 14 isttP122_0 := by unfold isttC; kernel_rfl
theorem isttr122_1 : isttC [] isttG24 14 isttP122_1 := by unfold isttC; kernel_rfl
theorem isttr122_2 : isttC [] isttG24 14 isttP122_2 := by unfold isttC; kernel_rfl
theorem isttr122_3 : isttC [] isttG24 14 isttP122_3 := by unfold isttC; kernel_rfl
theorem isttr122_4 : isttC [] isttG24 14 isttP122_4 := by unfold isttC; kernel_rfl
set_option maxRecDepth 100000 in
theorem istts122 {G : Gh} (F : Facts G isttI isttG24 isttNL) (hA : KA G) (hS : KS G) (hm : ¬ G.mono) (hT : HooksOk Tryz.prog G (hkT isT)) : SNOk Tryz.prog G isttP122 := by
  have _hA := hA; have _hS := hS; rcases hS with ⟨e0, e1, e2, e3, e4, e5, e6, e7, e8⟩ | ⟨e0, e1, e2, e3, e4, e5, e6, e7, e8⟩ | ⟨e0, e1, e2, e3, e4, e5, e6, e7, e8⟩ | ⟨e0, e1, e2, e3, e4, e5, e6, e7, e8⟩ | ⟨e0, e1, e2, e3, e4, e5, e6, e7, e8⟩
  · exact istt_sc (snap_ok progOk F (isttH F hm hT isttN) 100 isttP122_0 Tryz.func14 rfl isttr122_0) (istt_c31 e0) (istt_d15 e1 e2 e3 e4 e5 e6 e7 e8)
  · exact istt_sc (snap_ok progOk F (isttH F hm hT isttN) 100 isttP122_1 Tryz.func14 rfl isttr122_1) (istt_c32 e0) (istt_d17 e1 e2 e3 e4 e5 e6 e7 e8)
  · exact istt_sc (snap_ok progOk F (isttH F hm hT isttN) 100 isttP122_2 Tryz.func14 rfl isttr122_2) (istt_c33 e0) (istt_d19 e1 e2 e3 e4 e5 e6 e7 e8)
  · exact istt_sc (snap_ok progOk F (isttH F hm hT isttN) 100 isttP122_3 Tryz.func14 rfl isttr122_3) (istt_c34 e0) (istt_d21 e1 e2 e3 e4 e5 e6 e7 e8)
  · exact istt_sc (snap_ok progOk F (isttH F hm hT isttN) 100 isttP122_4 Tryz.func14 rfl isttr122_4) (istt_c35 e0) (istt_d23 e1 e2 e3 e4 e5 e6 e7 e8)
theorem isttr83 : isSn isttP83 (callN (isttE [isttP34, isttP43] isttI isttG25) 100 10 isttP83.args isttP83.h0) = true := by kernel_rfl
set_option maxRecDepth 100000 in
theorem istts83 {G : Gh} (F : Facts G isttI isttG25 isttNL) (hA : KA G) (hS : KS G) (hm : ¬ G.mono) (hT : HooksOk Tryz.prog G (hkT isT)) : SNOk Tryz.prog G isttP83 := by have _hA := hA; have _hS := hS; exact snap_ok progOk F (isttH F hm hT (List.forall_mem_cons.2 ⟨istts34 ⟨F.bd, F.ge.2.2.2.2.2.2.2, F.nl⟩ hA hS hm hT, (List.forall_mem_cons.2 ⟨istts43 ⟨F.bd, F.ge.2.2.2.2.2.2.2, F.nl⟩ hA hS hm hT, isttN⟩)⟩)) 100 isttP83 Tryz.func10 rfl isttr83
theorem isttr90 : isSn isttP90 (callN (isttE [] isttI isttG25) 100 10 isttP90.args isttP90.h0) = true := by kernel_rfl
set_option maxRecDepth 100000 in
theorem istts90 {G : Gh} (F : Facts G isttI isttG25 isttNL) (hA : KA G) (hS : KS G) (hm : ¬ G.mono) (hT : HooksOk Tryz.prog G (hkT isT)) : SNOk Tryz.prog G isttP90 := by have _hA := hA; have _hS := hS; exact snap_ok progOk F (isttH F hm hT isttN) 100 isttP90 Tryz.func10 rfl isttr90
theorem isttr107_0 : isttC [] isttG25 13 isttP107_0 := by unfold isttC; kernel_rfl
theorem isttr107_1 : isttC [] isttG25 13 isttP107_1 := by unfold isttC; kernel_rfl
theorem isttr107_2 : isttC [] isttG25 13 isttP107_2 := by unfold isttC; kernel_rfl
theorem isttr107_3 : isttC [] isttG25 13 isttP107_3 := by unfold isttC; kernel_rfl
theorem isttr107_4 : isttC [] isttG25 13 isttP107_4 := by unfold isttC; kernel_rfl
theorem isttr107_5 : isttC [] isttG25 13 isttP107_5 := by unfold isttC; kernel_rfl
theorem isttr107_6 : isttC [] isttG25 13 isttP107_6 := by unfold isttC; kernel_rfl
set_option maxRecDepth 100000 in
theorem istts107 {G : Gh} (F : Facts G isttI isttG25 isttNL) (hA : KA G) (hS : KS G) (hm : ¬ G.mono) (hT : HooksOk Tryz.prog G (hkT isT)) : SNOk Tryz.prog G isttP107 := by
  have _hA := hA; have _hS := hS; rcases hA with ⟨e0, e1, e2⟩ | ⟨e0, e1, e2⟩ | ⟨e0, e1, e2⟩ | ⟨e0, e1, e2⟩ | ⟨e0, e1, e2⟩ | ⟨e0, e1, e2⟩ | ⟨e0, e1, e2⟩
  · exact istt_sc (snap_ok progOk F (isttH F hm hT isttN) 100 isttP107_0 Tryz.func13 rfl isttr107_0) (istt_c24 e0) (istt_d1 e1 e2)
  · exact istt_sc (snap_ok progOk F (isttH F hm hT isttN) 100 isttP107_1 Tryz.func13 rfl isttr107_1) (istt_c25 e0) (istt_d3 e1 e2)
  · exact istt_sc (snap_ok progOk F (isttH F hm hT isttN) 100 isttP107_2 Tryz.func13 rfl isttr107_2) (istt_c26 e0) (istt_d5 e1 e2)
  · exact istt_sc (snap_ok progOk F (isttH F hm hT isttN) 100 isttP107_3 Tryz.func13 rfl isttr107_3) (istt_c27 e0) (istt_d7 e1 e2)
  · exact istt_sc (snap_ok progOk F (isttH F hm hT isttN) 100 isttP107_4 Tryz.func13 rfl isttr107_4) (istt_c28 e0) (istt_d9 e1 e2)
  · exact istt_sc (snap_ok progOk F (isttH F hm hT isttN) 100 isttP107_5 Tryz.func13 rfl isttr107_5) (istt_c29 e0) (istt_d11 e1 e2)
  · exact istt_sc (snap_ok progOk F (isttH F hm hT isttN) 100 isttP107_6 Tryz.func13 rfl isttr107_6) (istt_c30 e0) (istt_d13 e1 e2)
theorem isttr123_0 : isttC [] isttG25 14 isttP123_0 := by unfold isttC; kernel_rfl
theorem isttr123_1 : isttC [] isttG25 14 isttP123_1 := by unfold isttC; kernel_rfl
theorem isttr123_2 : isttC [] isttG25 14 isttP123_2 := by unfold isttC; kernel_rfl
theorem isttr123_3 : isttC [] isttG25 14 isttP123_3 := by unfold isttC; kernel_rfl
theorem isttr123_4 : isttC [] isttG25 14 isttP123_4 := by unfold isttC; kernel_rfl
set_option maxRecDepth 100000 in
theorem istts123 {G : Gh} (F : Facts G isttI isttG25 isttNL) (hA : KA G) (hS : KS G) (hm : ¬ G.mono) (hT : HooksOk Tryz.prog G (hkT isT)) : SNOk Tryz.prog G isttP123 := by
  have _hA := hA; have _hS := hS; rcases hS with ⟨e0, e1, e2, e3, e4, e5, e6, e7, e8⟩ | ⟨e0, e1, e2, e3, e4, e5, e6, e7, e8⟩ | ⟨e0, e1, e2, e3, e4, e5, e6, e7, e8⟩ | ⟨e0, e1, e2, e3, e4, e5, e6, e7, e8⟩ | ⟨e0, e1, e2, e3, e4, e5, e6, e7, e8⟩
  · exact istt_sc (snap_ok progOk F (isttH F hm hT isttN) 100 isttP123_0 Tryz.func14 rfl isttr123_0) (istt_c31 e0) (istt_d15 e1 e2 e3 e4 e5 e6 e7 e8)
  · exact istt_sc (snap_ok progOk F (isttH F hm hT isttN) 100 isttP123_1 Tryz.func14 rfl isttr123_1) (istt_c32 e0) (istt_d17 e1 e2 e3 e4 e5 e6 e7 e8)
  · exact istt_sc (snap_ok progOk F (isttH F hm hT isttN) 100 isttP123_2 Tryz.func14 rfl isttr123_2) (istt_c33 e0) (istt_d19 e1 e2 e3 e4 e5 e6 e7 e8)
  · exact istt_sc (snap_ok progOk F (isttH F hm hT isttN) 100 isttP123_3 Tryz.func14 rfl isttr123_3) (istt_c34 e0) (istt_d21 e1 e2 e3 e4 e5 e6 e7 e8)
  · exact istt_sc (snap_ok progOk F (isttH F hm hT isttN) 100 isttP123_4 Tryz.func14 rfl isttr123_4) (istt_c35 e0) (istt_d23 e1 e2 e3 e4 e5 e6 e7 e8)
theorem isttr7 : isSn isttP7 (callN (isttE [isttP1, isttP2] isttI isttG26) 100 10 isttP7.args isttP7.h0) = true := by kernel_rfl
set_option maxRecDepth 100000 in
theorem istts7 {G : Gh} (F : Facts G isttI isttG26 isttNL) (hA : KA G) (hS : KS G) (hm : ¬ G.mono) (hT : HooksOk Tryz.prog G (hkT isT)) : SNOk Tryz.prog G isttP7 := by have _hA := hA; have _hS := hS; exact snap_ok progOk F (isttH F hm hT (List.forall_mem_cons.2 ⟨istts1 ⟨F.bd, trivial, F.nl⟩ hA hS hm hT, (List.forall_mem_cons.2 ⟨istts2 ⟨F.bd, trivial, F.nl⟩ hA hS hm hT, isttN⟩)⟩)) 100 isttP7 Tryz.func10 rfl isttr7
theorem isttr27_0 : isttC [] isttG26 352 isttP27_0 := by unfold isttC; kernel_rfl
theorem isttr27_1 : isttC [] isttG26 352 isttP27_1 := by unfold isttC; kernel_rfl
theorem isttr27_2 : isttC [] isttG26 352 isttP27_2 := by unfold isttC; kernel_rfl
theorem isttr27_3 : isttC [] isttG26 352 isttP27_3 := by unfold isttC; kernel_rfl
theorem isttr27_4 : isttC [] isttG26 352 isttP27_4 := by unfold isttC; kernel_rfl
theorem isttr27_5 : isttC [] isttG26 352 isttP27_5 := by unfold isttC; kernel_rfl
theorem isttr27_6 : isttC [] isttG26 352 isttP27_6 := by unfold isttC; kernel_rfl
set_option maxRecDepth 100000 in
theorem istts27 {G : Gh} (F : Facts G isttI isttG26 isttNL) (hA : KA G) (hS : KS G) (hm : ¬ G.mono) (hT : HooksOk Tryz.prog G (hkT isT)) : SNOk Tryz.prog G isttP27 := by
  have _hA := hA; have _hS := hS; rcases hA with ⟨e0, e1, e2⟩ | ⟨e0, e1, e2⟩ | ⟨e0, e1, e2⟩ | ⟨e0, e1, e2⟩ | ⟨e0, e1, e2⟩ | ⟨e0, e1, e2⟩ | ⟨e0, e1, e2⟩
  · exact istt_sc (snap_ok progOk F (isttH F hm hT isttN) 100 isttP27_0 Tryz.func352 rfl isttr27_0) (istt_c0 e0) (istt_d1 e1 e2)
  · exact istt_sc (snap_ok progOk F (isttH F hm hT isttN) 100 isttP27_1 Tryz.func352 rfl isttr27_1) (istt_c2 e0) (istt_d3 e1 e2)
  · exact istt_sc (snap_ok progOk F (isttH F hm hT isttN) 100 isttP27_2 Tryz.func352 rfl isttr27_2) (istt_c4 e0) (istt_d5 e1 e2)
  · exact istt_sc (snap_ok progOk F (isttH F hm hT isttN) 100 isttP27_3 Tryz.func352 rfl isttr27_3) (istt_c6 e0) (istt_d7 e1 e2)
  · exact istt_sc (snap_ok progOk F (isttH F hm hT isttN) 100 isttP27_4 Tryz.func352 rfl isttr27_4) (istt_c8 e0) (istt_d9 e1 e2)
  · exact istt_sc (snap_ok progOk F (isttH F hm hT isttN) 100 isttP27_5 Tryz.func352 rfl isttr27_5) (istt_c10 e0) (istt_d11 e1 e2)
  · exact istt_sc (snap_ok progOk F (isttH F hm hT isttN) 100 isttP27_6 Tryz.func352 rfl isttr27_6) (istt_c12 e0) (istt_d13 e1 e2)
theorem isttr35_0 : isttC [] isttG26 95 isttP35_0 := by unfold isttC; kernel_rfl
theorem isttr35_1 : isttC [] isttG26 95 isttP35_1 := by unfold isttC; kernel_rfl
theorem isttr35_2 : isttC [] isttG26 95 isttP35_2 := by unfold isttC; kernel_rfl
theorem isttr35_3 : isttC [] isttG26 95 isttP35_3 := by unfold isttC; kernel_rfl
theorem isttr35_4 : isttC [] isttG26 95 isttP35_4 := by unfold isttC; kernel_rfl
set_option maxRecDepth 100000 in
theorem istts35 {G : Gh} (F : Facts G isttI isttG26 isttNL) (hA : KA G) (hS : KS G) (hm : ¬ G.mono) (hT : HooksOk Tryz.prog G (hkT isT)) : SNOk Tryz.prog G isttP35 := by
  have _hA := hA; have _hS := hS; rcases hS with ⟨e0, e1, e2, e3, e4, e5, e6, e7, e8⟩ | ⟨e0, e1, e2, e3, e4, e5, e6, e7, e8⟩ | ⟨e0, e1, e2, e3, e4, e5, e6, e7, e8⟩ | ⟨e0, e1, e2, e3, e4, e5, e6, e7, e8⟩ | ⟨e0, e1, e2, e3, e4, e5, e6, e7, e8⟩
  · exact istt_sc (snap_ok progOk F (isttH F hm hT isttN) 100 isttP35_0 Tryz.func95 rfl isttr35_0) (istt_c14 e0) (istt_d15 e1 e2 e3 e4 e5 e6 e7 e8)
  · exact istt_sc (snap_ok progOk F (isttH F hm hT isttN) 100 isttP35_1 Tryz.func95 rfl isttr35_1) (istt_c16 e0) (istt_d17 e1 e2 e3 e4 e5 e6 e7 e8)
  · exact istt_sc (snap_ok progOk F (isttH F hm hT isttN) 100 isttP35_2 Tryz.func95 rfl isttr35_2) (istt_c18 e0) (istt_d19 e1 e2 e3 e4 e5 e6 e7 e8)
  · exact istt_sc (snap_ok progOk F (isttH F hm hT isttN) 100 isttP35_3 Tryz.func95 rfl isttr35_3) (istt_c20 e0) (istt_d21 e1 e2 e3 e4 e5 e6 e7 e8)
  · exact istt_sc (snap_ok progOk F (isttH F hm hT isttN) 100 isttP35_4 Tryz.func95 rfl isttr35_4) (istt_c22 e0) (istt_d23 e1 e2 e3 e4 e5 e6 e7 e8)
theorem isttr53 : isSn isttP53 (callN (isttE [isttP27, isttP35] isttI isttG27) 100 10 isttP53.args isttP53.h0) = true := by kernel_rfl
set_option maxRecDepth 100000 in
theorem istts53 {G : Gh} (F : Facts G isttI isttG27 isttNL) (hA : KA G) (hS : KS G) (hm : ¬ G.mono) (hT : HooksOk Tryz.prog G (hkT isT)) : SNOk Tryz.prog G isttP53 := by have _hA := hA; have _hS := hS; exact snap_ok progOk F (isttH F hm hT (List.forall_mem_cons.2 ⟨istts27 ⟨F.bd, F.ge.2, F.nl⟩ hA hS hm hT, (List.forall_mem_cons.2 ⟨istts35 ⟨F.bd, F.ge.2, F.nl⟩ hA hS hm hT, isttN⟩)⟩)) 100 isttP53 Tryz.func10 rfl isttr53
end Go.Proofs.YtkhckfpflfkjmaaGreat
