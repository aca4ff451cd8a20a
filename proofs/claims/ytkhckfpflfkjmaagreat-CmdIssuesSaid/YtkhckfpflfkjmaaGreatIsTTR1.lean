/- complinelaw28.CmdIssues: runs, part 1. -/
import Derived.Test.YtkhckfpflfkjmaaGreatIsTTQ
import Derived.Test.YtkhckfpflfkjmaaGreatIsTTR0
namespace Go.Proofs.YtkhckfpflfkjmaaGreat
open Go Go.RowKit Gv Gv.Lt
theorem isttr14 : isSn isttP14 (callN (isttE [isttP8, isttP11] isttI isttG2) 100 10 isttP14.args isttP14.h0) = true := by kernel_rfl
set_option maxRecDepth 100000 in
theorem istts14 {G : Gh} (F : Facts G isttI isttG2 isttNL) (hA : KA G) (hS : KS G) (hm : ¬ G.mono) (hT : HooksOk Tryz.prog G (hkT isT)) : SNOk Tryz.prog G isttP14 := by have _hA := hA; have _hS := hS; exact snap_ok progOk F (isttH F hm hT (List.forall_mem_cons.2 ⟨istts8 ⟨F.bd, F.ge.2.2, F.nl⟩ hA hS hm hT, (List.forall_mem_cons.2 ⟨istts11 ⟨F.bd, F.ge.2.2, F.nl⟩ hA hS hm hT, isttN⟩)⟩)) 100 isttP14 Tryz.func10 rfl isttr14
theorem isttr26 : isSn isttP26 (callN (isttE [] isttI isttG2) 100 10 isttP26.args isttP26.h0) = true := by kernel_rfl
set_option maxRecDepth 100000 in
theorem istts26 {G : Gh} (F : Facts G isttI isttG2 isttNL) (hA : KA G) (hS : KS G) (hm : ¬ G.mono) (hT : HooksOk Tryz.prog G (hkT isT)) : SNOk Tryz.prog G isttP26 := by have _hA := hA; have _hS := hS; exact snap_ok progOk F (isttH F hm hT isttN) 100 isttP26 Tryz.func10 rfl isttr26
theorem isttr41_0 : isttC [] isttG2 13 isttP41_0 := by unfold isttC; kernel_rfl
theorem isttr41_1 : isttC [] isttG2 13 isttP41_1 := by unfold isttC; kernel_rfl
theorem isttr41_2 : isttC [] isttG2 13 isttP41_2 := by unfold isttC; kernel_rfl
theorem isttr41_3 : isttC [] isttG2 13 isttP41_3 := by unfold isttC; kernel_rfl
theorem isttr41_4 : isttC [] isttG2 13 isttP41_4 := by unfold isttC; kernel_rfl
theorem isttr41_5 : isttC [] isttG2 13 isttP41_5 := by unfold isttC; kernel_rfl
theorem isttr41_6 : isttC [] isttG2 13 isttP41_6 := by unfold isttC; kernel_rfl
set_option maxRecDepth 100000 in
theorem istts41 {G : Gh} (F : Facts G isttI isttG2 isttNL) (hA : KA G) (hS : KS G) (hm : ¬ G.mono) (hT : HooksOk Tryz.prog G (hkT isT)) : SNOk Tryz.prog G isttP41 := by
  have _hA := hA; have _hS := hS; rcases hA with ⟨e0, e1, e2⟩ | ⟨e0, e1, e2⟩ | ⟨e0, e1, e2⟩ | ⟨e0, e1, e2⟩ | ⟨e0, e1, e2⟩ | ⟨e0, e1, e2⟩ | ⟨e0, e1, e2⟩
  · exact istt_sc (snap_ok progOk F (isttH F hm hT isttN) 100 isttP41_0 Tryz.func13 rfl isttr41_0) (istt_c24 e0) (istt_d1 e1 e2)
  · exact istt_sc (snap_ok progOk F (isttH F hm hT isttN) 100 isttP41_1 Tryz.func13 rfl isttr41_1) (istt_c25 e0) (istt_d3 e1 e2)
  · exact istt_sc (snap_ok progOk F (isttH F hm hT isttN) 100 isttP41_2 Tryz.func13 rfl isttr41_2) (istt_c26 e0) (istt_d5 e1 e2)
  · exact istt_sc (snap_ok progOk F (isttH F hm hT isttN) 100 isttP41_3 Tryz.func13 rfl isttr41_3) (istt_c27 e0) (istt_d7 e1 e2)
  · exact istt_sc (snap_ok progOk F (isttH F hm hT isttN) 100 isttP41_4 Tryz.func13 rfl isttr41_4) (istt_c28 e0) (istt_d9 e1 e2)
  · exact istt_sc (snap_ok progOk F (isttH F hm hT isttN) 100 isttP41_5 Tryz.func13 rfl isttr41_5) (istt_c29 e0) (istt_d11 e1 e2)
  · exact istt_sc (snap_ok progOk F (isttH F hm hT isttN) 100 isttP41_6 Tryz.func13 rfl isttr41_6) (istt_c30 e0) (istt_d13 e1 e2)
theorem isttr62_0 : isttC [] isttG2 14 isttP62_0 := by unfold isttC; kernel_rfl
theorem isttr62_1 : isttC [] isttG2 14 isttP62_1 := by unfold isttC; kernel_rfl
theorem isttr62_2 : isttC [] isttG2 14 isttP62_2 := by unfold isttC; kernel_rfl
theorem isttr62_3 : isttC [] isttG2 14 isttP62_3 := by unfold isttC; kernel_rfl
theorem isttr62_4 : isttC [] isttG2 14 isttP62_4 := by unfold isttC; kernel_rfl
set_option maxRecDepth 100000 in
theorem istts62 {G : Gh} (F : Facts G isttI isttG2 isttNL) (hA : KA G) (hS : KS G) (hm : ¬ G.mono) (hT : HooksOk Tryz.prog G (hkT isT)) : SNOk Tryz.prog G isttP62 := by
  have _hA := hA; have _hS := hS; rcases hS with ⟨e0, e1, e2, e3, e4, e5, e6, e7, e8⟩ | ⟨e0, e1, e2, e3, e4, e5, e6, e7, e8⟩ | ⟨e0, e1, e2, e3, e4, e5, e6, e7, e8⟩ | ⟨e0, e1, e2, e3, e4, e5, e6, e7, e8⟩ | ⟨e0, e1, e2, e3, e4, e5, e6, e7, e8⟩
  · exact istt_sc (snap_ok progOk F (isttH F hm hT isttN) 100 isttP62_0 Tryz.func14 rfl isttr62_0) (istt_c31 e0) (istt_d15 e1 e2 e3 e4 e5 e6 e7 e8)
  · exact istt_sc (snap_ok progOk F (isttH F hm hT isttN) 100 isttP62_1 Tryz.func14 rfl isttr62_1) (istt_c32 e0) (istt_d17 e1 e2 e3 e4 e5 e6 e7 e8)
  · exact istt_sc (snap_ok progOk F (isttH F hm hT isttN) 100 isttP62_2 Tryz.func14 rfl isttr62_2) (istt_c33 e0) (istt_d19 e1 e2 e3 e4 e5 e6 e7 e8)
  · exact istt_sc (snap_ok progOk F (isttH F hm hT isttN) 100 isttP62_3 Tryz.func14 rfl isttr62_3) (istt_c34 e0) (istt_d21 e1 e2 e3 e4 e5 e6 e7 e8)
  · exact istt_sc (snap_ok progOk F (isttH F hm hT isttN) 100 isttP62_4 Tryz.func14 rfl isttr62_4) (istt_c35 e0) (istt_d23 e1 e2 e3 e4 e5 e6 e7 e8)
theorem isttr17 : isSn isttP17 (callN (isttE [isttP8, isttP11] isttI isttG3) 100 10 isttP17.args isttP17.h0) = true := by kernel_rfl
set_option maxRecDepth 100000 in
theorem istts17 {G : Gh} (F : Facts G isttI isttG3 isttNL) (hA : KA G) (hS : KS G) (hm : ¬ G.mono) (hT : HooksOk Tryz.prog G (hkT isT)) : SNOk Tryz.prog G isttP17 := by have _hA := hA; have _hS := hS; exact snap_ok progOk F (isttH F hm hT (List.forall_mem_cons.2 ⟨istts8 ⟨F.bd, F.ge.2.2.2, F.nl⟩ hA hS hm hT, (List.forall_mem_cons.2 ⟨istts11 ⟨F.bd, F.ge.2.2.2, F.nl⟩ hA hS hm hT, isttN⟩)⟩)) 100 isttP17 Tryz.func10 rfl isttr17
theorem isttr29 : isSn isttP29 (callN (isttE [] isttI isttG3) 100 10 isttP29.args isttP29.h0) = true := by kernel_rfl
set_option maxRecDepth 100000 in
theorem istts29 {G : Gh} (F : Facts G isttI isttG3 isttNL) (hA : KA G) (hS : KS G) (hm : ¬ G.mono) (hT : HooksOk Tryz.prog G (hkT isT)) : SNOk Tryz.prog G isttP29 := by have _hA := hA; have _hS := hS; exact snap_ok progOk F (isttH F hm hT isttN) 100 isttP29 Tryz.func10 rfl isttr29
theorem isttr45_0 : isttC [] isttG3 13 isttP45_0 := by unfold isttC; kernel_rfl
theorem isttr45_1 : isttC [] isttG3 13 isttP45_1 := by unfold isttC; kernel_rfl
theorem isttr45_2 : isttC [] isttG3 13 isttP45_2 := by unfold isttC; kernel_rfl
theorem isttr45_3 : isttC [] isttG3 13 isttP45_3 := by unfold isttC; kernel_rfl
theorem isttr45_4 : isttC [] isttG3 13 isttP45_4 := by unfold isttC; kernel_rfl
theorem isttr45_5 : isttC [] isttG3 13 isttP45_5 := by unfold isttC; kernel_rfl
theorem isttr45_6 : isttC [] isttG3 13 isttP45_6 := by unfold isttC; kernel_rfl
set_option maxRecDepth 100000 in
theorem istts45 {G : Gh} (F : Facts G isttI isttG3 isttNL) (hA : KA G) (hS : KS G) (hm : ¬ G.mono) (hT : HooksOk Tryz.prog G (hkT isT)) : SNOk Tryz.prog G isttP45 := by
  have _hA := hA; have _hS := hS; rcases hA with ⟨e0, e1, e2⟩ | ⟨e0, e1, e2⟩ | ⟨e0, e1, e2⟩ | ⟨e0, e1, e2⟩ | ⟨e0, e1, e2⟩ | ⟨e0, e1, e2⟩ | ⟨e0, e1, e2⟩
  · exact istt_sc (snap_ok progOk F (isttH F hm hT isttN) 100 isttP45_0 Tryz.func13 rfl isttr45_0) (istt_c24 e0) (istt_d1 e1 e2)
  · exact istt_sc (snap_ok progOk F (isttH F hm hT isttN) 100 isttP45_1 Tryz.func13 rfl isttr45_1) (istt_c25 e0) (istt_d3 e1 e2)
  · exact istt_sc (snap_ok progOk F (isttH F hm hT isttN) 100 isttP45_2 Tryz.func13 rfl isttr45_2) (istt_c26 e0) (istt_d5 e1 e2)
  · exact istt_sc (snap_ok progOk F (isttH F hm hT isttN) 100 isttP45_3 Tryz.func13 rfl isttr45_3) (istt_c27 e0) (istt_d7 e1 e2)
  · exact istt_sc (snap_ok progOk F (isttH F hm hT isttN) 100 isttP45_4 Tryz.func13 rfl isttr45_4) (istt_c28 e0) (istt_d9 e1 e2)
  · exact istt_sc (snap_ok progOk F (isttH F hm hT isttN) 100 isttP45_5 Tryz.func13 rfl isttr45_5) (istt_c29 e0) (istt_d11 e1 e2)
  · exact istt_sc (snap_ok progOk F (isttH F hm hT isttN) 100 isttP45_6 Tryz.func13 rfl isttr45_6) (istt_c30 e0) (istt_d13 e1 e2)
theorem isttr65_0 : isttC [] isttG3 14 isttP65_0 := by unfold isttC; kernel_rfl
theorem isttr65_1 : isttC [] isttG3 14 isttP65_1 := by unfold isttC; kernel_rfl
theorem isttr65_2 : isttC [] isttG3 14 isttP65_2 := by unfold isttC; kernel_rfl
theorem isttr65_3 : isttC [] isttG3 14 isttP65_3 := by unfold isttC; kernel_rfl
theorem isttr65_4 : isttC [] isttG3 14 isttP65_4 := by unfold isttC; kernel_rfl
set_option maxRecDepth 100000 in
theorem istts65 {G : Gh} (F : Facts G isttI isttG3 isttNL) (hA : KA G) (hS : KS G) (hm : ¬ G.mono) (hT : HooksOk Tryz.prog G (hkT isT)) : SNOk Tryz.prog G isttP65 := by
  have _hA := hA; have _hS := hS; rcases hS with ⟨e0, e1, e2, e3, e4, e5, e6, e7, e8⟩ | ⟨e0, e1, e2, e3, e4, e5, e6, e7, e8⟩ | ⟨e0, e1, e2, e3, e4, e5, e6, e7, e8⟩ | ⟨e0, e1, e2, e3, e4, e5, e6, e7, e8⟩ | ⟨e0, e1, e2, e3, e4, e5, e6, e7, e8⟩
  · exact istt_sc (snap_ok progOk F (isttH F hm hT isttN) 100 isttP65_0 Tryz.func14 rfl isttr65_0) (istt_c31 e0) (istt_d15 e1 e2 e3 e4 e5 e6 e7 e8)
  · exact istt_sc (snap_ok progOk F (isttH F hm hT isttN) 100 isttP65_1 Tryz.func14 rfl isttr65_1) (istt_c32 e0) (istt_d17 e1 e2 e3 e4 e5 e6 e7 e8)
  · exact istt_sc (snap_ok progOk F (isttH F hm hT isttN) 100 isttP65_2 Tryz.func14 rfl isttr65_2) (istt_c33 e0) (istt_d19 e1 e2 e3 e4 e5 e6 e7 e8)
  · exact istt_sc (snap_ok progOk F (isttH F hm hT isttN) 100 isttP65_3 Tryz.func14 rfl isttr65_3) (istt_c34 e0) (istt_d21 e1 e2 e3 e4 e5 e6 e7 e8)
  · exact istt_sc (snap_ok progOk F (isttH F hm hT isttN) 100 isttP65_4 Tryz.func14 rfl isttr65_4) (istt_c35 e0) (istt_d23 e1 e2 e3 e4 e5 e6 e7 e8)
theorem isttr19 : isSn isttP19 (callN (isttE [isttP8, isttP11] isttI isttG4) 100 10 isttP19.args isttP19.h0) = true := by kernel_rfl
set_option maxRecDepth 100000 in
theorem istts19 {G : Gh} (F : Facts G isttI isttG4 isttNL) (hA : KA G) (hS : KS G) (hm : ¬ G.mono) (hT : HooksOk Tryz.prog G (hkT isT)) : SNOk Tryz.prog G isttP19 := by have _hA := hA; have _hS := hS; exact snap_ok progOk F (isttH F hm hT (List.forall_mem_cons.2 ⟨istts8 ⟨F.bd, F.ge.2.2.2.2, F.nl⟩ hA hS hm hT, (List.forall_mem_cons.2 ⟨istts11 ⟨F.bd, F.ge.2.2.2.2, F.nl⟩ hA hS hm hT, isttN⟩)⟩)) 100 isttP19 Tryz.func10 rfl isttr19
theorem isttr30 : isSn isttP30 (callN (isttE [] isttI isttG4) 100 10 isttP30.args isttP30.h0) = true := by kernel_rfl
set_option maxRecDepth 100000 in
theorem istts30 {G : Gh} (F : Facts G isttI isttG4 isttNL) (hA : KA G) (hS : KS G) (hm : ¬ G.mono) (hT : HooksOk Tryz.prog G (hkT isT)) : SNOk Tryz.prog G isttP30 := by have _hA := hA; have _hS := hS; exact snap_ok progOk F (isttH F hm hT isttN) 100 isttP30 Tryz.func10 rfl isttr30
theorem isttr44_0 : isttC [] isttG4 13 isttP44_0 := by unfold isttC; kernel_rfl
theorem isttr44_1 : isttC [] isttG4 13 isttP44_1 := by unfold isttC; kernel_rfl
theorem isttr44_2 : isttC [] isttG4 13 isttP44_2 := by unfold isttC; kernel_rfl
theorem isttr44_3 : isttC [] isttG4 13 isttP44_3 := by unfold isttC; kernel_rfl
theorem isttr44_4 : isttC [] isttG4 13 isttP44_4 := by unfold isttC; kernel_rfl
theorem isttr44_5 : isttC [] isttG4 13 isttP44_5 := by unfold isttC; kernel_rfl
theorem isttr44_6 : isttC [] isttG4 13 isttP44_6 := by unfold isttC; kernel_rfl
set_option maxRecDepth 100000 in
theorem istts44 {G : Gh} (F : Facts G isttI isttG4 isttNL) (hA : KA G) (hS : KS G) (hm : ¬ G.mono) (hT : HooksOk Tryz.prog G (hkT isT)) : SNOk Tryz.prog G isttP44 := by
  have _hA := hA; have _hS := hS; rcases hA with ⟨e0, e1, e2⟩ | ⟨e0, e1, e2⟩ | ⟨e0, e1, e2⟩ | ⟨e0, e1, e2⟩ | ⟨e0, e1, e2⟩ | ⟨e0, e1, e2⟩ | ⟨e0, e1, e2⟩
  · exact istt_sc (snap_ok progOk F (isttH F hm hT isttN) 100 isttP44_0 Tryz.func13 rfl isttr44_0) (istt_c24 e0) (istt_d1 e1 e2)
  · exact istt_sc (snap_ok progOk F (isttH F hm hT isttN) 100 isttP44_1 Tryz.func13 rfl isttr44_1) (istt_c25 e0) (istt_d3 e1 e2)
  · exact istt_sc (snap_ok progOk F (isttH F hm hT isttN) 100 isttP44_2 Tryz.func13 rfl isttr44_2) (istt_c26 e0) (istt_d5 e1 e2)
  · exact istt_sc (snap_ok progOk F (isttH F hm hT isttN) 100 isttP44_3 Tryz.func13 rfl isttr44_3) (istt_c27 e0) (istt_d7 e1 e2)
  · exact istt_sc (snap_ok progOk F (isttH F hm hT isttN) 100 isttP44_4 Tryz.func13 rfl isttr44_4) (istt_c28 e0) (istt_d9 e1 e2)
  · exact istt_sc (snap_ok progOk F (isttH F hm hT isttN) 100 isttP44_5 Tryz.func13 rfl isttr44_5) (istt_c29 e0) (istt_d11 e1 e2)
  · exact istt_sc (snap_ok progOk F (isttH F hm hT isttN) 100 isttP44_6 Tryz.func13 rfl isttr44_6) (istt_c30 e0) (istt_d13 e1 e2)
theorem isttr64_0 : isttC [] isttG4 14 isttP64_0 := by unfold isttC; kernel_rfl
theorem isttr64_1 : isttC [] isttG4 14 isttP64_1 := by unfold isttC; kernel_rfl
theorem isttr64_2 : isttC [] isttG4 14 isttP64_2 := by unfold isttC; kernel_rfl
theorem isttr64_3 : isttC [] isttG4 14 isttP64_3 := by unfold isttC; kernel_rfl
theorem isttr64_4 : isttC [] isttG4 14 isttP64_4 := by unfold isttC; kernel_rfl
set_option maxRecDepth 100000 in
theorem istts64 {G : Gh} (F : Facts G isttI isttG4 isttNL) (hA : KA G) (hS : KS G) (hm : ¬ G.mono) (hT : HooksOk Tryz.prog G (hkT isT)) : SNOk Tryz.prog G isttP64 := by
  have _hA := hA; have _hS := hS; rcases hS with ⟨e0, e1, e2, e3, e4, e5, e6, e7, e8⟩ | ⟨e0, e1, e2, e3, e4, e5, e6, e7, e8⟩ | ⟨e0, e1, e2, e3, e4, e5, e6, e7, e8⟩ | ⟨e0, e1, e2, e3, e4, e5, e6, e7, e8⟩ | ⟨e0, e1, e2, e3, e4, e5, e6, e7, e8⟩
  · exact istt_sc (snap_ok progOk F (isttH F hm hT isttN) 100 isttP64_0 Tryz.func14 rfl isttr64_0) (istt_c31 e0) (istt_d15 e1 e2 e3 e4 e5 e6 e7 e8)
  · exact istt_sc (snap_ok progOk F (isttH F hm hT isttN) 100 isttP64_1 Tryz.func14 rfl isttr64_1) (istt_c32 e0) (istt_d17 e1 e2 e3 e4 e5 e6 e7 e8)
  · exact istt_sc (snap_ok progOk F (isttH F hm hT isttN) 100 isttP64_2 Tryz.func14 rfl isttr64_2) (istt_c33 e0) (istt_d19 e1 e2 e3 e4 e5 e6 e7 e8)
  · exact istt_sc (snap_ok progOk F (isttH F hm hT isttN) 100 isttP64_3 Tryz.func14 rfl isttr64_3) (istt_c34 e0) (istt_d21 e1 e2 e3 e4 e5 e6 e7 e8)
  · exact istt_sc (snap_ok progOk F (isttH F hm hT isttN) 100 isttP64_4 Tryz.func14 rfl isttr64_4) (istt_c35 e0) (istt_d23 e1 e2 e3 e4 e5 e6 e7 e8)
theorem isttr20 : isSn isttP20 (callN (isttE [isttP8, isttP11] isttI isttG5) 100 10 isttP20.args isttP20.h0) = true := by kernel_rfl
set_option maxRecDepth 100000 in
theorem istts20 {G : Gh} (F : Facts G isttI isttG5 isttNL) (hA : KA G) (hS : KS G) (hm : ¬ G.mono) (hT : HooksOk Tryz.prog G (hkT isT)) : SNOk Tryz.prog G isttP20 := by have _hA := hA; have _hS := hS; exact snap_ok progOk F (isttH F hm hT (List.forall_mem_cons.2 ⟨istts8 ⟨F.bd, F.ge.2.2.2.2, F.nl⟩ hA hS hm hT, (List.forall_mem_cons.2 ⟨istts11 ⟨F.bd, F.ge.2.2.2.2, F.nl⟩ hA hS hm hT, isttN⟩)⟩)) 100 isttP20 Tryz.func10 rfl isttr20
end Go.Proofs.YtkhckfpflfkjmaaGreat
