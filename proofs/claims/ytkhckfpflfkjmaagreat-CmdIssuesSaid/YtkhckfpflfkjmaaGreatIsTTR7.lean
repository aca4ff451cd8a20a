/- complinelaw28.CmdIssues: runs, part 7. -/
import Derived.Test.YtkhckfpflfkjmaaGreatIsTTQ
import Derived.Test.YtkhckfpflfkjmaaGreatIsTTR6
namespace Go.Proofs.YtkhckfpflfkjmaaGreat
open Go Go.RowKit Gv Gv.Lt
theorem isttr80 : isSn isttP80 (callN (isttE [isttP34, isttP43] isttI isttG21) 100 10 isttP80.args isttP80.h0) = true := by kernel_rfl
set_option maxRecDepth 100000 in
theorem istts80 {G : Gh} (F : Facts G isttI isttG21 isttNL) (hA : KA G) (hS : KS G) (hm : ¬ G.mono) (hT : HooksOk Tryz.prog G (hkT isT)) : SNOk Tryz.prog G isttP80 := by have _hA := hA; have _hS := hS; exact snap_ok progOk F (isttH F hm hT (List.forall_mem_cons.2 ⟨istts34 ⟨F.bd, F.ge.2.2.2.2.2, F.nl⟩ hA hS hm hT, (List.forall_mem_cons.2 ⟨istts43 ⟨F.bd, F.ge.2.2.2.2.2, F.nl⟩ hA hS hm hT, isttN⟩)⟩)) 100 isttP80 Tryz.func10 rfl isttr80
theorem isttr87 : isSn isttP87 (callN (isttE [] isttI isttG21) 100 10 isttP87.args isttP87.h0) = true := by kernel_rfl
set_option maxRecDepth 100000 in
theorem istts87 {G : Gh} (F : Facts G isttI isttG21 isttNL) (hA : KA G) (hS : KS G) (hm : ¬ G.mono) (hT : HooksOk Tryz.prog G (hkT isT)) : SNOk Tryz.prog G isttP87 := by have _hA := hA; have _hS := hS; exact snap_ok progOk F (isttH F hm hT isttN) 100 isttP87 Tryz.func10 rfl isttr87
theorem isttr104_0 : isttC [] isttG21 13 isttP104_0 := by unfold isttC; kernel_rfl
theorem isttr104_1 : isttC [] isttG21 13 isttP104_1 := by unfold isttC; kernel_rfl
theorem isttr104_2 : isttC [] isttG21 13 isttP104_2 := by unfold isttC; kernel_rfl
theorem isttr104_3 : isttC [] isttG21 13 isttP104_3 := by unfold isttC; kernel_rfl
theorem isttr104_4 : isttC [] isttG21 13 isttP104_4 := by unfold isttC; kernel_rfl
theorem isttr104_5 : isttC [] isttG21 13 isttP104_5 := by unfold isttC; kernel_rfl
theorem isttr104_6 : isttC [] isttG21 13 isttP104_6 := by unfold isttC; kernel_rfl
set_option maxRecDepth 100000 in
theorem istts104 {G : Gh} (F : Facts G isttI isttG21 isttNL) (hA : KA G) (hS : KS G) (hm : ¬ G.mono) (hT : HooksOk Tryz.prog G (hkT isT)) : SNOk Tryz.prog G isttP104 := by
  have _hA := hA; have _hS := hS; rcases hA with ⟨e0, e1, e2⟩ | ⟨e0, e1, e2⟩ | ⟨e0, e1, e2⟩ | ⟨e0, e1, e2⟩ | ⟨e0, e1, e2⟩ | ⟨e0, e1, e2⟩ | ⟨e0, e1, e2⟩
  · exact istt_sc (snap_ok progOk F (isttH F hm hT isttN) 100 isttP104_0 Tryz.func13 rfl isttr104_0) (istt_c24 e0) (istt_d1 e1 e2)
  · exact istt_sc (snap_ok progOk F (isttH F hm hT isttN) 100 isttP104_1 Tryz.func13 rfl isttr104_1) (istt_c25 e0) (istt_d3 e1 e2)
  · exact istt_sc (snap_ok progOk F (isttH F hm hT isttN) 100 isttP104_2 Tryz.func13 rfl isttr104_2) (istt_c26 e0) (istt_d5 e1 e2)
  · exact istt_sc (snap_ok progOk F (isttH F hm hT isttN) 100 isttP104_3 Tryz.func13 rfl isttr104_3) (istt_c27 e0) (istt_d7 e1 e2)
  · exact istt_sc (snap_ok progOk F (isttH F hm hT isttN) 100 isttP104_4 Tryz.func13 rfl isttr104_4) (istt_c28 e0) (istt_d9 e1 e2)
  · exact istt_sc (snap_ok progOk F (isttH F hm hT isttN) 100 isttP104_5 Tryz.func13 rfl isttr104_5) (istt_c29 e0) (istt_d11 e1 e2)
  · exact istt_sc (snap_ok progOk F (isttH F hm hT isttN) 100 isttP104_6 Tryz.func13 rfl isttr104_6) (istt_c30 e0) (istt_d13 e1 e2)
theorem isttr121_0 : isttC [] isttG21 14 isttP121_0 := by unfold isttC; kernel_rfl
theorem isttr121_1 : isttC [] isttG21 14 isttP121_1 := by unfold isttC; kernel_rfl
theorem isttr121_2 : isttC [] isttG21 14 isttP121_2 := by unfold isttC; kernel_rfl
theorem isttr121_3 : isttC [] isttG21 14 isttP121_3 := by unfold isttC; kernel_rfl
theorem isttr121_4 : isttC [] isttG21 14 isttP121_4 := by unfold isttC; kernel_rfl
set_option maxRecDepth 100000 in
theorem istts121 {G : Gh} (F : Facts G isttI isttG21 isttNL) (hA : KA G) (hS : KS G) (hm : ¬ G.mono) (hT : HooksOk Tryz.prog G (hkT isT)) : SNOk Tryz.prog G isttP121 := by
  have _hA := hA; have _hS := hS; rcases hS with ⟨e0, e1, e2, e3, e4, e5, e6, e7, e8⟩ | ⟨e0, e1, e2, e3, e4, e5, e6, e7, e8⟩ | ⟨e0, e1, e2, e3, e4, e5, e6, e7, e8⟩ | ⟨e0, e1, e2, e3, e4, e5, e6, e7, e8⟩ | ⟨e0, e1, e2, e3, e4, e5, e6, e7, e8⟩
  · exact istt_sc (snap_ok progOk F (isttH F hm hT isttN) 100 isttP121_0 Tryz.func14 rfl isttr121_0) (istt_c31 e0) (istt_d15 e1 e2 e3 e4 e5 e6 e7 e8)
  · exact istt_sc (snap_ok progOk F (isttH F hm hT isttN) 100 isttP121_1 Tryz.func14 rfl isttr121_1) (istt_c32 e0) (istt_d17 e1 e2 e3 e4 e5 e6 e7 e8)
  · exact istt_sc (snap_ok progOk F (isttH F hm hT isttN) 100 isttP121_2 Tryz.func14 rfl isttr121_2) (istt_c33 e0) (istt_d19 e1 e2 e3 e4 e5 e6 e7 e8)
  · exact istt_sc (snap_ok progOk F (isttH F hm hT isttN) 100 isttP121_3 Tryz.func14 rfl isttr121_3) (istt_c34 e0) (istt_d21 e1 e2 e3 e4 e5 e6 e7 e8)
  · exact istt_sc (snap_ok progOk F (isttH F hm hT isttN) 100 isttP121_4 Tryz.func14 rfl isttr121_4) (istt_c35 e0) (istt_d23 e1 e2 e3 e4 e5 e6 e7 e8)
theorem isttr82 : isSn isttP82 (callN (isttE [isttP34, isttP43] isttI isttG22) 100 10 isttP82.args isttP82.h0) = true := by kernel_rfl
set_option maxRecDepth 100000 in
theorem istts82 {G : Gh} (F : Facts G isttI isttG22 isttNL) (hA : KA G) (hS : KS G) (hm : ¬ G.mono) (hT : HooksOk Tryz.prog G (hkT isT)) : SNOk Tryz.prog G isttP82 := by have _hA := hA; have _hS := hS; exact snap_ok progOk F (isttH F hm hT (List.forall_mem_cons.2 ⟨istts34 ⟨F.bd, F.ge.2.2.2.2.2.2, F.nl⟩ hA hS hm hT, (List.forall_mem_cons.2 ⟨istts43 ⟨F.bd, F.ge.2.2.2.2.2.2, F.nl⟩ hA hS hm hT, isttN⟩)⟩)) 100 isttP82 Tryz.func10 rfl isttr82
theorem isttr89 : isSn isttP89 (callN (isttE [] isttI isttG22) 100 10 isttP89.args isttP89.h0) = true := by kernel_rfl
set_option maxRecDepth 100000 in
theorem istts89 {G : Gh} (F : Facts G isttI isttG22 isttNL) (hA : KA G) (hS : KS G) (hm : ¬ G.mono) (hT : HooksOk Tryz.prog G (hkT isT)) : SNOk Tryz.prog G isttP89 := by have _hA := hA; have _hS := hS; exact snap_ok progOk F (isttH F hm hT isttN) 100 isttP89 Tryz.func10 rfl isttr89
theorem isttr106_0 : isttC [] isttG22 13 isttP106_0 := by unfold isttC; kernel_rfl
theorem isttr106_1 : isttC [] isttG22 13 isttP106_1 := by unfold isttC; kernel_rfl
theorem isttr106_2 : isttC [] isttG22 13 isttP106_2 := by unfold isttC; kernel_rfl
theorem isttr106_3 : isttC [] isttG22 13 isttP106_3 := by unfold isttC; kernel_rfl
theorem isttr106_4 : isttC [] isttG22 13 isttP106_4 := by unfold isttC; kernel_rfl
theorem isttr106_5 : isttC [] isttG22 13 isttP106_5 := by unfold isttC; kernel_rfl
theorem isttr106_6 : isttC [] isttG22 13 isttP106_6 := by unfold isttC; kernel_rfl
set_option maxRecDepth 100000 in
theorem istts106 {G : Gh} (F : Facts G isttI isttG22 isttNL) (hA : KA G) (hS : KS G) (hm : ¬ G.mono) (hT : HooksOk Tryz.prog G (hkT isT)) : SNOk Tryz.prog G isttP106 := by
  have _hA := hA; have _hS := hS; rcases hA with ⟨e0, e1, e2⟩ | ⟨e0, e1, e2⟩ | ⟨e0, e1, e2⟩ | ⟨e0, e1, e2⟩ | ⟨e0, e1, e2⟩ | ⟨e0, e1, e2⟩ | ⟨e0, e1, e2⟩
  · exact istt_sc (snap_ok progOk F (isttH F hm hT isttN) 100 isttP106_0 Tryz.func13 rfl isttr106_0) (istt_c24 e0) (istt_d1 e1 e2)
  · exact istt_sc (snap_ok progOk F (isttH F hm hT isttN) 100 isttP106_1 Tryz.func13 rfl isttr106_1) (istt_c25 e0) (istt_d3 e1 e2)
  · exact istt_sc (snap_ok progOk F (isttH F hm hT isttN) 100 isttP106_2 Tryz.func13 rfl isttr106_2) (istt_c26 e0) (istt_d5 e1 e2)
  · exact istt_sc (snap_ok progOk F (isttH F hm hT isttN) 100 isttP106_3 Tryz.func13 rfl isttr106_3) (istt_c27 e0) (istt_d7 e1 e2)
  · exact istt_sc (snap_ok progOk F (isttH F hm hT isttN) 100 isttP106_4 Tryz.func13 rfl isttr106_4) (istt_c28 e0) (istt_d9 e1 e2)
  · exact istt_sc (snap_ok progOk F (isttH F hm hT isttN) 100 isttP106_5 Tryz.func13 rfl isttr106_5) (istt_c29 e0) (istt_d11 e1 e2)
  · exact istt_sc (snap_ok progOk F (isttH F hm hT isttN) 100 isttP106_6 Tryz.func13 rfl isttr106_6) (istt_c30 e0) (istt_d13 e1 e2)
theorem isttr124_0 : isttC [] isttG22 14 isttP124_0 := by unfold isttC; kernel_rfl
theorem isttr124_1 : isttC [] isttG22 14 isttP124_1 := by unfold isttC; kernel_rfl
theorem isttr124_2 : isttC [] isttG22 14 isttP124_2 := by unfold isttC; kernel_rfl
theorem isttr124_3 : isttC [] isttG22 14 isttP124_3 := by unfold isttC; kernel_rfl
theorem isttr124_4 : isttC [] isttG22 14 isttP124_4 := by unfold isttC; kernel_rfl
set_option maxRecDepth 100000 in
theorem istts124 {G : Gh} (F : Facts G isttI isttG22 isttNL) (hA : KA G) (hS : KS G) (hm : ¬ G.mono) (hT : HooksOk Tryz.prog G (hkT isT)) : SNOk Tryz.prog G isttP124 := by
  have _hA := hA; have _hS := hS; rcases hS with ⟨e0, e1, e2, e3, e4, e5, e6, e7, e8⟩ | ⟨e0, e1, e2, e3, e4, e5, e6, e7, e8⟩ | ⟨e0, e1, e2, e3, e4, e5, e6, e7, e8⟩ | ⟨e0, e1, e2, e3, e4, e5, e6, e7, e8⟩ | ⟨e0, e1, e2, e3, e4, e5, e6, e7, e8⟩
  · exact istt_sc (snap_ok progOk F (isttH F hm hT isttN) 100 isttP124_0 Tryz.func14 rfl isttr124_0) (istt_c31 e0) (istt_d15 e1 e2 e3 e4 e5 e6 e7 e8)
  · exact istt_sc (snap_ok progOk F (isttH F hm hT isttN) 100 isttP124_1 Tryz.func14 rfl isttr124_1) (istt_c32 e0) (istt_d17 e1 e2 e3 e4 e5 e6 e7 e8)
  · exact istt_sc (snap_ok progOk F (isttH F hm hT isttN) 100 isttP124_2 Tryz.func14 rfl isttr124_2) (istt_c33 e0) (istt_d19 e1 e2 e3 e4 e5 e6 e7 e8)
  · exact istt_sc (snap_ok progOk F (isttH F hm hT isttN) 100 isttP124_3 Tryz.func14 rfl isttr124_3) (istt_c34 e0) (istt_d21 e1 e2 e3 e4 e5 e6 e7 e8)
  · exact istt_sc (snap_ok progOk F (isttH F hm hT isttN) 100 isttP124_4 Tryz.func14 rfl isttr124_4) (istt_c35 e0) (istt_d23 e1 e2 e3 e4 e5 e6 e7 e8)
theorem isttr84 : isSn isttP84 (callN (isttE [isttP34, isttP43] isttI isttG23) 100 10 isttP84.args isttP84.h0) = true := by kernel_rfl
set_option maxRecDepth 100000 in
theorem istts84 {G : Gh} (F : Facts G isttI isttG23 isttNL) (hA : KA G) (hS : KS G) (hm : ¬ G.mono) (hT : HooksOk Tryz.prog G (hkT isT)) : SNOk Tryz.prog G isttP84 := by have _hA := hA; have _hS := hS; exact snap_ok progOk F (isttH F hm hT (List.forall_mem_cons.2 ⟨istts34 ⟨F.bd, F.ge.2.2.2.2.2.2, F.nl⟩ hA hS hm hT, (List.forall_mem_cons.2 ⟨istts43 ⟨F.bd, F.ge.2.2.2.2.2.2, F.nl⟩ hA hS hm hT, isttN⟩)⟩)) 100 isttP84 Tryz.func10 rfl isttr84
theorem isttr91 : isSn isttP91 (callN (isttE [] isttI isttG23) 100 10 isttP91.args isttP91.h0) = true := by kernel_rfl
set_option maxRecDepth 100000 in
theorem istts91 {G : Gh} (F : Facts G isttI isttG23 isttNL) (hA : KA G) (hS : KS G) (hm : ¬ G.mono) (hT : HooksOk Tryz.prog G (hkT isT)) : SNOk Tryz.prog G isttP91 := by have _hA := hA; have _hS := hS; exact snap_ok progOk F (isttH F hm hT isttN) 100 isttP91 Tryz.func10 rfl isttr91
theorem isttr108_0 : isttC [] isttG23 13 isttP108_0 := by unfold isttC; kernel_rfl
theorem isttr108_1 : isttC [] isttG23 13 isttP108_1 := by unfold isttC; kernel_rfl
theorem isttr108_2 : isttC [] isttG23 13 isttP108_2 := by unfold isttC; kernel_rfl
theorem isttr108_3 : isttC [] isttG23 13 isttP108_3 := by unfold isttC; kernel_rfl
theorem isttr108_4 : isttC [] isttG23 13 isttP108_4 := by unfold isttC; kernel_rfl
theorem isttr108_5 : isttC [] isttG23 13 isttP108_5 := by unfold isttC; kernel_rfl
theorem isttr108_6 : isttC [] isttG23 13 isttP108_6 := by unfold isttC; kernel_rfl
set_option maxRecDepth 100000 in
theorem istts108 {G : Gh} (F : Facts G isttI isttG23 isttNL) (hA : KA G) (hS : KS G) (hm : ¬ G.mono) (hT : HooksOk Tryz.prog G (hkT isT)) : SNOk Tryz.prog G isttP108 := by
  have _hA := hA; have _hS := hS; rcases hA with ⟨e0, e1, e2⟩ | ⟨e0, e1, e2⟩ | ⟨e0, e1, e2⟩ | ⟨e0, e1, e2⟩ | ⟨e0, e1, e2⟩ | ⟨e0, e1, e2⟩ | ⟨e0, e1, e2⟩
  · exact istt_sc (snap_ok progOk F (isttH F hm hT isttN) 100 isttP108_0 Tryz.func13 rfl isttr108_0) (istt_c24 e0) (istt_d1 e1 e2)
  · exact istt_sc (snap_ok progOk F (isttH F hm hT isttN) 100 isttP108_1 Tryz.func13 rfl isttr108_1) (istt_c25 e0) (istt_d3 e1 e2)
  · exact istt_sc (snap_ok progOk F (isttH F hm hT isttN) 100 isttP108_2 Tryz.func13 rfl isttr108_2) (istt_c26 e0) (istt_d5 e1 e2)
  · exact istt_sc (snap_ok progOk F (isttH F hm hT isttN) 100 isttP108_3 Tryz.func13 rfl isttr108_3) (istt_c27 e0) (istt_d7 e1 e2)
  · exact istt_sc (snap_ok progOk F (isttH F hm hT isttN) 100 isttP108_4 Tryz.func13 rfl isttr108_4) (istt_c28 e0) (istt_d9 e1 e2)
  · exact istt_sc (snap_ok progOk F (isttH F hm hT isttN) 100 isttP108_5 Tryz.func13 rfl isttr108_5) (istt_c29 e0) (istt_d11 e1 e2)
  · exact istt_sc (snap_ok progOk F (isttH F hm hT isttN) 100 isttP108_6 Tryz.func13 rfl isttr108_6) (istt_c30 e0) (istt_d13 e1 e2)
theorem isttr125_0 : isttC [] isttG23 14 isttP125_0 := by unfold isttC; kernel_rfl
theorem isttr125_1 : isttC [] isttG23 14 isttP125_1 := by unfold isttC; kernel_rfl
theorem isttr125_2 : isttC [] isttG23 14 isttP125_2 := by unfold isttC; kernel_rfl
theorem isttr125_3 : isttC [] isttG23 14 isttP125_3 := by unfold isttC; kernel_rfl
theorem isttr125_4 : isttC [] isttG23 14 isttP125_4 := by unfold isttC; kernel_rfl
set_option maxRecDepth 100000 in
theorem istts125 {G : Gh} (F : Facts G isttI isttG23 isttNL) (hA : KA G) (hS : KS G) (hm : ¬ G.mono) (hT : HooksOk Tryz.prog G (hkT isT)) : SNOk Tryz.prog G isttP125 := by
  have _hA := hA; have _hS := hS; rcases hS with ⟨e0, e1, e2, e3, e4, e5, e6, e7, e8⟩ | ⟨e0, e1, e2, e3, e4, e5, e6, e7, e8⟩ | ⟨e0, e1, e2, e3, e4, e5, e6, e7, e8⟩ | ⟨e0, e1, e2, e3, e4, e5, e6, e7, e8⟩ | ⟨e0, e1, e2, e3, e4, e5, e6, e7, e8⟩
  · exact istt_sc (snap_ok progOk F (isttH F hm hT isttN) 100 isttP125_0 Tryz.func14 rfl isttr125_0) (istt_c31 e0) (istt_d15 e1 e2 e3 e4 e5 e6 e7 e8)
  · exact istt_sc (snap_ok progOk F (isttH F hm hT isttN) 100 isttP125_1 Tryz.func14 rfl isttr125_1) (istt_c32 e0) (istt_d17 e1 e2 e3 e4 e5 e6 e7 e8)
  · exact istt_sc (snap_ok progOk F (isttH F hm hT isttN) 100 isttP125_2 Tryz.func14 rfl isttr125_2) (istt_c33 e0) (istt_d19 e1 e2 e3 e4 e5 e6 e7 e8)
  · exact istt_sc (snap_ok progOk F (isttH F hm hT isttN) 100 isttP125_3 Tryz.func14 rfl isttr125_3) (istt_c34 e0) (istt_d21 e1 e2 e3 e4 e5 e6 e7 e8)
  · exact istt_sc (snap_ok progOk F (isttH F hm hT isttN) 100 isttP125_4 Tryz.func14 rfl isttr125_4) (istt_c35 e0) (istt_d23 e1 e2 e3 e4 e5 e6 e7 e8)
end Go.Proofs.YtkhckfpflfkjmaaGreat
