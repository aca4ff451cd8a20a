/- complinelaw28.CmdIssues: runs, part 3. -/
import Derived.Test.YtkhckfpflfkjmaaGreatIsTTQ
import Derived.Test.YtkhckfpflfkjmaaGreatIsTTR2
namespace Go.Proofs.YtkhckfpflfkjmaaGreat
open Go Go.RowKit Gv Gv.Lt
theorem isttr40_0 : isttC [] isttG8 13 isttP40_0 := by unfold isttC; kernel_rfl
theorem isttr40_1 : isttC [] isttG8 13 isttP40_1 := by unfold isttC; kernel_rfl
theorem isttr40_2 : isttC [] isttG8 13 isttP40_2 := by unfold isttC; kernel_rfl
theorem isttr40_3 : isttC [] isttG8 13 isttP40_3 := by unfold isttC; kernel_rfl
theorem isttr40_4 : isttC [] isttG8 13 isttP40_4 := by unfold isttC; kernel_rfl
theorem isttr40_5 : isttC [] isttG8 13 isttP40_5 := by unfold isttC; kernel_rfl
theorem isttr40_6 : isttC [] isttG8 13 isttP40_6 := by unfold isttC; kernel_rfl
set_option maxRecDepth 100000 in
theorem istts40 {G : Gh} (F : Facts G isttI isttG8 isttNL) (hA : KA G) (hS : KS G) (hm : ¬ G.mono) (hT : HooksOk Tryz.prog G (hkT isT)) : SNOk Tryz.prog G isttP40 := by
  have _hA := hA; have _hS := hS; rcases hA with ⟨e0, e1, e2⟩ | ⟨e0, e1, e2⟩ | ⟨e0, e1, e2⟩ | ⟨e0, e1, e2⟩ | ⟨e0, e1, e2⟩ | ⟨e0, e1, e2⟩ | ⟨e0, e1, e2⟩
  · exact istt_sc (snap_ok progOk F (isttH F hm hT isttN) 100 isttP40_0 Tryz.func13 rfl isttr40_0) (istt_c24 e0) (istt_d1 e1 e2)
  · exact istt_sc (snap_ok progOk F (isttH F hm hT isttN) 100 isttP40_1 Tryz.func13 rfl isttr40_1) (istt_c25 e0) (istt_d3 e1 e2)
  · exact istt_sc (snap_ok progOk F (isttH F hm hT isttN) 100 isttP40_2 Tryz.func13 rfl isttr40_2) (istt_c26 e0) (istt_d5 e1 e2)
  · exact istt_sc (snap_ok progOk F (isttH F hm hT isttN) 100 isttP40_3 Tryz.func13 rfl isttr40_3) (istt_c27 e0) (istt_d7 e1 e2)
  · exact istt_sc (snap_ok progOk F (isttH F hm hT isttN) 100 isttP40_4 Tryz.func13 rfl isttr40_4) (istt_c28 e0) (istt_d9 e1 e2)
  · exact istt_sc (snap_ok progOk F (isttH F hm hT isttN) 100 isttP40_5 Tryz.func13 rfl isttr40_5) (istt_c29 e0) (istt_d11 e1 e2)
  · exact istt_sc (snap_ok progOk F (isttH F hm hT isttN) 100 isttP40_6 Tryz.func13 rfl isttr40_6) (istt_c30 e0) (istt_d13 e1 e2)
theorem isttr61_0 : isttC [] isttG8 14 isttP61_0 := by unfold isttC; kernel_rfl
theorem isttr61_1 : isttC [] isttG8 14 isttP61_1 := by unfold isttC; kernel_rfl
theorem isttr61_2 : isttC [] isttG8 14 isttP61_2 := by unfold isttC; kernel_rfl
theorem isttr61_3 : isttC [] isttG8 14 isttP61_3 := by unfold isttC; kernel_rfl
theorem isttr61_4 : isttC [] isttG8 14 isttP61_4 := by unfold isttC; kernel_rfl
set_option maxRecDepth 100000 in
theorem istts61 {G : Gh} (F : Facts G isttI isttG8 isttNL) (hA : KA G) (hS : KS G) (hm : ¬ G.mono) (hT : HooksOk Tryz.prog G (hkT isT)) : SNOk Tryz.prog G isttP61 := by
  have _hA := hA; have _hS := hS; rcases hS with ⟨e0, e1, e2, e3, e4, e5, e6, e7, e8⟩ | ⟨e0, e1, e2, e3, e4, e5, e6, e7, e8⟩ | ⟨e0, e1, e2, e3, e4, e5, e6, e7, e8⟩ | ⟨e0, e1, e2, e3, e4, e5, e6, e7, e8⟩ | ⟨e0, e1, e2, e3, e4, e5, e6, e7, e8⟩
  · exact istt_sc (snap_ok progOk F (isttH F hm hT isttN) 100 isttP61_0 Tryz.func14 rfl isttr61_0) (istt_c31 e0) (istt_d15 e1 e2 e3 e4 e5 e6 e7 e8)
  · exact istt_sc (snap_ok progOk F (isttH F hm hT isttN) 100 isttP61_1 Tryz.func14 rfl isttr61_1) (istt_c32 e0) (istt_d17 e1 e2 e3 e4 e5 e6 e7 e8)
  · exact istt_sc (snap_ok progOk F (isttH F hm hT isttN) 100 isttP61_2 Tryz.func14 rfl isttr61_2) (istt_c33 e0) (istt_d19 e1 e2 e3 e4 e5 e6 e7 e8)
  · exact istt_sc (snap_ok progOk F (isttH F hm hT isttN) 100 isttP61_3 Tryz.func14 rfl isttr61_3) (istt_c34 e0) (istt_d21 e1 e2 e3 e4 e5 e6 e7 e8)
  · exact istt_sc (snap_ok progOk F (isttH F hm hT isttN) 100 isttP61_4 Tryz.func14 rfl isttr61_4) (istt_c35 e0) (istt_d23 e1 e2 e3 e4 e5 e6 e7 e8)
theorem isttr16 : isSn isttP16 (callN (isttE [isttP9, isttP10] isttI isttG9) 100 10 isttP16.args isttP16.h0) = true := by kernel_rfl
set_option maxRecDepth 100000 in
theorem istts16 {G : Gh} (F : Facts G isttI isttG9 isttNL) (hA : KA G) (hS : KS G) (hm : ¬ G.mono) (hT : HooksOk Tryz.prog G (hkT isT)) : SNOk Tryz.prog G isttP16 := by have _hA := hA; have _hS := hS; exact snap_ok progOk F (isttH F hm hT (List.forall_mem_cons.2 ⟨istts9 ⟨F.bd, F.ge.2.2.2, F.nl⟩ hA hS hm hT, (List.forall_mem_cons.2 ⟨istts10 ⟨F.bd, F.ge.2.2.2, F.nl⟩ hA hS hm hT, isttN⟩)⟩)) 100 isttP16 Tryz.func10 rfl isttr16
theorem isttr24 : isSn isttP24 (callN (isttE [] isttI isttG9) 100 10 isttP24.args isttP24.h0) = true := by kernel_rfl
set_option maxRecDepth 100000 in
theorem istts24 {G : Gh} (F : Facts G isttI isttG9 isttNL) (hA : KA G) (hS : KS G) (hm : ¬ G.mono) (hT : HooksOk Tryz.prog G (hkT isT)) : SNOk Tryz.prog G isttP24 := by have _hA := hA; have _hS := hS; exact snap_ok progOk F (isttH F hm hT isttN) 100 isttP24 Tryz.func10 rfl isttr24
theorem isttr39_0 : isttC [] isttG9 13 isttP39_0 := by unfold isttC; kernel_rfl
theorem isttr39_1 : isttC [] isttG9 13 isttP39_1 := by unfold isttC; kernel_rfl
theorem isttr39_2 : isttC [] isttG9 13 isttP39_2 := by unfold isttC; kernel_rfl
theorem isttr39_3 : isttC [] isttG9 13 isttP39_3 := by unfold isttC; kernel_rfl
theorem isttr39_4 : isttC [] isttG9 13 isttP39_4 := by unfold isttC; kernel_rfl
theorem isttr39_5 : isttC [] isttG9 13 isttP39_5 := by unfold isttC; kernel_rfl
theorem isttr39_6 : isttC [] isttG9 13 isttP39_6 := by unfold isttC; kernel_rfl
set_option maxRecDepth 100000 in
theorem istts39 {G : Gh} (F : Facts G isttI isttG9 isttNL) (hA : KA G) (hS : KS G) (hm : ¬ G.mono) (hT : HooksOk Tryz.prog G (hkT isT)) : SNOk Tryz.prog G isttP39 := by
  have _hA := hA; have _hS := hS; rcases hA with ⟨e0, e1, e2⟩ | ⟨e0, e1, e2⟩ | ⟨e0, e1, e2⟩ | ⟨e0, e1, e2⟩ | ⟨e0, e1, e2⟩ | ⟨e0, e1, e2⟩ | ⟨e0, e1, e2⟩
  · exact istt_sc (snap_ok progOk F (isttH F hm hT isttN) 100 isttP39_0 Tryz.func13 rfl isttr39_0) (istt_c24 e0) (istt_d1 e1 e2)
  · exact istt_sc (snap_ok progOk F (isttH F hm hT isttN) 100 isttP39_1 Tryz.func13 rfl isttr39_1) (istt_c25 e0) (istt_d3 e1 e2)
  · exact istt_sc (snap_ok progOk F (isttH F hm hT isttN) 100 isttP39_2 Tryz.func13 rfl isttr39_2) (istt_c26 e0) (istt_d5 e1 e2)
  · exact istt_sc (snap_ok progOk F (isttH F hm hT isttN) 100 isttP39_3 Tryz.func13 rfl isttr39_3) (istt_c27 e0) (istt_d7 e1 e2)
  · exact istt_sc (snap_ok progOk F (isttH F hm hT isttN) 100 isttP39_4 Tryz.func13 rfl isttr39_4) (istt_c28 e0) (istt_d9 e1 e2)
  · exact istt_sc (snap_ok progOk F (isttH F hm hT isttN) 100 isttP39_5 Tryz.func13 rfl isttr39_5) (istt_c29 e0) (istt_d11 e1 e2)
  · exact istt_sc (snap_ok progOk F (isttH F hm hT isttN) 100 isttP39_6 Tryz.func13 rfl isttr39_6) (istt_c30 e0) (istt_d13 e1 e2)
theorem isttr60_0 : isttC [] isttG9 14 isttP60_0 := by unfold isttC; kernel_rfl
theorem isttr60_1 : isttC [] isttG9 14 isttP60_1 := by unfold isttC; kernel_rfl
theorem isttr60_2 : isttC [] isttG9 14 isttP60_2 := by unfold isttC; kernel_rfl
theorem isttr60_3 : isttC [] isttG9 14 isttP60_3 := by unfold isttC; kernel_rfl
theorem isttr60_4 : isttC [] isttG9 14 isttP60_4 := by unfold isttC; kernel_rfl
set_option maxRecDepth 100000 in
theorem istts60 {G : Gh} (F : Facts G isttI isttG9 isttNL) (hA : KA G) (hS : KS G) (hm : ¬ G.mono) (hT : HooksOk Tryz.prog G (hkT isT)) : SNOk Tryz.prog G isttP60 := by
  have _hA := hA; have _hS := hS; rcases hS with ⟨e0, e1, e2, e3, e4, e5, e6, e7, e8⟩ | ⟨e0, e1, e2, e3, e4, e5, e6, e7, e8⟩ | ⟨e0, e1, e2, e3, e4, e5, e6, e7, e8⟩ | ⟨e0, e1, e2, e3, e4, e5, e6, e7, e8⟩ | ⟨e0, e1, e2, e3, e4, e5, e6, e7, e8⟩
  · exact istt_sc (snap_ok progOk F (isttH F hm hT isttN) 100 isttP60_0 Tryz.func14 rfl isttr60_0) (istt_c31 e0) (istt_d15 e1 e2 e3 e4 e5 e6 e7 e8)
  · exact istt_sc (snap_ok progOk F (isttH F hm hT isttN) 100 isttP60_1 Tryz.func14 rfl isttr60_1) (istt_c32 e0) (istt_d17 e1 e2 e3 e4 e5 e6 e7 e8)
  · exact istt_sc (snap_ok progOk F (isttH F hm hT isttN) 100 isttP60_2 Tryz.func14 rfl isttr60_2) (istt_c33 e0) (istt_d19 e1 e2 e3 e4 e5 e6 e7 e8)
  · exact istt_sc (snap_ok progOk F (isttH F hm hT isttN) 100 isttP60_3 Tryz.func14 rfl isttr60_3) (istt_c34 e0) (istt_d21 e1 e2 e3 e4 e5 e6 e7 e8)
  · exact istt_sc (snap_ok progOk F (isttH F hm hT isttN) 100 isttP60_4 Tryz.func14 rfl isttr60_4) (istt_c35 e0) (istt_d23 e1 e2 e3 e4 e5 e6 e7 e8)
theorem isttr18 : isSn isttP18 (callN (isttE [isttP9, isttP10] isttI isttG10) 100 10 isttP18.args isttP18.h0) = true := by kernel_rfl
set_option maxRecDepth 100000 in
theorem istts18 {G : Gh} (F : Facts G isttI isttG10 isttNL) (hA : KA G) (hS : KS G) (hm : ¬ G.mono) (hT : HooksOk Tryz.prog G (hkT isT)) : SNOk Tryz.prog G isttP18 := by have _hA := hA; have _hS := hS; exact snap_ok progOk F (isttH F hm hT (List.forall_mem_cons.2 ⟨istts9 ⟨F.bd, F.ge.2.2.2.2, F.nl⟩ hA hS hm hT, (List.forall_mem_cons.2 ⟨istts10 ⟨F.bd, F.ge.2.2.2.2, F.nl⟩ hA hS hm hT, isttN⟩)⟩)) 100 isttP18 Tryz.func10 rfl isttr18
theorem isttr32 : isSn isttP32 (callN (isttE [] isttI isttG10) 100 10 isttP32.args isttP32.h0) = true := by kernel_rfl
set_option maxRecDepth 100000 in
theorem istts32 {G : Gh} (F : Facts G isttI isttG10 isttNL) (hA : KA G) (hS : KS G) (hm : ¬ G.mono) (hT : HooksOk Tryz.prog G (hkT isT)) : SNOk Tryz.prog G isttP32 := by have _hA := hA; have _hS := hS; exact snap_ok progOk F (isttH F hm hT isttN) 100 isttP32 Tryz.func10 rfl isttr32
theorem isttr47_0 : isttC [] isttG10 13 isttP47_0 := by unfold isttC; kernel_rfl
theorem isttr47_1 : isttC [] isttG10 13 isttP47_1 := by unfold isttC; kernel_rfl
theorem isttr47_2 : isttC [] isttG10 13 isttP47_2 := by unfold isttC; kernel_rfl
theorem isttr47_3 : isttC [] isttG10 13 isttP47_3 := by unfold isttC; kernel_rfl
theorem isttr47_4 : isttC [] isttG10 13 isttP47_4 := by unfold isttC; kernel_rfl
theorem isttr47_5 : isttC [] isttG10 13 isttP47_5 := by unfold isttC; kernel_rfl
theorem isttr47_6 : isttC [] isttG10 13 isttP47_6 := by unfold isttC; kernel_rfl
set_option maxRecDepth 100000 in
theorem istts47 {G : Gh} (F : Facts G isttI isttG10 isttNL) (hA : KA G) (hS : KS G) (hm : ¬ G.mono) (hT : HooksOk Tryz.prog G (hkT isT)) : SNOk Tryz.prog G isttP47 := by
  have _hA := hA; have _hS := hS; rcases hA with ⟨e0, e1, e2⟩ | ⟨e0, e1, e2⟩ | ⟨e0, e1, e2⟩ | ⟨e0, e1, e2⟩ | ⟨e0, e1, e2⟩ | ⟨e0, e1, e2⟩ | ⟨e0, e1, e2⟩
  · exact istt_sc (snap_ok progOk F (isttH F hm hT isttN) 100 isttP47_0 Tryz.func13 rfl isttr47_0) (istt_c24 e0) (istt_d1 e1 e2)
  · exact istt_sc (snap_ok progOk F (isttH F hm hT isttN) 100 isttP47_1 Tryz.func13 rfl isttr47_1) (istt_c25 e0) (istt_d3 e1 e2)
  · exact istt_sc (snap_ok progOk F (isttH F hm hT isttN) 100 isttP47_2 Tryz.func13 rfl isttr47_2) (istt_c26 e0) (istt_d5 e1 e2)
  · exact istt_sc (snap_ok progOk F (isttH F hm hT isttN) 100 isttP47_3 Tryz.func13 rfl isttr47_3) (istt_c27 e0) (istt_d7 e1 e2)
  · exact istt_sc (snap_ok progOk F (isttH F hm hT isttN) 100 isttP47_4 Tryz.func13 rfl isttr47_4) (istt_c28 e0) (istt_d9 e1 e2)
  · exact istt_sc (snap_ok progOk F (isttH F hm hT isttN) 100 isttP47_5 Tryz.func13 rfl isttr47_5) (istt_c29 e0) (istt_d11 e1 e2)
  · exact istt_sc (snap_ok progOk F (isttH F hm hT isttN) 100 isttP47_6 Tryz.func13 rfl isttr47_6) (istt_c30 e0) (istt_d13 e1 e2)
theorem isttr67_0 : isttC [] isttG10 14 isttP67_0 := by unfold isttC; kernel_rfl
theorem isttr67_1 : isttC [] isttG10 14 isttP67_1 := by unfold isttC; kernel_rfl
theorem isttr67_2 : isttC [] isttG10 14 isttP67_2 := by unfold isttC; kernel_rfl
theorem isttr67_3 : isttC [] isttG10 14 isttP67_3 := by unfold isttC; kernel_rfl
theorem isttr67_4 : isttC [] isttG10 14 isttP67_4 := by unfold isttC; kernel_rfl
set_option maxRecDepth 100000 in
theorem istts67 {G : Gh} (F : Facts G isttI isttG10 isttNL) (hA : KA G) (hS : KS G) (hm : ¬ G.mono) (hT : HooksOk Tryz.prog G (hkT isT)) : SNOk Tryz.prog G isttP67 := by
  have _hA := hA; have _hS := hS; rcases hS with ⟨e0, e1, e2, e3, e4, e5, e6, e7, e8⟩ | ⟨e0, e1, e2, e3, e4, e5, e6, e7, e8⟩ | ⟨e0, e1, e2, e3, e4, e5, e6, e7, e8⟩ | ⟨e0, e1, e2, e3, e4, e5, e6, e7, e8⟩ | ⟨e0, e1, e2, e3, e4, e5, e6, e7, e8⟩
  · exact istt_sc (snap_ok progOk F (isttH F hm hT isttN) 100 isttP67_0 Tryz.func14 rfl isttr67_0) (istt_c31 e0) (istt_d15 e1 e2 e3 e4 e5 e6 e7 e8)
  · exact istt_sc (snap_ok progOk F (isttH F hm hT isttN) 100 isttP67_1 Tryz.func14 rfl isttr67_1) (istt_c32 e0) (istt_d17 e1 e2 e3 e4 e5 e6 e7 e8)
  · exact istt_sc (snap_ok progOk F (isttH F hm hT isttN) 100 isttP67_2 Tryz.func14 rfl isttr67_2) (istt_c33 e0) (istt_d19 e1 e2 e3 e4 e5 e6 e7 e8)
  · exact istt_sc (snap_ok progOk F (isttH F hm hT isttN) 100 isttP67_3 Tryz.func14 rfl isttr67_3) (istt_c34 e0) (istt_d21 e1 e2 e3 e4 e5 e6 e7 e8)
  · exact istt_sc (snap_ok progOk F (isttH F hm hT isttN) 100 isttP67_4 Tryz.func14 rfl isttr67_4) (istt_c35 e0) (istt_d23 e1 e2 e3 e4 e5 e6 e7 e8)
theorem isttr21 : isSn isttP21 (callN (isttE [isttP9, isttP10] isttI isttG11) 100 10 isttP21.args isttP21.h0) = true := by kernel_rfl
set_option maxRecDepth 100000 in
theorem istts21 {G : Gh} (F : Facts G isttI isttG11 isttNL) (hA : KA G) (hS : KS G) (hm : ¬ G.mono) (hT : HooksOk Tryz.prog G (hkT isT)) : SNOk Tryz.prog G isttP21 := by have _hA := hA; have _hS := hS; exact snap_ok progOk F (isttH F hm hT (List.forall_mem_cons.2 ⟨istts9 ⟨F.bd, F.ge.2.2.2.2, F.nl⟩ hA hS hm hT, (List.forall_mem_cons.2 ⟨istts10 ⟨F.bd, F.ge.2.2.2.2, F.nl⟩ hA hS hm hT, isttN⟩)⟩)) 100 isttP21 Tryz.func10 rfl isttr21
theorem isttr31 : isSn isttP31 (callN (isttE [] isttI isttG11) 100 10 isttP31.args isttP31.h0) = true := by kernel_rfl
set_option maxRecDepth 100000 in
theorem istts31 {G : Gh} (F : Facts G isttI isttG11 isttNL) (hA : KA G) (hS : KS G) (hm : ¬ G.mono) (hT : HooksOk Tryz.prog G (hkT isT)) : SNOk Tryz.prog G isttP31 := by have _hA := hA; have _hS := hS; exact snap_ok progOk F (isttH F hm hT isttN) 100 isttP31 Tryz.func10 rfl isttr31
end Go.Proofs.YtkhckfpflfkjmaaGreat
