/- complinelaw28.CmdIssues: runs, part 2. -/
import Derived.Test.YtkhckfpflfkjmaaGreatIsTTQ
import Derived.Test.YtkhckfpflfkjmaaGreatIsTTR0
namespace Go.Proofs.YtkhckfpflfkjmaaGreat
open Go Go.RowKit Gv Gv.Lt
theorem isttr28 : isSn isttP28 (callN (isttE [] isttI isttG5) 100 10 isttP28.args isttP28.h0) = true := by kernel_rfl
set_option maxRecDepth 100000 in
theorem istts28 {G : Gh} (F : Facts G isttI isttG5 isttNL) (hA : KA G) (hS : KS G) (hm : ¬ G.mono) (hT : HooksOk Tryz.prog G (hkT isT)) : SNOk Tryz.prog G isttP28 := by have _hA := hA; have _hS := hS; exact snap_ok progOk F (isttH F hm hT isttN) 100 isttP28 Tryz.func10 rfl isttr28
theorem isttr42_0 : isttC [] isttG5 13 isttP42_0 := by unfold isttC; kernel_rfl
theorem isttr42_1 : isttC [] isttG5 13 isttP42_1 := by unfold isttC; kernel_rfl
theorem isttr42_2 : isttC [] isttG5 13 isttP42_2 := by unfold isttC; kernel_rfl
theorem isttr42_3 : isttC [] isttG5 13 isttP42_3 := by unfold isttC; kernel_rfl
theorem isttr42_4 : isttC [] isttG5 13 isttP42_4 := by unfold isttC; kernel_rfl
theorem isttr42_5 : isttC [] isttG5 13 isttP42_5 := by unfold isttC; kernel_rfl
theorem isttr42_6 : isttC [] isttG5 13 isttP42_6 := by unfold isttC; kernel_rfl
set_option maxRecDepth 100000 in
theorem istts42 {G : Gh} (F : Facts G isttI isttG5 isttNL) (hA : KA G) (hS : KS G) (hm : ¬ G.mono) (hT : HooksOk Tryz.prog G (hkT isT)) : SNOk Tryz.prog G isttP42 := by
  have _hA := hA; have _hS := hS; rcases hA with ⟨e0, e1, e2⟩ | ⟨e0, e1, e2⟩ | ⟨e0, e1, e2⟩ | ⟨e0, e1, e2⟩ | ⟨e0, e1, e2⟩ | ⟨e0, e1, e2⟩ | ⟨e0, e1, e2⟩
  · exact istt_sc (snap_ok progOk F (isttH F hm hT isttN) 100 isttP42_0 Tryz.func13 rfl isttr42_0) (istt_c24 e0) (istt_d1 e1 e2)
  · exact istt_sc (snap_ok progOk F (isttH F hm hT isttN) 100 isttP42_1 Tryz.func13 rfl isttr42_1) (istt_c25 e0) (istt_d3 e1 e2)
  · exact istt_sc (snap_ok progOk F (isttH F hm hT isttN) 100 isttP42_2 Tryz.func13 rfl isttr42_2) (istt_c26 e0) (istt_d5 e1 e2)
  · exact istt_sc (snap_ok progOk F (isttH F hm hT isttN) 100 isttP42_3 Tryz.func13 rfl isttr42_3) (istt_c27 e0) (istt_d7 e1 e2)
  · exact istt_sc (snap_ok progOk F (isttH F hm hT isttN) 100 isttP42_4 Tryz.func13 rfl isttr42_4) (istt_c28 e0) (istt_d9 e1 e2)
  · exact istt_sc (snap_ok progOk F (isttH F hm hT isttN) 100 isttP42_5 Tryz.func13 rfl isttr42_5) (istt_c29 e0) (istt_d11 e1 e2)
  · exact istt_sc (snap_ok progOk F (isttH F hm hT isttN) 100 isttP42_6 Tryz.func13 rfl isttr42_6) (istt_c30 e0) (istt_d13 e1 e2)
theorem isttr63_0 : isttC [] isttG5 14 isttP63_0 := by unfold isttC; kernel_rfl
theorem isttr63_1 : isttC [] isttG5 14 isttP63_1 := by unfold isttC; kernel_rfl
theorem isttr63_2 : isttC [] isttG5 14 isttP63_2 := by unfold isttC; kernel_rfl
theorem isttr63_3 : isttC [] isttG5 14 isttP63_3 := by unfold isttC; kernel_rfl
theorem isttr63_4 : isttC [] isttG5 14 isttP63_4 := by unfold isttC; kernel_rfl
set_option maxRecDepth 100000 in
theorem istts63 {G : Gh} (F : Facts G isttI isttG5 isttNL) (hA : KA G) (hS : KS G) (hm : ¬ G.mono) (hT : HooksOk Tryz.prog G (hkT isT)) : SNOk Tryz.prog G isttP63 := by
  have _hA := hA; have _hS := hS; rcases hS with ⟨e0, e1, e2, e3, e4, e5, e6, e7, e8⟩ | ⟨e0, e1, e2, e3, e4, e5, e6, e7, e8⟩ | ⟨e0, e1, e2, e3, e4, e5, e6, e7, e8⟩ | ⟨e0, e1, e2, e3, e4, e5, e6, e7, e8⟩ | ⟨e0, e1, e2, e3, e4, e5, e6, e7, e8⟩
  · exact istt_sc (snap_ok progOk F (isttH F hm hT isttN) 100 isttP63_0 Tryz.func14 rfl isttr63_0) (istt_c31 e0) (istt_d15 e1 e2 e3 e4 e5 e6 e7 e8)
  · exact istt_sc (snap_ok progOk F (isttH F hm hT isttN) 100 isttP63_1 Tryz.func14 rfl isttr63_1) (istt_c32 e0) (istt_d17 e1 e2 e3 e4 e5 e6 e7 e8)
  · exact istt_sc (snap_ok progOk F (isttH F hm hT isttN) 100 isttP63_2 Tryz.func14 rfl isttr63_2) (istt_c33 e0) (istt_d19 e1 e2 e3 e4 e5 e6 e7 e8)
  · exact istt_sc (snap_ok progOk F (isttH F hm hT isttN) 100 isttP63_3 Tryz.func14 rfl isttr63_3) (istt_c34 e0) (istt_d21 e1 e2 e3 e4 e5 e6 e7 e8)
  · exact istt_sc (snap_ok progOk F (isttH F hm hT isttN) 100 isttP63_4 Tryz.func14 rfl isttr63_4) (istt_c35 e0) (istt_d23 e1 e2 e3 e4 e5 e6 e7 e8)
theorem isttr4 : isSn isttP4 (callN (isttE [isttP1, isttP2] isttI isttG6) 100 10 isttP4.args isttP4.h0) = true := by kernel_rfl
set_option maxRecDepth 100000 in
theorem istts4 {G : Gh} (F : Facts G isttI isttG6 isttNL) (hA : KA G) (hS : KS G) (hm : ¬ G.mono) (hT : HooksOk Tryz.prog G (hkT isT)) : SNOk Tryz.prog G isttP4 := by have _hA := hA; have _hS := hS; exact snap_ok progOk F (isttH F hm hT (List.forall_mem_cons.2 ⟨istts1 ⟨F.bd, trivial, F.nl⟩ hA hS hm hT, (List.forall_mem_cons.2 ⟨istts2 ⟨F.bd, trivial, F.nl⟩ hA hS hm hT, isttN⟩)⟩)) 100 isttP4 Tryz.func10 rfl isttr4
theorem isttr9_0 : isttC [] isttG6 352 isttP9_0 := by unfold isttC; kernel_rfl
theorem isttr9_1 : isttC [] isttG6 352 isttP9_1 := by unfold isttC; kernel_rfl
theorem isttr9_2 : isttC [] isttG6 352 isttP9_2 := by unfold isttC; kernel_rfl
theorem isttr9_3 : isttC [] isttG6 352 isttP9_3 := by unfold isttC; kernel_rfl
theorem isttr9_4 : isttC [] isttG6 352 isttP9_4 := by unfold isttC; kernel_rfl
theorem isttr9_5 : isttC [] isttG6 352 isttP9_5 := by unfold isttC; kernel_rfl
theorem isttr9_6 : isttC [] isttG6 352 isttP9_6 := by unfold isttC; kernel_rfl
set_option maxRecDepth 100000 in
theorem istts9 {G : Gh} (F : Facts G isttI isttG6 isttNL) (hA : KA G) (hS : KS G) (hm : ¬ G.mono) (hT : HooksOk Tryz.prog G (hkT isT)) : SNOk Tryz.prog G isttP9 := by
  have _hA := hA; have _hS := hS; rcases hA with ⟨e0, e1, e2⟩ | ⟨e0, e1, e2⟩ | ⟨e0, e1, e2⟩ | ⟨e0, e1, e2⟩ | ⟨e0, e1, e2⟩ | ⟨e0, e1, e2⟩ | ⟨e0, e1, e2⟩
  · exact istt_sc (snap_ok progOk F (isttH F hm hT isttN) 100 isttP9_0 Tryz.func352 rfl isttr9_0) (istt_c0 e0) (istt_d1 e1 e2)
  · exact istt_sc (snap_ok progOk F (isttH F hm hT isttN) 100 isttP9_1 Tryz.func352 rfl isttr9_1) (istt_c2 e0) (istt_d3 e1 e2)
  · exact istt_sc (snap_ok progOk F (isttH F hm hT isttN) 100 isttP9_2 Tryz.func352 rfl isttr9_2) (istt_c4 e0) (istt_d5 e1 e2)
  · exact istt_sc (snap_ok progOk F (isttH F hm hT isttN) 100 isttP9_3 Tryz.func352 rfl isttr9_3) (istt_c6 e0) (istt_d7 e1 e2)
  · exact istt_sc (snap_ok progOk F (isttH F hm hT isttN) 100 isttP9_4 Tryz.func352 rfl isttr9_4) (istt_c8 e0) (istt_d9 e1 e2)
  · exact istt_sc (snap_ok progOk F (isttH F hm hT isttN) 100 isttP9_5 Tryz.func352 rfl isttr9_5) (istt_c10 e0) (istt_d11 e1 e2)
  · exact istt_sc (snap_ok progOk F (isttH F hm hT isttN) 100 isttP9_6 Tryz.func352 rfl isttr9_6) (istt_c12 e0) (istt_d13 e1 e2)
theorem isttr10_0 : isttC [] isttG6 95 isttP10_0 := by unfold isttC; kernel_rfl
theorem isttr10_1 : isttC [] isttG6 95 isttP10_1 := by unfold isttC; kernel_rfl
theorem isttr10_2 : isttC [] isttG6 95 isttP10_2 := by unfold isttC; kernel_rfl
theorem isttr10_3 : isttC [] isttG6 95 isttP10_3 := by unfold isttC; kernel_rfl
theorem isttr10_4 : isttC [] isttG6 95 isttP10_4 := by unfold isttC; kernel_rfl
set_option maxRecDepth 100000 in
theorem istts10 {G : Gh} (F : Facts G isttI isttG6 isttNL) (hA : KA G) (hS : KS G) (hm : ¬ G.mono) (hT : HooksOk Tryz.prog G (hkT isT)) : SNOk Tryz.prog G isttP10 := by
  have _hA := hA; have _hS := hS; rcases hS with ⟨e0, e1, e2, e3, e4, e5, e6, e7, e8⟩ | ⟨e0, e1, e2, e3, e4, e5, e6, e7, e8⟩ | ⟨e0, e1, e2, e3, e4, e5, e6, e7, e8⟩ | ⟨e0, e1, e2, e3, e4, e5, e6, e7, e8⟩ | ⟨e0, e1, e2, e3, e4, e5, e6, e7, e8⟩
  · exact istt_sc (snap_ok progOk F (isttH F hm hT isttN) 100 isttP10_0 Tryz.func95 rfl isttr10_0) (istt_c14 e0) (istt_d15 e1 e2 e3 e4 e5 e6 e7 e8)
  · exact istt_sc (snap_ok progOk F (isttH F hm hT isttN) 100 isttP10_1 Tryz.func95 rfl isttr10_1) (istt_c16 e0) (istt_d17 e1 e2 e3 e4 e5 e6 e7 e8)
  · exact istt_sc (snap_ok progOk F (isttH F hm hT isttN) 100 isttP10_2 Tryz.func95 rfl isttr10_2) (istt_c18 e0) (istt_d19 e1 e2 e3 e4 e5 e6 e7 e8)
  · exact istt_sc (snap_ok progOk F (isttH F hm hT isttN) 100 isttP10_3 Tryz.func95 rfl isttr10_3) (istt_c20 e0) (istt_d21 e1 e2 e3 e4 e5 e6 e7 e8)
  · exact istt_sc (snap_ok progOk F (isttH F hm hT isttN) 100 isttP10_4 Tryz.func95 rfl isttr10_4) (istt_c22 e0) (istt_d23 e1 e2 e3 e4 e5 e6 e7 e8)
theorem isttr13 : isSn isttP13 (callN (isttE [isttP9, isttP10] isttI isttG7) 100 10 isttP13.args isttP13.h0) = true := by kernel_rfl
set_option maxRecDepth 100000 in
theorem istts13 {G : Gh} (F : Facts G isttI isttG7 isttNL) (hA : KA G) (hS : KS G) (hm : ¬ G.mono) (hT : HooksOk Tryz.prog G (hkT isT)) : SNOk Tryz.prog G isttP13 := by have _hA := hA; have _hS := hS; exact snap_ok progOk F (isttH F hm hT (List.forall_mem_cons.2 ⟨istts9 ⟨F.bd, F.ge.2, F.nl⟩ hA hS hm hT, (List.forall_mem_cons.2 ⟨istts10 ⟨F.bd, F.ge.2, F.nl⟩ hA hS hm hT, isttN⟩)⟩)) 100 isttP13 Tryz.func10 rfl isttr13
theorem isttr22 : isSn isttP22 (callN (isttE [] isttI isttG7) 100 10 isttP22.args isttP22.h0) = true := by kernel_rfl
set_option maxRecDepth 100000 in
theorem istts22 {G : Gh} (F : Facts G isttI isttG7 isttNL) (hA : KA G) (hS : KS G) (hm : ¬ G.mono) (hT : HooksOk Tryz.prog G (hkT isT)) : SNOk Tryz.prog G isttP22 := by have _hA := hA; have _hS := hS; exact snap_ok progOk F (isttH F hm hT isttN) 100 isttP22 Tryz.func10 rfl isttr22
theorem isttr37_0 : isttC [] isttG7 13 isttP37_0 := by unfold isttC; kernel_rfl
theorem isttr37_1 : isttC [] isttG7 13 isttP37_1 := by unfold isttC; kernel_rfl
theorem isttr37_2 : isttC [] isttG7 13 isttP37_2 := by unfold isttC; kernel_rfl
theorem isttr37_3 : isttC [] isttG7 13 isttP37_3 := by unfold isttC; kernel_rfl
theorem isttr37_4 : isttC [] isttG7 13 isttP37_4 := by unfold isttC; kernel_rfl
theorem isttr37_5 : isttC [] isttG7 13 isttP37_5 := by unfold isttC; kernel_rfl
theorem isttr37_6 : isttC [] isttG7 13 isttP37_6 := by unfold isttC; kernel_rfl
set_option maxRecDepth 100000 in
theorem istts37 {G : Gh} (F : Facts G isttI isttG7 isttNL) (hA : KA G) (hS : KS G) (hm : ¬ G.mono) (hT : HooksOk Tryz.prog G (hkT isT)) : SNOk Tryz.prog G isttP37 := by
  have _hA := hA; have _hS := hS; rcases hA with ⟨e0, e1, e2⟩ | ⟨e0, e1, e2⟩ | ⟨e0, e1, e2⟩ | ⟨e0, e1, e2⟩ | ⟨e0, e1, e2⟩ | ⟨e0, e1, e2⟩ | ⟨e0, e1, e2⟩
  · exact istt_sc (snap_ok progOk F (isttH F hm hT isttN) 100 isttP37_0 Tryz.func13 rfl isttr37_0) (istt_c24 e0) (istt_d1 e1 e2)
  · exact istt_sc (snap_ok progOk F (isttH F hm hT isttN) 100 isttP37_1 Tryz.func13 rfl isttr37_1) (istt_c25 e0) (istt_d3 e1 e2)
  · exact istt_sc (snap_ok progOk F (isttH F hm hT isttN) 100 isttP37_2 Tryz.func13 rfl isttr37_2) (istt_c26 e0) (istt_d5 e1 e2)
  · exact istt_sc (snap_ok progOk F (isttH F hm hT isttN) 100 isttP37_3 Tryz.func13 rfl isttr37_3) (istt_c27 e0) (istt_d7 e1 e2)
  · exact istt_sc (snap_ok progOk F (isttH F hm hT isttN) 100 isttP37_4 Tryz.func13 rfl isttr37_4) (istt_c28 e0) (istt_d9 e1 e2)
  · exact istt_sc (snap_ok progOk F (isttH F hm hT isttN) 100 isttP37_5 Tryz.func13 rfl isttr37_5) (istt_c29 e0) (istt_d11 e1 e2)
  · exact istt_sc (snap_ok progOk F (isttH F hm hT isttN) 100 isttP37_6 Tryz.func13 rfl isttr37_6) (istt_c30 e0) (istt_d13 e1 e2)
theorem isttr58_0 : isttC [] isttG7 14 isttP58_0 := by unfold isttC; kernel_rfl
theorem isttr58_1 : isttC [] isttG7 14 isttP58_1 := by unfold isttC; kernel_rfl
theorem isttr58_2 : isttC [] isttG7 14 isttP58_2 := by unfold isttC; kernel_rfl
theorem isttr58_3 : isttC [] isttG7 14 isttP58_3 := by unfold isttC; kernel_rfl
theorem isttr58_4 : isttC [] isttG7 14 isttP58_4 := by unfold isttC; kernel_rfl
set_option maxRecDepth 100000 in
theorem istts58 {G : Gh} (F : Facts G isttI isttG7 isttNL) (hA : KA G) (hS : KS G) (hm : ¬ G.mono) (hT : HooksOk Tryz.prog G (hkT isT)) : SNOk Tryz.prog G isttP58 := by
  have _hA := hA; have _hS := hS; rcases hS with ⟨e0, e1, e2, e3, e4, e5, e6, e7, e8⟩ | ⟨e0, e1, e2, e3, e4, e5, e6, e7, e8⟩ | ⟨e0, e1, e2, e3, e4, e5, e6, e7, e8⟩ | ⟨e0, e1, e2, e3, e4, e5, e6, e7, e8⟩ | ⟨e0, e1, e2, e3, e4, e5, e6, e7, e8⟩
  · exact istt_sc (snap_ok progOk F (isttH F hm hT isttN) 100 isttP58_0 Tryz.func14 rfl isttr58_0) (istt_c31 e0) (istt_d15 e1 e2 e3 e4 e5 e6 e7 e8)
  · exact istt_sc (snap_ok progOk F (isttH F hm hT isttN) 100 isttP58_1 Tryz.func14 rfl isttr58_1) (istt_c32 e0) (istt_d17 e1 e2 e3 e4 e5 e6 e7 e8)
  · exact istt_sc (snap_ok progOk F (isttH F hm hT isttN) 100 isttP58_2 Tryz.func14 rfl isttr58_2) (istt_c33 e0) (istt_d19 e1 e2 e3 e4 e5 e6 e7 e8)
  · exact istt_sc (snap_ok progOk F (isttH F hm hT isttN) 100 isttP58_3 Tryz.func14 rfl isttr58_3) (istt_c34 e0) (istt_d21 e1 e2 e3 e4 e5 e6 e7 e8)
  · exact istt_sc (snap_ok progOk F (isttH F hm hT isttN) 100 isttP58_4 Tryz.func14 rfl isttr58_4) (istt_c35 e0) (istt_d23 e1 e2 e3 e4 e5 e6 e7 e8)
theorem isttr15 : isSn isttP15 (callN (isttE [isttP9, isttP10] isttI isttG8) 100 10 isttP15.args isttP15.h0) = true := by kernel_rfl
set_option maxRecDepth 100000 in
theorem istts15 {G : Gh} (F : Facts G isttI isttG8 isttNL) (hA : KA G) (hS : KS G) (hm : ¬ G.mono) (hT : HooksOk Tryz.prog G (hkT isT)) : SNOk Tryz.prog G isttP15 := by have _hA := hA; have _hS := hS; exact snap_ok progOk F (isttH F hm hT (List.forall_mem_cons.2 ⟨istts9 ⟨F.bd, F.ge.2.2, F.nl⟩ hA hS hm hT, (List.forall_mem_cons.2 ⟨istts10 ⟨F.bd, F.ge.2.2, F.nl⟩ hA hS hm hT, isttN⟩)⟩)) 100 isttP15 Tryz.func10 rfl isttr15
theorem isttr25 : isSn isttP25 (callN (isttE [] isttI isttG8) 100 10 isttP25.args isttP25.h0) = true := by kernel_rfl
set_option maxRecDepth 100000 in
theorem istts25 {G : Gh} (F : Facts G isttI isttG8 isttNL) (hA : KA G) (hS : KS G) (hm : ¬ G.mono) (hT : HooksOk Tryz.prog G (hkT isT)) : SNOk Tryz.prog G isttP25 := by have _hA := hA; have _hS := hS; exact snap_ok progOk F (isttH F hm hT isttN) 100 isttP25 Tryz.func10 rfl isttr25
end Go.Proofs.YtkhckfpflfkjmaaGreat
