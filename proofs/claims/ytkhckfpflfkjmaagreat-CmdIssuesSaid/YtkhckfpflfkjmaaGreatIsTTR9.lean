/- complinelaw28.CmdIssues: runs, part 9. -/
import Derived.Test.YtkhckfpflfkjmaaGreatIsTTQ
import Derived.Test.YtkhckfpflfkjmaaGreatIsTTR8
namespace Go.Proofs.YtkhckfpflfkjmaaGreat
open Go Go.RowKit Gv Gv.Lt
theorem isttr74 : isSn isttP74 (callN (isttE [] isttI isttG27) 100 10 isttP74.args isttP74.h0) = true := by kernel_rfl
set_option maxRecDepth 100000 in
theorem istts74 {G : Gh} (F : Facts G isttI isttG27 isttNL) (hA : KA G) (hS : KS G) (hm : ¬ G.mono) (hT : HooksOk Tryz.prog G (hkT isT)) : SNOk Tryz.prog G isttP74 := by have _hA := hA; have _hS := hS; exact snap_ok progOk F (isttH F hm hT isttN) 100 isttP74 Tryz.func10 rfl isttr74
theorem isttr99_0 : isttC [] isttG27 13 isttP99_0 := by unfold isttC; kernel_rfl
theorem isttr99_1 : isttC [] isttG27 13 isttP99_1 := by unfold isttC; kernel_rfl
theorem isttr99_2 : isttC [] isttG27 13 isttP99_2 := by unfold isttC; kernel_rfl
theorem isttr99_3 : isttC [] isttG27 13 isttP99_3 := by unfold isttC; kernel_rfl
theorem isttr99_4 : isttC [] isttG27 13 isttP99_4 := by unfold isttC; kernel_rfl
theorem isttr99_5 : isttC [] isttG27 13 isttP99_5 := by unfold isttC; kernel_rfl
theorem isttr99_6 : isttC [] isttG27 13 isttP99_6 := by unfold isttC; kernel_rfl
set_option maxRecDepth 100000 in
theorem istts99 {G : Gh} (F : Facts G isttI isttG27 isttNL) (hA : KA G) (hS : KS G) (hm : ¬ G.mono) (hT : HooksOk Tryz.prog G (hkT isT)) : SNOk Tryz.prog G isttP99 := by
  have _hA := hA; have _hS := hS; rcases hA with ⟨e0, e1, e2⟩ | ⟨e0, e1, e2⟩ | ⟨e0, e1, e2⟩ | ⟨e0, e1, e2⟩ | ⟨e0, e1, e2⟩ | ⟨e0, e1, e2⟩ | ⟨e0, e1, e2⟩
  · exact istt_sc (snap_ok progOk F (isttH F hm hT isttN) 100 isttP99_0 Tryz.func13 rfl isttr99_0) (istt_c24 e0) (istt_d1 e1 e2)
  · exact istt_sc (snap_ok progOk F (isttH F hm hT isttN) 100 isttP99_1 Tryz.func13 rfl isttr99_1) (istt_c25 e0) (istt_d3 e1 e2)
  · exact istt_sc (snap_ok progOk F (isttH F hm hT isttN) 100 isttP99_2 Tryz.func13 rfl isttr99_2) (istt_c26 e0) (istt_d5 e1 e2)
  · exact istt_sc (snap_ok progOk F (isttH F hm hT isttN) 100 isttP99_3 Tryz.func13 rfl isttr99_3) (istt_c27 e0) (istt_d7 e1 e2)
  · exact istt_sc (snap_ok progOk F (isttH F hm hT isttN) 100 isttP99_4 Tryz.func13 rfl isttr99_4) (istt_c28 e0) (istt_d9 e1 e2)
  · exact istt_sc (snap_ok progOk F (isttH F hm hT isttN) 100 isttP99_5 Tryz.func13 rfl isttr99_5) (istt_c29 e0) (istt_d11 e1 e2)
  · exact istt_sc (snap_ok progOk F (isttH F hm hT isttN) 100 isttP99_6 Tryz.func13 rfl isttr99_6) (istt_c30 e0) (istt_d13 e1 e2)
theorem isttr116_0 : isttC [] isttG27 14 isttP116_0 := by unfold isttC; kernel_rfl
theorem isttr116_1 : isttC [] isttG27 14 isttP116_1 := by unfold isttC; kernel_rfl
theorem isttr116_2 : isttC [] isttG27 14 isttP116_2 := by unfold isttC; kernel_rfl
theorem isttr116_3 : isttC [] isttG27 14 isttP116_3 := by unfold isttC; kernel_rfl
theorem isttr116_4 : isttC [] isttG27 14 isttP116_4 := by unfold isttC; kernel_rfl
set_option maxRecDepth 100000 in
theorem istts116 {G : Gh} (F : Facts G isttI isttG27 isttNL) (hA : KA G) (hS : KS G) (hm : ¬ G.mono) (hT : HooksOk Tryz.prog G (hkT isT)) : SNOk Tryz.prog G isttP116 := by
  have _hA := hA; have _hS := hS; rcases hS with ⟨e0, e1, e2, e3, e4, e5, e6, e7, e8⟩ | ⟨e0, e1, e2, e3, e4, e5, e6, e7, e8⟩ | ⟨e0, e1, e2, e3, e4, e5, e6, e7, e8⟩ | ⟨e0, e1, e2, e3, e4, e5, e6, e7, e8⟩ | ⟨e0, e1, e2, e3, e4, e5, e6, e7, e8⟩
  · exact istt_sc (snap_ok progOk F (isttH F hm hT isttN) 100 isttP116_0 Tryz.func14 rfl isttr116_0) (istt_c31 e0) (istt_d15 e1 e2 e3 e4 e5 e6 e7 e8)
  · exact istt_sc (snap_ok progOk F (isttH F hm hT isttN) 100 isttP116_1 Tryz.func14 rfl isttr116_1) (istt_c32 e0) (istt_d17 e1 e2 e3 e4 e5 e6 e7 e8)
  · exact istt_sc (snap_ok progOk F (isttH F hm hT isttN) 100 isttP116_2 Tryz.func14 rfl isttr116_2) (istt_c33 e0) (istt_d19 e1 e2 e3 e4 e5 e6 e7 e8)
  · exact istt_sc (snap_ok progOk F (isttH F hm hT isttN) 100 isttP116_3 Tryz.func14 rfl isttr116_3) (istt_c34 e0) (istt_d21 e1 e2 e3 e4 e5 e6 e7 e8)
  · exact istt_sc (snap_ok progOk F (isttH F hm hT isttN) 100 isttP116_4 Tryz.func14 rfl isttr116_4) (istt_c35 e0) (istt_d23 e1 e2 e3 e4 e5 e6 e7 e8)
theorem isttr54 : isSn isttP54 (callN (isttE [isttP27, isttP35] isttI isttG28) 100 10 isttP54.args isttP54.h0) = true := by kernel_rfl
set_option maxRecDepth 100000 in
theorem istts54 {G : Gh} (F : Facts G isttI isttG28 isttNL) (hA : KA G) (hS : KS G) (hm : ¬ G.mono) (hT : HooksOk Tryz.prog G (hkT isT)) : SNOk Tryz.prog G isttP54 := by have _hA := hA; have _hS := hS; exact snap_ok progOk F (isttH F hm hT (List.forall_mem_cons.2 ⟨istts27 ⟨F.bd, F.ge.2.2, F.nl⟩ hA hS hm hT, (List.forall_mem_cons.2 ⟨istts35 ⟨F.bd, F.ge.2.2, F.nl⟩ hA hS hm hT, isttN⟩)⟩)) 100 isttP54 Tryz.func10 rfl isttr54
theorem isttr72 : isSn isttP72 (callN (isttE [] isttI isttG28) 100 10 isttP72.args isttP72.h0) = true := by kernel_rfl
set_option maxRecDepth 100000 in
theorem istts72 {G : Gh} (F : Facts G isttI isttG28 isttNL) (hA : KA G) (hS : KS G) (hm : ¬ G.mono) (hT : HooksOk Tryz.prog G (hkT isT)) : SNOk Tryz.prog G isttP72 := by have _hA := hA; have _hS := hS; exact snap_ok progOk F (isttH F hm hT isttN) 100 isttP72 Tryz.func10 rfl isttr72
theorem isttr96_0 : isttC [] isttG28 13 isttP96_0 := by unfold isttC; kernel_rfl
theorem isttr96_1 : isttC [] isttG28 13 isttP96_1 := by unfold isttC; kernel_rfl
theorem isttr96_2 : isttC [] isttG28 13 isttP96_2 := by unfold isttC; kernel_rfl
theorem isttr96_3 : isttC [] isttG28 13 isttP96_3 := by unfold isttC; kernel_rfl
theorem isttr96_4 : isttC [] isttG28 13 isttP96_4 := by unfold isttC; kernel_rfl
theorem isttr96_5 : isttC [] isttG28 13 isttP96_5 := by unfold isttC; kernel_rfl
theorem isttr96_6 : isttC [] isttG28 13 isttP96_6 := by unfold isttC; kernel_rfl
set_option maxRecDepth 100000 in
theorem istts96 {G : Gh} (F : Facts G isttI isttG28 isttNL) (hA : KA G) (hS : KS G) (hm : ¬ G.mono) (hT : HooksOk Tryz.prog G (hkT isT)) : SNOk Tryz.prog G isttP96 := by
  have _hA := hA; have _hS := hS; rcases hA with ⟨e0, e1, e2⟩ | ⟨e0, e1, e2⟩ | ⟨e0, e1, e2⟩ | ⟨e0, e1, e2⟩ | ⟨e0, e1, e2⟩ | ⟨e0, e1, e2⟩ | ⟨e0, e1, e2⟩
  · exact istt_sc (snap_ok progOk F (isttH F hm hT isttN) 100 isttP96_0 Tryz.func13 rfl isttr96_0) (istt_c24 e0) (istt_d1 e1 e2)
  · exact istt_sc (snap_ok progOk F (isttH F hm hT isttN) 100 isttP96_1 Tryz.func13 rfl isttr96_1) (istt_c25 e0) (istt_d3 e1 e2)
  · exact istt_sc (snap_ok progOk F (isttH F hm hT isttN) 100 isttP96_2 Tryz.func13 rfl isttr96_2) (istt_c26 e0) (istt_d5 e1 e2)
  · exact istt_sc (snap_ok progOk F (isttH F hm hT isttN) 100 isttP96_3 Tryz.func13 rfl isttr96_3) (istt_c27 e0) (istt_d7 e1 e2)
  · exact istt_sc (snap_ok progOk F (isttH F hm hT isttN) 100 isttP96_4 Tryz.func13 rfl isttr96_4) (istt_c28 e0) (istt_d9 e1 e2)
  · exact istt_sc (snap_ok progOk F (isttH F hm hT isttN) 100 isttP96_5 Tryz.func13 rfl isttr96_5) (istt_c29 e0) (istt_d11 e1 e2)
  · exact istt_sc (snap_ok progOk F (isttH F hm hT isttN) 100 isttP96_6 Tryz.func13 rfl isttr96_6) (istt_c30 e0) (istt_d13 e1 e2)
theorem isttr113_0 : isttC [] isttG28 14 isttP113_0 := by unfold isttC; kernel_rfl
theorem isttr113_1 : isttC [] isttG28 14 isttP113_1 := by unfold isttC; kernel_rfl
theorem isttr113_2 : isttC [] isttG28 14 isttP113_2 := by unfold isttC; kernel_rfl
theorem isttr113_3 : isttC [] isttG28 14 isttP113_3 := by unfold isttC; kernel_rfl
theorem isttr113_4 : isttC [] isttG28 14 isttP113_4 := by unfold isttC; kernel_rfl
set_option maxRecDepth 100000 in
theorem istts113 {G : Gh} (F : Facts G isttI isttG28 isttNL) (hA : KA G) (hS : KS G) (hm : ¬ G.mono) (hT : HooksOk Tryz.prog G (hkT isT)) : SNOk Tryz.prog G isttP113 := by
  have _hA := hA; have _hS := hS; rcases hS with ⟨e0, e1, e2, e3, e4, e5, e6, e7, e8⟩ | ⟨e0, e1, e2, e3, e4, e5, e6, e7, e8⟩ | ⟨e0, e1, e2, e3, e4, e5, e6, e7, e8⟩ | ⟨e0, e1, e2, e3, e4, e5, e6, e7, e8⟩ | ⟨e0, e1, e2, e3, e4, e5, e6, e7, e8⟩
  · exact istt_sc (snap_ok progOk F (isttH F hm hT isttN) 100 isttP113_0 Tryz.func14 rfl isttr113_0) (istt_c31 e0) (istt_d15 e1 e2 e3 e4 e5 e6 e7 e8)
  · exact istt_sc (snap_ok progOk F (isttH F hm hT isttN) 100 isttP113_1 Tryz.func14 rfl isttr113_1) (istt_c32 e0) (istt_d17 e1 e2 e3 e4 e5 e6 e7 e8)
  · exact istt_sc (snap_ok progOk F (isttH F hm hT isttN) 100 isttP113_2 Tryz.func14 rfl isttr113_2) (istt_c33 e0) (istt_d19 e1 e2 e3 e4 e5 e6 e7 e8)
  · exact istt_sc (snap_ok progOk F (isttH F hm hT isttN) 100 isttP113_3 Tryz.func14 rfl isttr113_3) (istt_c34 e0) (istt_d21 e1 e2 e3 e4 e5 e6 e7 e8)
  · exact istt_sc (snap_ok progOk F (isttH F hm hT isttN) 100 isttP113_4 Tryz.func14 rfl isttr113_4) (istt_c35 e0) (istt_d23 e1 e2 e3 e4 e5 e6 e7 e8)
theorem isttr55 : isSn isttP55 (callN (isttE [isttP27, isttP35] isttI isttG29) 100 10 isttP55.args isttP55.h0) = true := by kernel_rfl
set_option maxRecDepth 100000 in
theorem istts55 {G : Gh} (F : Facts G isttI isttG29 isttNL) (hA : KA G) (hS : KS G) (hm : ¬ G.mono) (hT : HooksOk Tryz.prog G (hkT isT)) : SNOk Tryz.prog G isttP55 := by have _hA := hA; have _hS := hS; exact snap_ok progOk F (isttH F hm hT (List.forall_mem_cons.2 ⟨istts27 ⟨F.bd, F.ge.2.2.2.2, F.nl⟩ hA hS hm hT, (List.forall_mem_cons.2 ⟨istts35 ⟨F.bd, F.ge.2.2.2.2, F.nl⟩ hA hS hm hT, isttN⟩)⟩)) 100 isttP55 Tryz.func10 rfl isttr55
theorem isttr71 : isSn isttP71 (callN (isttE [] isttI isttG29) 100 10 isttP71.args isttP71.h0) = true := by kernel_rfl
set_option maxRecDepth 100000 in
theorem istts71 {G : Gh} (F : Facts G isttI isttG29 isttNL) (hA : KA G) (hS : KS G) (hm : ¬ G.mono) (hT : HooksOk Tryz.prog G (hkT isT)) : SNOk Tryz.prog G isttP71 := by have _hA := hA; have _hS := hS; exact snap_ok progOk F (isttH F hm hT isttN) 100 isttP71 Tryz.func10 rfl isttr71
theorem isttr95_0 : isttC [] isttG29 13 isttP95_0 := by unfold isttC; kernel_rfl
theorem isttr95_1 : isttC [] isttG29 13 isttP95_1 := by unfold isttC; kernel_rfl
theorem isttr95_2 : isttC [] isttG29 13 isttP95_2 := by unfold isttC; kernel_rfl
theorem isttr95_3 : isttC [] isttG29 13 isttP95_3 := by unfold isttC; kernel_rfl
theorem isttr95_4 : isttC [] isttG29 13 isttP95_4 := by unfold isttC; kernel_rfl
theorem isttr95_5 : isttC [] isttG29 13 isttP95_5 := by unfold isttC; kernel_rfl
theorem isttr95_6 : isttC [] isttG29 13 isttP95_6 := by unfold isttC; kernel_rfl
set_option maxRecDepth 100000 in
theorem istts95 {G : Gh} (F : Facts G isttI isttG29 isttNL) (hA : KA G) (hS : KS G) (hm : ¬ G.mono) (hT : HooksOk Tryz.prog G (hkT isT)) : SNOk Tryz.prog G isttP95 := by
  have _hA := hA; have _hS := hS; rcases hA with ⟨e0, e1, e2⟩ | ⟨e0, e1, e2⟩ | ⟨e0, e1, e2⟩ | ⟨e0, e1, e2⟩ | ⟨e0, e1, e2⟩ | ⟨e0, e1, e2⟩ | ⟨e0, e1, e2⟩
  · exact istt_sc (snap_ok progOk F (isttH F hm hT isttN) 100 isttP95_0 Tryz.func13 rfl isttr95_0) (istt_c24 e0) (istt_d1 e1 e2)
  · exact istt_sc (snap_ok progOk F (isttH F hm hT isttN) 100 isttP95_1 Tryz.func13 rfl isttr95_1) (istt_c25 e0) (istt_d3 e1 e2)
  · exact istt_sc (snap_ok progOk F (isttH F hm hT isttN) 100 isttP95_2 Tryz.func13 rfl isttr95_2) (istt_c26 e0) (istt_d5 e1 e2)
  · exact istt_sc (snap_ok progOk F (isttH F hm hT isttN) 100 isttP95_3 Tryz.func13 rfl isttr95_3) (istt_c27 e0) (istt_d7 e1 e2)
  · exact istt_sc (snap_ok progOk F (isttH F hm hT isttN) 100 isttP95_4 Tryz.func13 rfl isttr95_4) (istt_c28 e0) (istt_d9 e1 e2)
  · exact istt_sc (snap_ok progOk F (isttH F hm hT isttN) 100 isttP95_5 Tryz.func13 rfl isttr95_5) (istt_c29 e0) (istt_d11 e1 e2)
  · exact istt_sc (snap_ok progOk F (isttH F hm hT isttN) 100 isttP95_6 Tryz.func13 rfl isttr95_6) (istt_c30 e0) (istt_d13 e1 e2)
theorem isttr112_0 : isttC [] isttG29 14 isttP112_0 := by unfold isttC; kernel_rfl
theorem isttr112_1 : isttC [] isttG29 14 isttP112_1 := by unfold isttC; kernel_rfl
theorem isttr112_2 : isttC [] isttG29 14 isttP112_2 := by unfold isttC; kernel_rfl
theorem isttr112_3 : isttC [] isttG29 14 isttP112_3 := by unfold isttC; kernel_rfl
theorem isttr112_4 : isttC [] isttG29 14 isttP112_4 := by unfold isttC; kernel_rfl
set_option maxRecDepth 100000 in
theorem istts112 {G : Gh} (F : Facts G isttI isttG29 isttNL) (hA : KA G) (hS : KS G) (hm : ¬ G.mono) (hT : HooksOk Tryz.prog G (hkT isT)) : SNOk Tryz.prog G isttP112 := by
  have _hA := hA; have _hS := hS; rcases hS with ⟨e0, e1, e2, e3, e4, e5, e6, e7, e8⟩ | ⟨e0, e1, e2, e3, e4, e5, e6, e7, e8⟩ | ⟨e0, e1, e2, e3, e4, e5, e6, e7, e8⟩ | ⟨e0, e1, e2, e3, e4, e5, e6, e7, e8⟩ | ⟨e0, e1, e2, e3, e4, e5, e6, e7, e8⟩
  · exact istt_sc (snap_ok progOk F (isttH F hm hT isttN) 100 isttP112_0 Tryz.func14 rfl isttr112_0) (istt_c31 e0) (istt_d15 e1 e2 e3 e4 e5 e6 e7 e8)
  · exact istt_sc (snap_ok progOk F (isttH F hm hT isttN) 100 isttP112_1 Tryz.func14 rfl isttr112_1) (istt_c32 e0) (istt_d17 e1 e2 e3 e4 e5 e6 e7 e8)
  · exact istt_sc (snap_ok progOk F (isttH F hm hT isttN) 100 isttP112_2 Tryz.func14 rfl isttr112_2) (istt_c33 e0) (istt_d19 e1 e2 e3 e4 e5 e6 e7 e8)
  · exact istt_sc (snap_ok progOk F (isttH F hm hT isttN) 100 isttP112_3 Tryz.func14 rfl isttr112_3) (istt_c34 e0) (istt_d21 e1 e2 e3 e4 e5 e6 e7 e8)
  · exact istt_sc (snap_ok progOk F (isttH F hm hT isttN) 100 isttP112_4 Tryz.func14 rfl isttr112_4) (istt_c35 e0) (istt_d23 e1 e2 e3 e4 e5 e6 e7 e8)
theorem isttr56 : isSn isttP56 (callN (isttE [isttP27, isttP35] isttI isttG30) 100 10 isttP56.args isttP56.h0) = true := by kernel_rfl
set_option maxRecDepth 100000 in
theorem istts56 {G : Gh} (F : Facts G isttI isttG30 isttNL) (hA : KA G) (hS : KS G) (hm : ¬ G.mono) (hT : HooksOk Tryz.prog G (hkT isT)) : SNOk Tryz.prog G isttP56 := by have _hA := hA; have _hS := hS; exact snap_ok progOk F (isttH F hm hT (List.forall_mem_cons.2 ⟨istts27 ⟨F.bd, F.ge.2.2.2.2.2, F.nl⟩ hA hS hm hT, (List.forall_mem_cons.2 ⟨istts35 ⟨F.bd, F.ge.2.2.2.2.2, F.nl⟩ hA hS hm hT, isttN⟩)⟩)) 100 isttP56 Tryz.func10 rfl isttr56
theorem isttr76 : isSn isttP76 (callN (isttE [] isttI isttG30) 100 10 isttP76.args isttP76.h0) = true := by kernel_rfl
set_option maxRecDepth 100000 in
theorem istts76 {G : Gh} (F : Facts G isttI isttG30 isttNL) (hA : KA G) (hS : KS G) (hm : ¬ G.mono) (hT : HooksOk Tryz.prog G (hkT isT)) : SNOk Tryz.prog G isttP76 := by have _hA := hA; have _hS := hS; exact snap_ok progOk F (isttH F hm hT isttN) 100 isttP76 Tryz.func10 rfl isttr76
end Go.Proofs.YtkhckfpflfkjmaaGreat
