/- complinelaw28.CmdIssues: runs, part 10. -/
import Derived.Test.YtkhckfpflfkjmaaGreatIsTTQ
import Derived.Test.YtkhckfpflfkjmaaGreatIsTTR0
import Derived.Test.YtkhckfpflfkjmaaGreatIsTTR1
import Derived.Test.YtkhckfpflfkjmaaGreatIsTTR2
import Derived.Test.YtkhckfpflfkjmaaGreatIsTTR3
import Derived.Test.YtkhckfpflfkjmaaGreatIsTTR4
import Derived.Test.YtkhckfpflfkjmaaGreatIsTTR5
import Derived.Test.YtkhckfpflfkjmaaGreatIsTTR8
namespace Go.Proofs.YtkhckfpflfkjmaaGreat
open Go Go.RowKit Gv Gv.Lt
theorem isttr100_0 : isttC [] isttG30 13 isttP100_0 := by unfold isttC; kernel_rfl
theorem isttr100_1 : isttC [] isttG30 13 isttP100_1 := by unfold isttC; kernel_rfl
theorem isttr100_2 : isttC [] isttG30 13 isttP100_2 := by unfold isttC; kernel_rfl
theorem isttr100_3 : isttC [] isttG30 13 isttP100_3 := by unfold isttC; kernel_rfl
theorem isttr100_4 : isttC [] isttG30 13 isttP100_4 := by unfold isttC; kernel_rfl
theorem isttr100_5 : isttC [] isttG30 13 isttP100_5 := by unfold isttC; kernel_rfl
theorem isttr100_6 : isttC [] isttG30 13 isttP100_6 := by unfold isttC; kernel_rfl
set_option maxRecDepth 100000 in
theorem istts100 {G : Gh} (F : Facts G isttI isttG30 isttNL) (hA : KA G) (hS : KS G) (hm : ¬ G.mono) (hT : HooksOk Tryz.prog G (hkT isT)) : SNOk Tryz.prog G isttP100 := by
  have _hA := hA; have _hS := hS; rcases hA with ⟨e0, e1, e2⟩ | ⟨e0, e1, e2⟩ | ⟨e0, e1, e2⟩ | ⟨e0, e1, e2⟩ | ⟨e0, e1, e2⟩ | ⟨e0, e1, e2⟩ | ⟨e0, e1, e2⟩
  · exact istt_sc (snap_ok progOk F (isttH F hm hT isttN) 100 isttP100_0 Tryz.func13 rfl isttr100_0) (istt_c24 e0) (istt_d1 e1 e2)
  · exact istt_sc (snap_ok progOk F (isttH F hm hT isttN) 100 isttP100_1 Tryz.func13 rfl isttr100_1) (istt_c25 e0) (istt_d3 e1 e2)
  · exact istt_sc (snap_ok progOk F (isttH F hm hT isttN) 100 isttP100_2 Tryz.func13 rfl isttr100_2) (istt_c26 e0) (istt_d5 e1 e2)
  · exact istt_sc (snap_ok progOk F (isttH F hm hT isttN) 100 isttP100_3 Tryz.func13 rfl isttr100_3) (istt_c27 e0) (istt_d7 e1 e2)
  · exact istt_sc (snap_ok progOk F (isttH F hm hT isttN) 100 isttP100_4 Tryz.func13 rfl isttr100_4) (istt_c28 e0) (istt_d9 e1 e2)
  · exact istt_sc (snap_ok progOk F (isttH F hm hT isttN) 100 isttP100_5 Tryz.func13 rfl isttr100_5) (istt_c29 e0) (istt_d11 e1 e2)
  · exact istt_sc (snap_ok progOk F (isttH F hm hT isttN) 100 isttP100_6 Tryz.func13 rfl isttr100_6) (istt_c30 e0) (istt_d13 e1 e2)
theorem isttr117_0 : isttC [] isttG30 14 isttP117_0 := by unfold isttC; kernel_rfl
theorem isttr117_1 : isttC [] isttG30 14 isttP117_1 := by unfold isttC; kernel_rfl
theorem isttr117_2 : isttC [] isttG30 14 isttP117_2 := by unfold isttC; kernel_rfl
theorem isttr117_3 : isttC [] isttG30 14 isttP117_3 := by unfold isttC; kernel_rfl
theorem isttr117_4 : isttC [] isttG30 14 isttP117_4 := by unfold isttC; kernel_rfl
set_option maxRecDepth 100000 in
theorem istts117 {G : Gh} (F : Facts G isttI isttG30 isttNL) (hA : KA G) (hS : KS G) (hm : ¬ G.mono) (hT : HooksOk Tryz.prog G (hkT isT)) : SNOk Tryz.prog G isttP117 := by
  have _hA := hA; have _hS := hS; rcases hS with ⟨e0, e1, e2, e3, e4, e5, e6, e7, e8⟩ | ⟨e0, e1, e2, e3, e4, e5, e6, e7, e8⟩ | ⟨e0, e1, e2, e3, e4, e5, e6, e7, e8⟩ | ⟨e0, e1, e2, e3, e4, e5, e6, e7, e8⟩ | ⟨e0, e1, e2, e3, e4, e5, e6, e7, e8⟩
  · exact istt_sc (snap_ok progOk F (isttH F hm hT isttN) 100 isttP117_0 Tryz.func14 rfl isttr117_0) (istt_c31 e0) (istt_d15 e1 e2 e3 e4 e5 e6 e7 e8)
  · exact istt_sc (snap_ok progOk F (isttH F hm hT isttN) 100 isttP117_1 Tryz.func14 rfl isttr117_1) (istt_c32 e0) (istt_d17 e1 e2 e3 e4 e5 e6 e7 e8)
  · exact istt_sc (snap_ok progOk F (isttH F hm hT isttN) 100 isttP117_2 Tryz.func14 rfl isttr117_2) (istt_c33 e0) (istt_d19 e1 e2 e3 e4 e5 e6 e7 e8)
  · exact istt_sc (snap_ok progOk F (isttH F hm hT isttN) 100 isttP117_3 Tryz.func14 rfl isttr117_3) (istt_c34 e0) (istt_d21 e1 e2 e3 e4 e5 e6 e7 e8)
  · exact istt_sc (snap_ok progOk F (isttH F hm hT isttN) 100 isttP117_4 Tryz.func14 rfl isttr117_4) (istt_c35 e0) (istt_d23 e1 e2 e3 e4 e5 e6 e7 e8)
theorem isttr57 : isSn isttP57 (callN (isttE [isttP27, isttP35] isttI isttG31) 100 10 isttP57.args isttP57.h0) = true := by kernel_rfl
set_option maxRecDepth 100000 in
theorem istts57 {G : Gh} (F : Facts G isttI isttG31 isttNL) (hA : KA G) (hS : KS G) (hm : ¬ G.mono) (hT : HooksOk Tryz.prog G (hkT isT)) : SNOk Tryz.prog G isttP57 := by have _hA := hA; have _hS := hS; exact snap_ok progOk F (isttH F hm hT (List.forall_mem_cons.2 ⟨istts27 ⟨F.bd, F.ge.2.2.2.2.2, F.nl⟩ hA hS hm hT, (List.forall_mem_cons.2 ⟨istts35 ⟨F.bd, F.ge.2.2.2.2.2, F.nl⟩ hA hS hm hT, isttN⟩)⟩)) 100 isttP57 Tryz.func10 rfl isttr57
theorem isttr77 : isSn isttP77 (callN (isttE [] isttI isttG31) 100 10 isttP77.args isttP77.h0) = true := by kernel_rfl
set_option maxRecDepth 100000 in
theorem istts77 {G : Gh} (F : Facts G isttI isttG31 isttNL) (hA : KA G) (hS : KS G) (hm : ¬ G.mono) (hT : HooksOk Tryz.prog G (hkT isT)) : SNOk Tryz.prog G isttP77 := by have _hA := hA; have _hS := hS; exact snap_ok progOk F (isttH F hm hT isttN) 100 isttP77 Tryz.func10 rfl isttr77
theorem isttr101_0 : isttC [] isttG31 13 isttP101_0 := by unfold isttC; kernel_rfl
theorem isttr101_1 : isttC [] isttG31 13 isttP101_1 := by unfold isttC; kernel_rfl
theorem isttr101_2 : isttC [] isttG31 13 isttP101_2 := by unfold isttC; kernel_rfl
theorem isttr101_3 : isttC [] isttG31 13 isttP101_3 := by unfold isttC; kernel_rfl
theorem isttr101_4 : isttC [] isttG31 13 isttP101_4 := by unfold isttC; kernel_rfl
theorem isttr101_5 : isttC [] isttG31 13 isttP101_5 := by unfold isttC; kernel_rfl
theorem isttr101_6 : isttC [] isttG31 13 isttP101_6 := by unfold isttC; kernel_rfl
set_option maxRecDepth 100000 in
theorem istts101 {G : Gh} (F : Facts G isttI isttG31 isttNL) (hA : KA G) (hS : KS G) (hm : ¬ G.mono) (hT : HooksOk Tryz.prog G (hkT isT)) : SNOk Tryz.prog G isttP101 := by
  have _hA := hA; have _hS := hS; rcases hA with ⟨e0, e1, e2⟩ | ⟨e0, e1, e2⟩ | ⟨e0, e1, e2⟩ | ⟨e0, e1, e2⟩ | ⟨e0, e1, e2⟩ | ⟨e0, e1, e2⟩ | ⟨e0, e1, e2⟩
  · exact istt_sc (snap_ok progOk F (isttH F hm hT isttN) 100 isttP101_0 Tryz.func13 rfl isttr101_0) (istt_c24 e0) (istt_d1 e1 e2)
  · exact istt_sc (snap_ok progOk F (isttH F hm hT isttN) 100 isttP101_1 Tryz.func13 rfl isttr101_1) (istt_c25 e0) (istt_d3 e1 e2)
  · exact istt_sc (snap_ok progOk F (isttH F hm hT isttN) 100 isttP101_2 Tryz.func13 rfl isttr101_2) (istt_c26 e0) (istt_d5 e1 e2)
  · exact istt_sc (snap_ok progOk F (isttH F hm hT isttN) 100 isttP101_3 Tryz.func13 rfl isttr101_3) (istt_c27 e0) (istt_d7 e1 e2)
  · exact istt_sc (snap_ok progOk F (isttH F hm hT isttN) 100 isttP101_4 Tryz.func13 rfl isttr101_4) (istt_c28 e0) (istt_d9 e1 e2)
  · exact istt_sc (snap_ok progOk F (isttH F hm hT isttN) 100 isttP101_5 Tryz.func13 rfl isttr101_5) (istt_c29 e0) (istt_d11 e1 e2)
  · exact istt_sc (snap_ok progOk F (isttH F hm hT isttN) 100 isttP101_6 Tryz.func13 rfl isttr101_6) (istt_c30 e0) (istt_d13 e1 e2)
theorem isttr118_0 : isttC [] isttG31 14 isttP118_0 := by unfold isttC; kernel_rfl
theorem isttr118_1 : isttC [] isttG31 14 isttP118_1 := by unfold isttC; kernel_rfl
theorem isttr118_2 : isttC [] isttG31 14 isttP118_2 := by unfold isttC; kernel_rfl
theorem isttr118_3 : isttC [] isttG31 14 isttP118_3 := by unfold isttC; kernel_rfl
theorem isttr118_4 : isttC [] isttG31 14 isttP118_4 := by unfold isttC; kernel_rfl
set_option maxRecDepth 100000 in
theorem istts118 {G : Gh} (F : Facts G isttI isttG31 isttNL) (hA : KA G) (hS : KS G) (hm : ¬ G.mono) (hT : HooksOk Tryz.prog G (hkT isT)) : SNOk Tryz.prog G isttP118 := by
  have _hA := hA; have _hS := hS; rcases hS with ⟨e0, e1, e2, e3, e4, e5, e6, e7, e8⟩ | ⟨e0, e1, e2, e3, e4, e5, e6, e7, e8⟩ | ⟨e0, e1, e2, e3, e4, e5, e6, e7, e8⟩ | ⟨e0, e1, e2, e3, e4, e5, e6, e7, e8⟩ | ⟨e0, e1, e2, e3, e4, e5, e6, e7, e8⟩
  · exact istt_sc (snap_ok progOk F (isttH F hm hT isttN) 100 isttP118_0 Tryz.func14 rfl isttr118_0) (istt_c31 e0) (istt_d15 e1 e2 e3 e4 e5 e6 e7 e8)
  · exact istt_sc (snap_ok progOk F (isttH F hm hT isttN) 100 isttP118_1 Tryz.func14 rfl isttr118_1) (istt_c32 e0) (istt_d17 e1 e2 e3 e4 e5 e6 e7 e8)
  · exact istt_sc (snap_ok progOk F (isttH F hm hT isttN) 100 isttP118_2 Tryz.func14 rfl isttr118_2) (istt_c33 e0) (istt_d19 e1 e2 e3 e4 e5 e6 e7 e8)
  · exact istt_sc (snap_ok progOk F (isttH F hm hT isttN) 100 isttP118_3 Tryz.func14 rfl isttr118_3) (istt_c34 e0) (istt_d21 e1 e2 e3 e4 e5 e6 e7 e8)
  · exact istt_sc (snap_ok progOk F (isttH F hm hT isttN) 100 isttP118_4 Tryz.func14 rfl isttr118_4) (istt_c35 e0) (istt_d23 e1 e2 e3 e4 e5 e6 e7 e8)
theorem isttt0 : (callN (isttE [isttP0, isttP3, isttP12, isttP23, isttP38, isttP59] isttI isttG1) 100 4 isttArgs H0).isTrue = true := by kernel_rfl
set_option maxRecDepth 100000 in
theorem isttu0 {G : Gh} (F : Facts G isttI isttG1 isttNL) (hA : KA G) (hS : KS G) (hm : ¬ G.mono) (hT : HooksOk Tryz.prog G (hkT isT)) {ul : List Value} (hl : concL G (fun _ => none) isttArgs = some ul) (w : World) : Calls Tryz.prog 4 ul.toArray w (TrueBelow w) := by have _hA := hA; have _hS := hS; exact run_true (nl := [⟨30, .i64, (0,[(2,1)]), (0,[]), 0⟩, ⟨30, .i64, (0,[(3,1)]), (0,[]), 1⟩]) progOk F (isttH F hm hT (List.forall_mem_cons.2 ⟨istts0 ⟨F.bd, trivial, F.nl⟩ hA hS hm hT, (List.forall_mem_cons.2 ⟨istts3 ⟨F.bd, F.ge.2, F.nl⟩ hA hS hm hT, (List.forall_mem_cons.2 ⟨istts12 F hA hS hm hT, (List.forall_mem_cons.2 ⟨istts23 F hA hS hm hT, (List.forall_mem_cons.2 ⟨istts38 F hA hS hm hT, (List.forall_mem_cons.2 ⟨istts59 F hA hS hm hT, isttN⟩)⟩)⟩)⟩)⟩)⟩)) Tryz.func4 rfl hl isttt0 w
theorem isttt1 : (callN (isttE [isttP0, isttP3, isttP14, isttP26, isttP41, isttP62] isttI isttG2) 100 4 isttArgs H0).isTrue = true := by kernel_rfl
set_option maxRecDepth 100000 in
theorem isttu1 {G : Gh} (F : Facts G isttI isttG2 isttNL) (hA : KA G) (hS : KS G) (hm : ¬ G.mono) (hT : HooksOk Tryz.prog G (hkT isT)) {ul : List Value} (hl : concL G (fun _ => none) isttArgs = some ul) (w : World) : Calls Tryz.prog 4 ul.toArray w (TrueBelow w) := by have _hA := hA; have _hS := hS; exact run_true (nl := [⟨30, .i64, (0,[(2,1)]), (0,[]), 0⟩, ⟨30, .i64, (0,[(3,1)]), (0,[]), 1⟩]) progOk F (isttH F hm hT (List.forall_mem_cons.2 ⟨istts0 ⟨F.bd, trivial, F.nl⟩ hA hS hm hT, (List.forall_mem_cons.2 ⟨istts3 ⟨F.bd, F.ge.2.2, F.nl⟩ hA hS hm hT, (List.forall_mem_cons.2 ⟨istts14 F hA hS hm hT, (List.forall_mem_cons.2 ⟨istts26 F hA hS hm hT, (List.forall_mem_cons.2 ⟨istts41 F hA hS hm hT, (List.forall_mem_cons.2 ⟨istts62 F hA hS hm hT, isttN⟩)⟩)⟩)⟩)⟩)⟩)) Tryz.func4 rfl hl isttt1 w
theorem isttt2 : (callN (isttE [isttP0, isttP3, isttP17, isttP29, isttP45, isttP65] isttI isttG3) 100 4 isttArgs H0).isTrue = true := by kernel_rfl
set_option maxRecDepth 100000 in
theorem isttu2 {G : Gh} (F : Facts G isttI isttG3 isttNL) (hA : KA G) (hS : KS G) (hm : ¬ G.mono) (hT : HooksOk Tryz.prog G (hkT isT)) {ul : List Value} (hl : concL G (fun _ => none) isttArgs = some ul) (w : World) : Calls Tryz.prog 4 ul.toArray w (TrueBelow w) := by have _hA := hA; have _hS := hS; exact run_true (nl := [⟨30, .i64, (0,[(2,1)]), (0,[]), 0⟩, ⟨30, .i64, (0,[(3,1)]), (0,[]), 1⟩]) progOk F (isttH F hm hT (List.forall_mem_cons.2 ⟨istts0 ⟨F.bd, trivial, F.nl⟩ hA hS hm hT, (List.forall_mem_cons.2 ⟨istts3 ⟨F.bd, F.ge.2.2.2, F.nl⟩ hA hS hm hT, (List.forall_mem_cons.2 ⟨istts17 F hA hS hm hT, (List.forall_mem_cons.2 ⟨istts29 F hA hS hm hT, (List.forall_mem_cons.2 ⟨istts45 F hA hS hm hT, (List.forall_mem_cons.2 ⟨istts65 F hA hS hm hT, isttN⟩)⟩)⟩)⟩)⟩)⟩)) Tryz.func4 rfl hl isttt2 w
theorem isttt3 : (callN (isttE [isttP0, isttP3, isttP19, isttP30, isttP44, isttP64] isttI isttG4) 100 4 isttArgs H0).isTrue = true := by kernel_rfl
set_option maxRecDepth 100000 in
theorem isttu3 {G : Gh} (F : Facts G isttI isttG4 isttNL) (hA : KA G) (hS : KS G) (hm : ¬ G.mono) (hT : HooksOk Tryz.prog G (hkT isT)) {ul : List Value} (hl : concL G (fun _ => none) isttArgs = some ul) (w : World) : Calls Tryz.prog 4 ul.toArray w (TrueBelow w) := by have _hA := hA; have _hS := hS; exact run_true (nl := [⟨30, .i64, (0,[(2,1)]), (0,[]), 0⟩, ⟨30, .i64, (0,[(3,1)]), (0,[]), 1⟩]) progOk F (isttH F hm hT (List.forall_mem_cons.2 ⟨istts0 ⟨F.bd, trivial, F.nl⟩ hA hS hm hT, (List.forall_mem_cons.2 ⟨istts3 ⟨F.bd, F.ge.2.2.2.2, F.nl⟩ hA hS hm hT, (List.forall_mem_cons.2 ⟨istts19 F hA hS hm hT, (List.forall_mem_cons.2 ⟨istts30 F hA hS hm hT, (List.forall_mem_cons.2 ⟨istts44 F hA hS hm hT, (List.forall_mem_cons.2 ⟨istts64 F hA hS hm hT, isttN⟩)⟩)⟩)⟩)⟩)⟩)) Tryz.func4 rfl hl isttt3 w
theorem isttt4 : (callN (isttE [isttP0, isttP3, isttP20, isttP28, isttP42, isttP63] isttI isttG5) 100 4 isttArgs H0).isTrue = true := by kernel_rfl
set_option maxRecDepth 100000 in
theorem isttu4 {G : Gh} (F : Facts G isttI isttG5 isttNL) (hA : KA G) (hS : KS G) (hm : ¬ G.mono) (hT : HooksOk Tryz.prog G (hkT isT)) {ul : List Value} (hl : concL G (fun _ => none) isttArgs = some ul) (w : World) : Calls Tryz.prog 4 ul.toArray w (TrueBelow w) := by have _hA := hA; have _hS := hS; exact run_true (nl := [⟨30, .i64, (0,[(2,1)]), (0,[]), 0⟩, ⟨30, .i64, (0,[(3,1)]), (0,[]), 1⟩]) progOk F (isttH F hm hT (List.forall_mem_cons.2 ⟨istts0 ⟨F.bd, trivial, F.nl⟩ hA hS hm hT, (List.forall_mem_cons.2 ⟨istts3 ⟨F.bd, F.ge.2.2.2.2, F.nl⟩ hA hS hm hT, (List.forall_mem_cons.2 ⟨istts20 F hA hS hm hT, (List.forall_mem_cons.2 ⟨istts28 F hA hS hm hT, (List.forall_mem_cons.2 ⟨istts42 F hA hS hm hT, (List.forall_mem_cons.2 ⟨istts63 F hA hS hm hT, isttN⟩)⟩)⟩)⟩)⟩)⟩)) Tryz.func4 rfl hl isttt4 w
theorem isttt5 : (callN (isttE [isttP0, isttP4, isttP13, isttP22, isttP37, isttP58] isttI isttG7) 100 4 isttArgs H0).isTrue = true := by kernel_rfl
set_option maxRecDepth 100000 in
theorem isttu5 {G : Gh} (F : Facts G isttI isttG7 isttNL) (hA : KA G) (hS : KS G) (hm : ¬ G.mono) (hT : HooksOk Tryz.prog G (hkT isT)) {ul : List Value} (hl : concL G (fun _ => none) isttArgs = some ul) (w : World) : Calls Tryz.prog 4 ul.toArray w (TrueBelow w) := by have _hA := hA; have _hS := hS; exact run_true (nl := [⟨30, .i64, (0,[(2,1)]), (0,[]), 0⟩, ⟨30, .i64, (0,[(3,1)]), (0,[]), 1⟩]) progOk F (isttH F hm hT (List.forall_mem_cons.2 ⟨istts0 ⟨F.bd, trivial, F.nl⟩ hA hS hm hT, (List.forall_mem_cons.2 ⟨istts4 ⟨F.bd, F.ge.2, F.nl⟩ hA hS hm hT, (List.forall_mem_cons.2 ⟨istts13 F hA hS hm hT, (List.forall_mem_cons.2 ⟨istts22 F hA hS hm hT, (List.forall_mem_cons.2 ⟨istts37 F hA hS hm hT, (List.forall_mem_cons.2 ⟨istts58 F hA hS hm hT, isttN⟩)⟩)⟩)⟩)⟩)⟩)) Tryz.func4 rfl hl isttt5 w
theorem isttt6 : (callN (isttE [isttP0, isttP4, isttP15, isttP25, isttP40, isttP61] isttI isttG8) 100 4 isttArgs H0).isTrue = true := by kernel_rfl
set_option maxRecDepth 100000 in
theorem isttu6 {G : Gh} (F : Facts G isttI isttG8 isttNL) (hA : KA G) (hS : KS G) (hm : ¬ G.mono) (hT : HooksOk Tryz.prog G (hkT isT)) {ul : List Value} (hl : concL G (fun _ => none) isttArgs = some ul) (w : World) : Calls Tryz.prog 4 ul.toArray w (TrueBelow w) := by have _hA := hA; have _hS := hS; exact run_true (nl := [⟨30, .i64, (0,[(2,1)]), (0,[]), 0⟩, ⟨30, .i64, (0,[(3,1)]), (0,[]), 1⟩]) progOk F (isttH F hm hT (List.forall_mem_cons.2 ⟨istts0 ⟨F.bd, trivial, F.nl⟩ hA hS hm hT, (List.forall_mem_cons.2 ⟨istts4 ⟨F.bd, F.ge.2.2, F.nl⟩ hA hS hm hT, (List.forall_mem_cons.2 ⟨istts15 F hA hS hm hT, (List.forall_mem_cons.2 ⟨istts25 F hA hS hm hT, (List.forall_mem_cons.2 ⟨istts40 F hA hS hm hT, (List.forall_mem_cons.2 ⟨istts61 F hA hS hm hT, isttN⟩)⟩)⟩)⟩)⟩)⟩)) Tryz.func4 rfl hl isttt6 w
theorem isttt7 : (callN (isttE [isttP0, isttP4, isttP16, isttP24, isttP39, isttP60] isttI isttG9) 100 4 isttArgs H0).isTrue = true := by kernel_rfl
set_option maxRecDepth 100000 in
theorem isttu7 {G : Gh} (F : Facts G isttI isttG9 isttNL) (hA : KA G) (hS : KS G) (hm : ¬ G.mono) (hT : HooksOk Tryz.prog G (hkT isT)) {ul : List Value} (hl : concL G (fun _ => none) isttArgs = some ul) (w : World) : Calls Tryz.prog 4 ul.toArray w (TrueBelow w) := by have _hA := hA; have _hS := hS; exact run_true (nl := [⟨30, .i64, (0,[(2,1)]), (0,[]), 0⟩, ⟨30, .i64, (0,[(3,1)]), (0,[]), 1⟩]) progOk F (isttH F hm hT (List.forall_mem_cons.2 ⟨istts0 ⟨F.bd, trivial, F.nl⟩ hA hS hm hT, (List.forall_mem_cons.2 ⟨istts4 ⟨F.bd, F.ge.2.2.2, F.nl⟩ hA hS hm hT, (List.forall_mem_cons.2 ⟨istts16 F hA hS hm hT, (List.forall_mem_cons.2 ⟨istts24 F hA hS hm hT, (List.forall_mem_cons.2 ⟨istts39 F hA hS hm hT, (List.forall_mem_cons.2 ⟨istts60 F hA hS hm hT, isttN⟩)⟩)⟩)⟩)⟩)⟩)) Tryz.func4 rfl hl isttt7 w
theorem isttt8 : (callN (isttE [isttP0, isttP4, isttP18, isttP32, isttP47, isttP67] isttI isttG10) 100 4 isttArgs H0).isTrue = true := by kernel_rfl
set_option maxRecDepth 100000 in
theorem isttu8 {G : Gh} (F : Facts G isttI isttG10 isttNL) (hA : KA G) (hS : KS G) (hm : ¬ G.mono) (hT : HooksOk Tryz.prog G (hkT isT)) {ul : List Value} (hl : concL G (fun _ => none) isttArgs = some ul) (w : World) : Calls Tryz.prog 4 ul.toArray w (TrueBelow w) := by have _hA := hA; have _hS := hS; exact run_true (nl := [⟨30, .i64, (0,[(2,1)]), (0,[]), 0⟩, ⟨30, .i64, (0,[(3,1)]), (0,[]), 1⟩]) progOk F (isttH F hm hT (List.forall_mem_cons.2 ⟨istts0 ⟨F.bd, trivial, F.nl⟩ hA hS hm hT, (List.forall_mem_cons.2 ⟨istts4 ⟨F.bd, F.ge.2.2.2.2, F.nl⟩ hA hS hm hT, (List.forall_mem_cons.2 ⟨istts18 F hA hS hm hT, (List.forall_mem_cons.2 ⟨istts32 F hA hS hm hT, (List.forall_mem_cons.2 ⟨istts47 F hA hS hm hT, (List.forall_mem_cons.2 ⟨istts67 F hA hS hm hT, isttN⟩)⟩)⟩)⟩)⟩)⟩)) Tryz.func4 rfl hl isttt8 w
theorem isttt9 : (callN (isttE [isttP0, isttP4, isttP21, isttP31, isttP46, isttP66] isttI isttG11) 100 4 isttArgs H0).isTrue = true := by kernel_rfl
set_option maxRecDepth 100000 in
theorem isttu9 {G : Gh} (F : Facts G isttI isttG11 isttNL) (hA : KA G) (hS : KS G) (hm : ¬ G.mono) (hT : HooksOk Tryz.prog G (hkT isT)) {ul : List Value} (hl : concL G (fun _ => none) isttArgs = some ul) (w : World) : Calls Tryz.prog 4 ul.toArray w (TrueBelow w) := by have _hA := hA; have _hS := hS; exact run_true (nl := [⟨30, .i64, (0,[(2,1)]), (0,[]), 0⟩, ⟨30, .i64, (0,[(3,1)]), (0,[]), 1⟩]) progOk F (isttH F hm hT (List.forall_mem_cons.2 ⟨istts0 ⟨F.bd, trivial, F.nl⟩ hA hS hm hT, (List.forall_mem_cons.2 ⟨istts4 ⟨F.bd, F.ge.2.2.2.2, F.nl⟩ hA hS hm hT, (List.forall_mem_cons.2 ⟨istts21 F hA hS hm hT, (List.forall_mem_cons.2 ⟨istts31 F hA hS hm hT, (List.forall_mem_cons.2 ⟨istts46 F hA hS hm hT, (List.forall_mem_cons.2 ⟨istts66 F hA hS hm hT, isttN⟩)⟩)⟩)⟩)⟩)⟩)) Tryz.func4 rfl hl isttt9 w
theorem isttt10 : (callN (isttE [isttP0, isttP5, isttP48, isttP69, isttP93, isttP111] isttI isttG13) 100 4 isttArgs H0).isTrue = true := by kernel_rfl
set_option maxRecDepth 100000 in
theorem isttu10 {G : Gh} (F : Facts G isttI isttG13 isttNL) (hA : KA G) (hS : KS G) (hm : ¬ G.mono) (hT : HooksOk Tryz.prog G (hkT isT)) {ul : List Value} (hl : concL G (fun _ => none) isttArgs = some ul) (w : World) : Calls Tryz.prog 4 ul.toArray w (TrueBelow w) := by have _hA := hA; have _hS := hS; exact run_true (nl := [⟨30, .i64, (0,[(2,1)]), (0,[]), 0⟩, ⟨30, .i64, (0,[(3,1)]), (0,[]), 1⟩]) progOk F (isttH F hm hT (List.forall_mem_cons.2 ⟨istts0 ⟨F.bd, trivial, F.nl⟩ hA hS hm hT, (List.forall_mem_cons.2 ⟨istts5 ⟨F.bd, F.ge.2, F.nl⟩ hA hS hm hT, (List.forall_mem_cons.2 ⟨istts48 F hA hS hm hT, (List.forall_mem_cons.2 ⟨istts69 F hA hS hm hT, (List.forall_mem_cons.2 ⟨istts93 F hA hS hm hT, (List.forall_mem_cons.2 ⟨istts111 F hA hS hm hT, isttN⟩)⟩)⟩)⟩)⟩)⟩)) Tryz.func4 rfl hl isttt10 w
theorem isttt11 : (callN (isttE [isttP0, isttP5, isttP49, isttP75, isttP98, isttP115] isttI isttG14) 100 4 isttArgs H0).isTrue = true := by kernel_rfl
set_option maxRecDepth 100000 in
theorem isttu11 {G : Gh} (F : Facts G isttI isttG14 isttNL) (hA : KA G) (hS : KS G) (hm : ¬ G.mono) (hT : HooksOk Tryz.prog G (hkT isT)) {ul : List Value} (hl : concL G (fun _ => none) isttArgs = some ul) (w : World) : Calls Tryz.prog 4 ul.toArray w (TrueBelow w) := by have _hA := hA; have _hS := hS; exact run_true (nl := [⟨30, .i64, (0,[(2,1)]), (0,[]), 0⟩, ⟨30, .i64, (0,[(3,1)]), (0,[]), 1⟩]) progOk F (isttH F hm hT (List.forall_mem_cons.2 ⟨istts0 ⟨F.bd, trivial, F.nl⟩ hA hS hm hT, (List.forall_mem_cons.2 ⟨istts5 ⟨F.bd, F.ge.2.2, F.nl⟩ hA hS hm hT, (List.forall_mem_cons.2 ⟨istts49 F hA hS hm hT, (List.forall_mem_cons.2 ⟨istts75 F hA hS hm hT, (List.forall_mem_cons.2 ⟨istts98 F hA hS hm hT, (List.forall_mem_cons.2 ⟨istts115 F hA hS hm hT, isttN⟩)⟩)⟩)⟩)⟩)⟩)) Tryz.func4 rfl hl isttt11 w
theorem isttt12 : (callN (isttE [isttP0, isttP5, isttP50, isttP68, isttP92, isttP109] isttI isttG15) 100 4 isttArgs H0).isTrue = true := by kernel_rfl
set_option maxRecDepth 100000 in
theorem isttu12 {G : Gh} (F : Facts G isttI isttG15 isttNL) (hA : KA G) (hS : KS G) (hm : ¬ G.mono) (hT : HooksOk Tryz.prog G (hkT isT)) {ul : List Value} (hl : concL G (fun _ => none) isttArgs = some ul) (w : World) : Calls Tryz.prog 4 ul.toArray w (TrueBelow w) := by have _hA := hA; have _hS := hS; exact run_true (nl := [⟨30, .i64, (0,[(2,1)]), (0,[]), 0⟩, ⟨30, .i64, (0,[(3,1)]), (0,[]), 1⟩]) progOk F (isttH F hm hT (List.forall_mem_cons.2 ⟨istts0 ⟨F.bd, trivial, F.nl⟩ hA hS hm hT, (List.forall_mem_cons.2 ⟨istts5 ⟨F.bd, F.ge.2.2.2, F.nl⟩ hA hS hm hT, (List.forall_mem_cons.2 ⟨istts50 F hA hS hm hT, (List.forall_mem_cons.2 ⟨istts68 F hA hS hm hT, (List.forall_mem_cons.2 ⟨istts92 F hA hS hm hT, (List.forall_mem_cons.2 ⟨istts109 F hA hS hm hT, isttN⟩)⟩)⟩)⟩)⟩)⟩)) Tryz.func4 rfl hl isttt12 w
theorem isttt13 : (callN (isttE [isttP0, isttP5, isttP51, isttP70, isttP94, isttP110] isttI isttG16) 100 4 isttArgs H0).isTrue = true := by kernel_rfl
set_option maxRecDepth 100000 in
theorem isttu13 {G : Gh} (F : Facts G isttI isttG16 isttNL) (hA : KA G) (hS : KS G) (hm : ¬ G.mono) (hT : HooksOk Tryz.prog G (hkT isT)) {ul : List Value} (hl : concL G (fun _ => none) isttArgs = some ul) (w : World) : Calls Tryz.prog 4 ul.toArray w (TrueBelow w) := by have _hA := hA; have _hS := hS; exact run_true (nl := [⟨30, .i64, (0,[(2,1)]), (0,[]), 0⟩, ⟨30, .i64, (0,[(3,1)]), (0,[]), 1⟩]) progOk F (isttH F hm hT (List.forall_mem_cons.2 ⟨istts0 ⟨F.bd, trivial, F.nl⟩ hA hS hm hT, (List.forall_mem_cons.2 ⟨istts5 ⟨F.bd, F.ge.2.2.2.2, F.nl⟩ hA hS hm hT, (List.forall_mem_cons.2 ⟨istts51 F hA hS hm hT, (List.forall_mem_cons.2 ⟨istts70 F hA hS hm hT, (List.forall_mem_cons.2 ⟨istts94 F hA hS hm hT, (List.forall_mem_cons.2 ⟨istts110 F hA hS hm hT, isttN⟩)⟩)⟩)⟩)⟩)⟩)) Tryz.func4 rfl hl isttt13 w
end Go.Proofs.YtkhckfpflfkjmaaGreat
