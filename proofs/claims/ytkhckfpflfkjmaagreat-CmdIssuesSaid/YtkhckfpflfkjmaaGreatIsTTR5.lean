/- complinelaw28.CmdIssues: runs, part 5. -/
import Derived.Test.YtkhckfpflfkjmaaGreatIsTTQ
import Derived.Test.YtkhckfpflfkjmaaGreatIsTTR4
namespace Go.Proofs.YtkhckfpflfkjmaaGreat
open Go Go.RowKit Gv Gv.Lt
theorem isttr115_0 : isttC [] isttG14 14 isttP115_0 := by unfold isttC; kernel_rfl
theorem isttr115_1 : isttC [] isttG14 14 isttP115_1 := by unfold isttC; kernel_rfl
theorem isttr115_2 : isttC [] isttG14 14 isttP115_2 := by unfold isttC; kernel_rfl
theorem isttr115_3 : isttC [] isttG14 14 isttP115_3 := by unfold isttC; kernel_rfl
theorem isttr115_4 : isttC [] isttG14 14 isttP115_4 := by unfold isttC; kernel_rfl
set_option maxRecDepth 100000 in
theorem istts115 {G : Gh} (F : Facts G isttI isttG14 isttNL) (hA : KA G) (hS : KS G) (hm : ¬ G.mono) (hT : HooksOk Tryz.prog G (hkT isT)) : SNOk Tryz.prog G isttP115 := by
  have _hA := hA; have _hS := hS; rcases hS with ⟨e0, e1, e2, e3, e4, e5, e6, e7, e8⟩ | ⟨e0, e1, e2, e3, e4, e5, e6, e7, e8⟩ | ⟨e0, e1, e2, e3, e4, e5, e6, e7, e8⟩ | ⟨e0, e1, e2, e3, e4, e5, e6, e7, e8⟩ | ⟨e0, e1, e2, e3, e4, e5, e6, e7, e8⟩
  · exact istt_sc (snap_ok progOk F (isttH F hm hT isttN) 100 isttP115_0 Tryz.func14 rfl isttr115_0) (istt_c31 e0) (istt_d15 e1 e2 e3 e4 e5 e6 e7 e8)
  · exact istt_sc (snap_ok progOk F (isttH F hm hT isttN) 100 isttP115_1 Tryz.func14 rfl isttr115_1) (istt_c32 e0) (istt_d17 e1 e2 e3 e4 e5 e6 e7 e8)
  · exact istt_sc (snap_ok progOk F (isttH F hm hT isttN) 100 isttP115_2 Tryz.func14 rfl isttr115_2) (istt_c33 e0) (istt_d19 e1 e2 e3 e4 e5 e6 e7 e8)
  · exact istt_sc (snap_ok progOk F (isttH F hm hT isttN) 100 isttP115_3 Tryz.func14 rfl isttr115_3) (istt_c34 e0) (istt_d21 e1 e2 e3 e4 e5 e6 e7 e8)
  · exact istt_sc (snap_ok progOk F (isttH F hm hT isttN) 100 isttP115_4 Tryz.func14 rfl isttr115_4) (istt_c35 e0) (istt_d23 e1 e2 e3 e4 e5 e6 e7 e8)
theorem isttr50 : isSn isttP50 (callN (isttE [isttP33, isttP36] isttI isttG15) 100 10 isttP50.args isttP50.h0) = true := by kernel_rfl
set_option maxRecDepth 100000 in
theorem istts50 {G : Gh} (F : Facts G isttI isttG15 isttNL) (hA : KA G) (hS : KS G) (hm : ¬ G.mono) (hT : HooksOk Tryz.prog G (hkT isT)) : SNOk Tryz.prog G isttP50 := by have _hA := hA; have _hS := hS; exact snap_ok progOk F (isttH F hm hT (List.forall_mem_cons.2 ⟨istts33 ⟨F.bd, F.ge.2.2.2, F.nl⟩ hA hS hm hT, (List.forall_mem_cons.2 ⟨istts36 ⟨F.bd, F.ge.2.2.2, F.nl⟩ hA hS hm hT, isttN⟩)⟩)) 100 isttP50 Tryz.func10 rfl isttr50
theorem isttr68 : isSn isttP68 (callN (isttE [] isttI isttG15) 100 10 isttP68.args isttP68.h0) = true := by kernel_rfl
set_option maxRecDepth 100000 in
theorem istts68 {G : Gh} (F : Facts G isttI isttG15 isttNL) (hA : KA G) (hS : KS G) (hm : ¬ G.mono) (hT : HooksOk Tryz.prog G (hkT isT)) : SNOk Tryz.prog G isttP68 := by have _hA := hA; have _hS := hS; exact snap_ok progOk F (isttH F hm hT isttN) 100 isttP68 Tryz.func10 rfl isttr68
theorem isttr92_0 : isttC [] isttG15 13 isttP92_0 := by unfold isttC; kernel_rfl
theorem isttr92_1 : isttC [] isttG15 13 isttP92_1 := by unfold isttC; kernel_rfl
theorem isttr92_2 : isttC [] isttG15 13 isttP92_2 := by unfold isttC; kernel_rfl
theorem isttr92_3 : isttC [] isttG15 13 isttP92_3 := by unfold isttC; kernel_rfl
theorem isttr92_4 : isttC [] isttG15 13 isttP92_4 := by unfold isttC; kernel_rfl
theorem isttr92_5 : isttC [] isttG15 13 isttP92_5 := by unfold isttC; kernel_rfl
theorem isttr92_6 : isttC [] isttG15 13 isttP92_6 := by unfold isttC; kernel_rfl
set_option maxRecDepth 100000 in
theorem istts92 {G : Gh} (F : Facts G isttI isttG15 isttNL) (hA : KA G) (hS : KS G) (hm : ¬ G.mono) (hT : HooksOk Tryz.prog G (hkT isT)) : SNOk Tryz.prog G isttP92 := by
  have _hA := hA; have _hS := hS; rcases hA with ⟨e0, e1, e2⟩ | ⟨e0, e1, e2⟩ | ⟨e0, e1, e2⟩ | ⟨e0, e1, e2⟩ | ⟨e0, e1, e2⟩ | ⟨e0, e1, e2⟩ | ⟨e0, e1, e2⟩
  · exact istt_sc (snap_ok progOk F (isttH F hm hT isttN) 100 isttP92_0 Tryz.func13 rfl isttr92_0) (istt_c24 e0) (istt_d1 e1 e2)
  · exact istt_sc (snap_ok progOk F (isttH F hm hT isttN) 100 isttP92_1 Tryz.func13 rfl isttr92_1) (istt_c25 e0) (istt_d3 e1 e2)
  · exact istt_sc (snap_ok progOk F (isttH F hm hT isttN) 100 isttP92_2 Tryz.func13 rfl isttr92_2) (istt_c26 e0) (istt_d5 e1 e2)
  · exact istt_sc (snap_ok progOk F (isttH F hm hT isttN) 100 isttP92_3 Tryz.func13 rfl isttr92_3) (istt_c27 e0) (istt_d7 e1 e2)
  · exact istt_sc (snap_ok progOk F (isttH F hm hT isttN) 100 isttP92_4 Tryz.func13 rfl isttr92_4) (istt_c28 e0) (istt_d9 e1 e2)
  · exact istt_sc (snap_ok progOk F (isttH F hm hT isttN) 100 isttP92_5 Tryz.func13 rfl isttr92_5) (istt_c29 e0) (istt_d11 e1 e2)
  · exact istt_sc (snap_ok progOk F (isttH F hm hT isttN) 100 isttP92_6 Tryz.func13 rfl isttr92_6) (istt_c30 e0) (istt_d13 e1 e2)
theorem isttr109_0 : isttC [] isttG15 14 isttP109_0 := by unfold isttC; kernel_rfl
theorem isttr109_1 : isttC [] isttG15 14 isttP109_1 := by unfold isttC; kernel_rfl
theorem isttr109_2 : isttC [] isttG15 14 isttP109_2 := by unfold isttC; kernel_rfl
theorem isttr109_3 : isttC [] isttG15 14 isttP109_3 := by unfold isttC; kernel_rfl
theorem isttr109_4 : isttC [] isttG15 14 isttP109_4 := by unfold isttC; kernel_rfl
set_option maxRecDepth 100000 in
theorem istts109 {G : Gh} (F : Facts G isttI isttG15 isttNL) (hA : KA G) (hS : KS G) (hm : ¬ G.mono) (hT : HooksOk Tryz.prog G (hkT isT)) : SNOk Tryz.prog G isttP109 := by
  have _hA := hA; have _hS := hS; rcases hS with ⟨e0, e1, e2, e3, e4, e5, e6, e7, e8⟩ | ⟨e0, e1, e2, e3, e4, e5, e6, e7, e8⟩ | ⟨e0, e1, e2, e3, e4, e5, e6, e7, e8⟩ | ⟨e0, e1, e2, e3, e4, e5, e6, e7, e8⟩ | ⟨e0, e1, e2, e3, e4, e5, e6, e7, e8⟩
  · exact istt_sc (snap_ok progOk F (isttH F hm hT isttN) 100 isttP109_0 Tryz.func14 rfl isttr109_0) (istt_c31 e0) (istt_d15 e1 e2 e3 e4 e5 e6 e7 e8)
  · exact istt_sc (snap_ok progOk F (isttH F hm hT isttN) 100 isttP109_1 Tryz.func14 rfl isttr109_1) (istt_c32 e0) (istt_d17 e1 e2 e3 e4 e5 e6 e7 e8)
  · exact istt_sc (snap_ok progOk F (isttH F hm hT isttN) 100 isttP109_2 Tryz.func14 rfl isttr109_2) (istt_c33 e0) (istt_d19 e1 e2 e3 e4 e5 e6 e7 e8)
  · exact istt_sc (snap_ok progOk F (isttH F hm hT isttN) 100 isttP109_3 Tryz.func14 rfl isttr109_3) (istt_c34 e0) (istt_d21 e1 e2 e3 e4 e5 e6 e7 e8)
  · exact istt_sc (snap_ok progOk F (isttH F hm hT isttN) 100 isttP109_4 Tryz.func14 rfl isttr109_4) (istt_c35 e0) (istt_d23 e1 e2 e3 e4 e5 e6 e7 e8)
theorem isttr51 : isSn isttP51 (callN (isttE [isttP33, isttP36] isttI isttG16) 100 10 isttP51.args isttP51.h0) = true := by kernel_rfl
set_option maxRecDepth 100000 in
theorem istts51 {G : Gh} (F : Facts G isttI isttG16 isttNL) (hA : KA G) (hS : KS G) (hm : ¬ G.mono) (hT : HooksOk Tryz.prog G (hkT isT)) : SNOk Tryz.prog G isttP51 := by have _hA := hA; have _hS := hS; exact snap_ok progOk F (isttH F hm hT (List.forall_mem_cons.2 ⟨istts33 ⟨F.bd, F.ge.2.2.2.2, F.nl⟩ hA hS hm hT, (List.forall_mem_cons.2 ⟨istts36 ⟨F.bd, F.ge.2.2.2.2, F.nl⟩ hA hS hm hT, isttN⟩)⟩)) 100 isttP51 Tryz.func10 rfl isttr51
theorem isttr70 : isSn isttP70 (callN (isttE [] isttI isttG16) 100 10 isttP70.args isttP70.h0) = true := by kernel_rfl
set_option maxRecDepth 100000 in
theorem istts70 {G : Gh} (F : Facts G isttI isttG16 isttNL) (hA : KA G) (hS : KS G) (hm : ¬ G.mono) (hT : HooksOk Tryz.prog G (hkT isT)) : SNOk Tryz.prog G isttP70 := by have _hA := hA; have _hS := hS; exact snap_ok progOk F (isttH F hm hT isttN) 100 isttP70 Tryz.func10 rfl isttr70
theorem isttr94_0 : isttC [] isttG16 13 isttP94_0 := by unfold isttC; kernel_rfl
theorem isttr94_1 : isttC [] isttG16 13 isttP94_1 := by unfold isttC; kernel_rfl
theorem isttr94_2 : isttC [] isttG16 13 isttP94_2 := by unfold isttC; kernel_rfl
theorem isttr94_3 : isttC [] isttG16 13 isttP94_3 := by unfold isttC; kernel_rfl
theorem isttr94_4 : isttC [] isttG16 13 isttP94_4 := by unfold isttC; kernel_rfl
theorem isttr94_5 : isttC [] isttG16 13 isttP94_5 := by unfold isttC; kernel_rfl
theorem isttr94_6 : isttC [] isttG16 13 isttP94_6 := by unfold isttC; kernel_rfl
set_option maxRecDepth 100000 in
theorem istts94 {G : Gh} (F : Facts G isttI isttG16 isttNL) (hA : KA G) (hS : KS G) (hm : ¬ G.mono) (hT : HooksOk Tryz.prog G (hkT isT)) : SNOk Tryz.prog G isttP94 := by
  have _hA := hA; have _hS := hS; rcases hA with ⟨e0, e1, e2⟩ | ⟨e0, e1, e2⟩ | ⟨e0, e1, e2⟩ | ⟨e0, e1, e2⟩ | ⟨e0, e1, e2⟩ | ⟨e0, e1, e2⟩ | ⟨e0, e1, e2⟩
  · exact istt_sc (snap_ok progOk F (isttH F hm hT isttN) 100 isttP94_0 Tryz.func13 rfl isttr94_0) (istt_c24 e0) (istt_d1 e1 e2)
  · exact istt_sc (snap_ok progOk F (isttH F hm hT isttN) 100 isttP94_1 Tryz.func13 rfl isttr94_1) (istt_c25 e0) (istt_d3 e1 e2)
  · exact istt_sc (snap_ok progOk F (isttH F hm hT isttN) 100 isttP94_2 Tryz.func13 rfl isttr94_2) (istt_c26 e0) (istt_d5 e1 e2)
  · exact istt_sc (snap_ok progOk F (isttH F hm hT isttN) 100 isttP94_3 Tryz.func13 rfl isttr94_3) (istt_c27 e0) (istt_d7 e1 e2)
  · exact istt_sc (snap_ok progOk F (isttH F hm hT isttN) 100 isttP94_4 Tryz.func13 rfl isttr94_4) (istt_c28 e0) (istt_d9 e1 e2)
  · exact istt_sc (snap_ok progOk F (isttH F hm hT isttN) 100 isttP94_5 Tryz.func13 rfl isttr94_5) (istt_c29 e0) (istt_d11 e1 e2)
  · exact istt_sc (snap_ok progOk F (isttH F hm hT isttN) 100 isttP94_6 Tryz.func13 rfl isttr94_6) (istt_c30 e0) (istt_d13 e1 e2)
theorem isttr110_0 : isttC [] isttG16 14 isttP110_0 := by unfold isttC; kernel_rfl
theorem isttr110_1 : isttC [] isttG16 14 isttP110_1 := by unfold isttC; kernel_rfl
theorem isttr110_2 : isttC [] isttG16 14 isttP110_2 := by unfold isttC; kernel_rfl
theorem isttr110_3 : isttC [] isttG16 14 isttP110_3 := by unfold isttC; kernel_rfl
theorem isttr110_4 : isttC [] isttG16 14 isttP110_4 := by unfold isttC; kernel_rfl
set_option maxRecDepth 100000 in
theorem istts110 {G : Gh} (F : Facts G isttI isttG16 isttNL) (hA : KA G) (hS : KS G) (hm : ¬ G.mono) (hT : HooksOk Tryz.prog G (hkT isT)) : SNOk Tryz.prog G isttP110 := by
  have _hA := hA; have _hS := hS; rcases hS with ⟨e0, e1, e2, e3, e4, e5, e6, e7, e8⟩ | ⟨e0, e1, e2, e3, e4, e5, e6, e7, e8⟩ | ⟨e0, e1, e2, e3, e4, e5, e6, e7, e8⟩ | ⟨e0, e1, e2, e3, e4, e5, e6, e7, e8⟩ | ⟨e0, e1, e2, e3, e4, e5, e6, e7, e8⟩
  · exact istt_sc (snap_ok progOk F (isttH F hm hT isttN) 100 isttP110_0 Tryz.func14 rfl isttr110_0) (istt_c31 e0) (istt_d15 e1 e2 e3 e4 e5 e6 e7 e8)
  · exact istt_sc (snap_ok progOk F (isttH F hm hT isttN) 100 isttP110_1 Tryz.func14 rfl isttr110_1) (istt_c32 e0) (istt_d17 e1 e2 e3 e4 e5 e6 e7 e8)
  · exact istt_sc (snap_ok progOk F (isttH F hm hT isttN) 100 isttP110_2 Tryz.func14 rfl isttr110_2) (istt_c33 e0) (istt_d19 e1 e2 e3 e4 e5 e6 e7 e8)
  · exact istt_sc (snap_ok progOk F (isttH F hm hT isttN) 100 isttP110_3 Tryz.func14 rfl isttr110_3) (istt_c34 e0) (istt_d21 e1 e2 e3 e4 e5 e6 e7 e8)
  · exact istt_sc (snap_ok progOk F (isttH F hm hT isttN) 100 isttP110_4 Tryz.func14 rfl isttr110_4) (istt_c35 e0) (istt_d23 e1 e2 e3 e4 e5 e6 e7 e8)
theorem isttr52 : isSn isttP52 (callN (isttE [isttP33, isttP36] isttI isttG17) 100 10 isttP52.args isttP52.h0) = true := by kernel_rfl
set_option maxRecDepth 100000 in
theorem istts52 {G : Gh} (F : Facts G isttI isttG17 isttNL) (hA : KA G) (hS : KS G) (hm : ¬ G.mono) (hT : HooksOk Tryz.prog G (hkT isT)) : SNOk Tryz.prog G isttP52 := by have _hA := hA; have _hS := hS; exact snap_ok progOk F (isttH F hm hT (List.forall_mem_cons.2 ⟨istts33 ⟨F.bd, F.ge.2.2.2.2, F.nl⟩ hA hS hm hT, (List.forall_mem_cons.2 ⟨istts36 ⟨F.bd, F.ge.2.2.2.2, F.nl⟩ hA hS hm hT, isttN⟩)⟩)) 100 isttP52 Tryz.func10 rfl isttr52
theorem isttr73 : isSn isttP73 (callN (isttE [] isttI isttG17) 100 10 isttP73.args isttP73.h0) = true := by kernel_rfl
set_option maxRecDepth 100000 in
theorem istts73 {G : Gh} (F : Facts G isttI isttG17 isttNL) (hA : KA G) (hS : KS G) (hm : ¬ G.mono) (hT : HooksOk Tryz.prog G (hkT isT)) : SNOk Tryz.prog G isttP73 := by have _hA := hA; have _hS := hS; exact snap_ok progOk F (isttH F hm hT isttN) 100 isttP73 Tryz.func10 rfl isttr73
theorem isttr97_0 : isttC [] isttG17 13 isttP97_0 := by unfold isttC; kernel_rfl
theorem isttr97_1 : isttC [] isttG17 13 isttP97_1 := by unfold isttC; kernel_rfl
theorem isttr97_2 : isttC [] isttG17 13 isttP97_2 := by unfold isttC; kernel_rfl
theorem isttr97_3 : isttC [] isttG17 13 isttP97_3 := by unfold isttC; kernel_rfl
theorem isttr97_4 : isttC [] isttG17 13 isttP97_4 := by unfold isttC; kernel_rfl
theorem isttr97_5 : isttC [] isttG17 13 isttP97_5 := by unfold isttC; kernel_rfl
theorem isttr97_6 : isttC [] isttG17 13 isttP97_6 := by unfold isttC; kernel_rfl
set_option maxRecDepth 100000 in
theorem istts97 {G : Gh} (F : Facts G isttI isttG17 isttNL) (hA : KA G) (hS : KS G) (hm : ¬ G.mono) (hT : HooksOk Tryz.prog G (hkT isT)) : SNOk Tryz.prog G isttP97 := by
  have _hA := hA; have _hS := hS; rcases hA with ⟨e0, e1, e2⟩ | ⟨e0, e1, e2⟩ | ⟨e0, e1, e2⟩ | ⟨e0, e1, e2⟩ | ⟨e0, e1, e2⟩ | ⟨e0, e1, e2⟩ | ⟨e0, e1, e2⟩
  · exact istt_sc (snap_ok progOk F (isttH F hm hT isttN) 100 isttP97_0 Tryz.func13 rfl isttr97_0) (istt_c24 e0) (istt_d1 e1 e2)
  · exact istt_sc (snap_ok progOk F (isttH F hm hT isttN) 100 isttP97_1 Tryz.func13 rfl isttr97_1) (istt_c25 e0) (istt_d3 e1 e2)
  · exact istt_sc (snap_ok progOk F (isttH F hm hT isttN) 100 isttP97_2 Tryz.func13 rfl isttr97_2) (istt_c26 e0) (istt_d5 e1 e2)
  · exact istt_sc (snap_ok progOk F (isttH F hm hT isttN) 100 isttP97_3 Tryz.func13 rfl isttr97_3) (istt_c27 e0) (istt_d7 e1 e2)
  · exact istt_sc (snap_ok progOk F (isttH F hm hT isttN) 100 isttP97_4 Tryz.func13 rfl isttr97_4) (istt_c28 e0) (istt_d9 e1 e2)
  · exact istt_sc (snap_ok progOk F (isttH F hm hT isttN) 100 isttP97_5 Tryz.func13 rfl isttr97_5) (istt_c29 e0) (istt_d11 e1 e2)
  · exact istt_sc (snap_ok progOk F (isttH F hm hT isttN) 100 isttP97_6 Tryz.func13 rfl isttr97_6) (istt_c30 e0) (istt_d13 e1 e2)
end Go.Proofs.YtkhckfpflfkjmaaGreat
