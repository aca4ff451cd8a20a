/- complinelaw27.EodCredit: runs, part 0. -/
import Derived.Test.YtdfgedemolielaaGreatEcEa
namespace Go.Proofs.YtdfgedemolielaaGreat
open Go Go.RowKit Gv Gv.Lt
set_option maxRecDepth 100000
theorem ecer0 : eceC [] eceG0 6 eceP0 := by unfold eceC; kernel_rfl
theorem eces0 : eceS eceG0 eceP0 := ece_piece Tryz.func6 rfl ecer0 fun _ _ _ => eceN
theorem ecer24 : eceC [] eceG1 12 eceP24 := by unfold eceC; kernel_rfl
theorem eces24 : eceS eceG1 eceP24 := ece_piece Tryz.func12 rfl ecer24 fun _ _ _ => eceN
theorem ecer63 : eceC [] eceG2 82 eceP63 := by unfold eceC; kernel_rfl
theorem eces63 : eceS eceG2 eceP63 := ece_piece Tryz.func82 rfl ecer63 fun _ _ _ => eceN
theorem ecer64 : eceC [] eceG3 82 eceP64 := by unfold eceC; kernel_rfl
theorem eces64 : eceS eceG3 eceP64 := ece_piece Tryz.func82 rfl ecer64 fun _ _ _ => eceN
theorem ecet0 : (callN (eceE [eceP0, eceP24, eceP63] eceI eceG4) 100 4 eceArgs0 H0).isTrue = true := by kernel_rfl
theorem eceu0 {G : Gh} (F : Facts G eceI eceG4 eceNL) (hm : ¬ G.mono) (hT : HooksOk Tryz.prog G (hkT ecTE)) {ul : List Value} (hl : concL G (fun _ => none) eceArgs0 = some ul) (w : World) : Calls Tryz.prog 4 ul.toArray w (TrueBelow w) := by exact run_true (nl := [⟨2, .i64, (-10,[(3,10),(4,1)]), (10,[]), 4⟩]) progOk F (eceH F hm hT (eceK (eces0 ⟨F.bd, F.ge.2.2.2.2, F.nl⟩ hm hT) (eceK (eces24 ⟨F.bd, F.ge.2.2.2, F.nl⟩ hm hT) (eceK (eces63 ⟨F.bd, F.ge.2.2, F.nl⟩ hm hT) eceN)))) Tryz.func4 rfl hl ecet0 w
theorem ecet1 : (callN (eceE [eceP0, eceP24, eceP63] eceI eceG5) 100 4 eceArgs0 H0).isTrue = true := by kernel_rfl
theorem eceu1 {G : Gh} (F : Facts G eceI eceG5 eceNL) (hm : ¬ G.mono) (hT : HooksOk Tryz.prog G (hkT ecTE)) {ul : List Value} (hl : concL G (fun _ => none) eceArgs0 = some ul) (w : World) : Calls Tryz.prog 4 ul.toArray w (TrueBelow w) := by exact run_true (nl := [⟨2, .i64, (-10,[(3,10),(4,1)]), (10,[]), 4⟩]) progOk F (eceH F hm hT (eceK (eces0 ⟨F.bd, F.ge.2.2.2.2.2, F.nl⟩ hm hT) (eceK (eces24 ⟨F.bd, F.ge.2.2.2.2, F.nl⟩ hm hT) (eceK (eces63 ⟨F.bd, F.ge.2.2.2, F.nl⟩ hm hT) eceN)))) Tryz.func4 rfl hl ecet1 w
theorem ecet2 : (callN (eceE [eceP0, eceP24, eceP63] eceI eceG6) 100 4 eceArgs0 H0).isTrue = true := by kernel_rfl
theorem eceu2 {G : Gh} (F : Facts G eceI eceG6 eceNL) (hm : ¬ G.mono) (hT : HooksOk Tryz.prog G (hkT ecTE)) {ul : List Value} (hl : concL G (fun _ => none) eceArgs0 = some ul) (w : World) : Calls Tryz.prog 4 ul.toArray w (TrueBelow w) := by exact run_true (nl := [⟨2, .i64, (-10,[(3,10),(4,1)]), (10,[]), 4⟩]) progOk F (eceH F hm hT (eceK (eces0 ⟨F.bd, F.ge.2.2.2.2.2, F.nl⟩ hm hT) (eceK (eces24 ⟨F.bd, F.ge.2.2.2.2, F.nl⟩ hm hT) (eceK (eces63 ⟨F.bd, F.ge.2.2.2, F.nl⟩ hm hT) eceN)))) Tryz.func4 rfl hl ecet2 w
theorem ecet3 : (callN (eceE [eceP0, eceP24, eceP63] eceI eceG7) 100 4 eceArgs0 H0).isTrue = true := by kernel_rfl
theorem eceu3 {G : Gh} (F : Facts G eceI eceG7 eceNL) (hm : ¬ G.mono) (hT : HooksOk Tryz.prog G (hkT ecTE)) {ul : List Value} (hl : concL G (fun _ => none) eceArgs0 = some ul) (w : World) : Calls Tryz.prog 4 ul.toArray w (TrueBelow w) := by exact run_true (nl := [⟨2, .i64, (-10,[(3,10),(4,1)]), (10,[]), 4⟩]) progOk F (eceH F hm hT (eceK (eces0 ⟨F.bd, F.ge.2.2.2.2, F.nl⟩ hm hT) (eceK (eces24 ⟨F.bd, F.ge.2.2.2, F.nl⟩ hm hT) (eceK (eces63 ⟨F.bd, F.ge.2.2, F.nl⟩ hm hT) eceN)))) Tryz.func4 rfl hl ecet3 w
theorem ecet4 : (callN (eceE [eceP0, eceP24, eceP64] eceI eceG8) 100 4 eceArgs0 H0).isTrue = true := by kernel_rfl
theorem eceu4 {G : Gh} (F : Facts G eceI eceG8 eceNL) (hm : ¬ G.mono) (hT : HooksOk Tryz.prog G (hkT ecTE)) {ul : List Value} (hl : concL G (fun _ => none) eceArgs0 = some ul) (w : World) : Calls Tryz.prog 4 ul.toArray w (TrueBelow w) := by exact run_true (nl := [⟨2, .i64, (-10,[(3,10),(4,1)]), (10,[]), 4⟩]) progOk F (eceH F hm hT (eceK (eces0 ⟨F.bd, F.ge.2.2.2.2, F.nl⟩ hm hT) (eceK (eces24 ⟨F.bd, F.ge.2.2.2, F.nl⟩ hm hT) (eceK (eces64 ⟨F.bd, F.ge.2.2, F.nl⟩ hm hT) eceN)))) Tryz.func4 rfl hl ecet4 w
theorem ecet5 : (callN (eceE [eceP0, eceP24, eceP64] eceI eceG9) 100 4 eceArgs0 H0).isTrue = true := by kernel_rfl
theorem eceu5 {G : Gh} (F : Facts G eceI eceG9 eceNL) (hm : ¬ G.mono) (hT : HooksOk Tryz.prog G (hkT ecTE)) {ul : List Value} (hl : concL G (fun _ => none) eceArgs0 = some ul) (w : World) : Calls Tryz.prog 4 ul.toArray w (TrueBelow w) := by exact run_true (nl := [⟨2, .i64, (-10,[(3,10),(4,1)]), (10,[]), 4⟩]) progOk F (eceH F hm hT (eceK (eces0 ⟨F.bd, F.ge.2.2.2.2.2, F.nl⟩ hm hT) (eceK (eces24 ⟨F.bd, F.ge.2.2.2.2, F.nl⟩ hm hT) (eceK (eces64 ⟨F.bd, F.ge.2.2.2, F.nl⟩ hm hT) eceN)))) Tryz.func4 rfl hl ecet5 w
theorem ecet6 : (callN (eceE [eceP0, eceP24, eceP64] eceI eceG10) 100 4 eceArgs0 H0).isTrue = true := by kernel_rfl
theorem eceu6 {G : Gh} (F : Facts G eceI eceG10 eceNL) (hm : ¬ G.mono) (hT : HooksOk Tryz.prog G (hkT ecTE)) {ul : List Value} (hl : concL G (fun _ => none) eceArgs0 = some ul) (w : World) : Calls Tryz.prog 4 ul.toArray w (TrueBelow w) := by exact run_true (nl := [⟨2, .i64, (-10,[(3,10),(4,1)]), (10,[]), 4⟩]) progOk F (eceH F hm hT (eceK (eces0 ⟨F.bd, F.ge.2.2.2.2.2, F.nl⟩ hm hT) (eceK (eces24 ⟨F.bd, F.ge.2.2.2.2, F.nl⟩ hm hT) (eceK (eces64 ⟨F.bd, F.ge.2.2.2, F.nl⟩ hm hT) eceN)))) Tryz.func4 rfl hl ecet6 w
theorem ecet7 : (callN (eceE [eceP0, eceP24, eceP64] eceI eceG11) 100 4 eceArgs0 H0).isTrue = true := by kernel_rfl
theorem eceu7 {G : Gh} (F : Facts G eceI eceG11 eceNL) (hm : ¬ G.mono) (hT : HooksOk Tryz.prog G (hkT ecTE)) {ul : List Value} (hl : concL G (fun _ => none) eceArgs0 = some ul) (w : World) : Calls Tryz.prog 4 ul.toArray w (TrueBelow w) := by exact run_true (nl := [⟨2, .i64, (-10,[(3,10),(4,1)]), (10,[]), 4⟩]) progOk F (eceH F hm hT (eceK (eces0 ⟨F.bd, F.ge.2.2.2.2, F.nl⟩ hm hT) (eceK (eces24 ⟨F.bd, F.ge.2.2.2, F.nl⟩ hm hT) (eceK (eces64 ⟨F.bd, F.ge.2.2, F.nl⟩ hm hT) eceN)))) Tryz.func4 rfl hl ecet7 w
end Go.Proofs.YtdfgedemolielaaGreat
