/- complinelaw24.CheckReasons: runs, part 10. -/
import Derived.Test.YtaajobcfbgpfoaaGreatCrQ
import Derived.Test.YtaajobcfbgpfoaaGreatCrR0
import Derived.Test.YtaajobcfbgpfoaaGreatCrR1
import Derived.Test.YtaajobcfbgpfoaaGreatCrR2
import Derived.Test.YtaajobcfbgpfoaaGreatCrR3
namespace Go.Proofs.YtaajobcfbgpfoaaGreat
open Go Go.RowKit Gv Gv.Lt
theorem crr165 : isSn crP165 (callN (crE [] crI [(0,[(1,-1)]), (0,[(0,1),(2,-1)]), (0,[(1,1),(3,-1)])]) 100 8 crP165.args crP165.h0) = true := by kernel_rfl
set_option maxRecDepth 100000 in
theorem crs165 {G : Gh} (F : Facts G crI [(0,[(1,-1)]), (0,[(0,1),(2,-1)]), (0,[(1,1),(3,-1)])] []) (hm : ¬ G.mono) (hT : HooksOk Tryz.prog G (hkT crT)) : SNOk Tryz.prog G crP165 := snap_ok progOk F (crH F hm hT crN) 100 crP165 Tryz.func8 rfl crr165
theorem crr166 : isSn crP166 (callN (crE [] crI [(-1,[(1,1)]), (0,[(0,1),(2,-1)]), (0,[(1,1),(3,-1)])]) 100 13 crP166.args crP166.h0) = true := by kernel_rfl
set_option maxRecDepth 100000 in
theorem crs166 {G : Gh} (F : Facts G crI [(-1,[(1,1)]), (0,[(0,1),(2,-1)]), (0,[(1,1),(3,-1)])] []) (hm : ¬ G.mono) (hT : HooksOk Tryz.prog G (hkT crT)) : SNOk Tryz.prog G crP166 := snap_ok progOk F (crH F hm hT crN) 100 crP166 Tryz.func13 rfl crr166
theorem crr170 : isSn crP170 (callN (crE [] crI [(-1,[(1,1)]), (0,[(0,1),(2,-1)]), (0,[(1,1),(3,-1)])]) 100 8 crP170.args crP170.h0) = true := by kernel_rfl
set_option maxRecDepth 100000 in
theorem crs170 {G : Gh} (F : Facts G crI [(-1,[(1,1)]), (0,[(0,1),(2,-1)]), (0,[(1,1),(3,-1)])] []) (hm : ¬ G.mono) (hT : HooksOk Tryz.prog G (hkT crT)) : SNOk Tryz.prog G crP170 := snap_ok progOk F (crH F hm hT crN) 100 crP170 Tryz.func8 rfl crr170
theorem crr167 : isSn crP167 (callN (crE [] crI [(0,[(1,-1)]), (0,[(0,1),(2,-1)]), (0,[(1,1),(3,-1)])]) 100 13 crP167.args crP167.h0) = true := by kernel_rfl
set_option maxRecDepth 100000 in
theorem crs167 {G : Gh} (F : Facts G crI [(0,[(1,-1)]), (0,[(0,1),(2,-1)]), (0,[(1,1),(3,-1)])] []) (hm : ¬ G.mono) (hT : HooksOk Tryz.prog G (hkT crT)) : SNOk Tryz.prog G crP167 := snap_ok progOk F (crH F hm hT crN) 100 crP167 Tryz.func13 rfl crr167
theorem crr171 : isSn crP171 (callN (crE [] crI [(0,[(1,-1)]), (0,[(0,1),(2,-1)]), (0,[(1,1),(3,-1)])]) 100 8 crP171.args crP171.h0) = true := by kernel_rfl
set_option maxRecDepth 100000 in
theorem crs171 {G : Gh} (F : Facts G crI [(0,[(1,-1)]), (0,[(0,1),(2,-1)]), (0,[(1,1),(3,-1)])] []) (hm : ¬ G.mono) (hT : HooksOk Tryz.prog G (hkT crT)) : SNOk Tryz.prog G crP171 := snap_ok progOk F (crH F hm hT crN) 100 crP171 Tryz.func8 rfl crr171
theorem crr168 : isSn crP168 (callN (crE [] crI [(-1,[(1,1)]), (0,[(0,1),(2,-1)]), (0,[(1,1),(3,-1)])]) 100 13 crP168.args crP168.h0) = true := by kernel_rfl
set_option maxRecDepth 100000 in
theorem crs168 {G : Gh} (F : Facts G crI [(-1,[(1,1)]), (0,[(0,1),(2,-1)]), (0,[(1,1),(3,-1)])] []) (hm : ¬ G.mono) (hT : HooksOk Tryz.prog G (hkT crT)) : SNOk Tryz.prog G crP168 := snap_ok progOk F (crH F hm hT crN) 100 crP168 Tryz.func13 rfl crr168
theorem crr172 : isSn crP172 (callN (crE [] crI [(-1,[(1,1)]), (0,[(0,1),(2,-1)]), (0,[(1,1),(3,-1)])]) 100 8 crP172.args crP172.h0) = true := by kernel_rfl
set_option maxRecDepth 100000 in
theorem crs172 {G : Gh} (F : Facts G crI [(-1,[(1,1)]), (0,[(0,1),(2,-1)]), (0,[(1,1),(3,-1)])] []) (hm : ¬ G.mono) (hT : HooksOk Tryz.prog G (hkT crT)) : SNOk Tryz.prog G crP172 := snap_ok progOk F (crH F hm hT crN) 100 crP172 Tryz.func8 rfl crr172
theorem crr169 : isSn crP169 (callN (crE [] crI [(0,[(1,-1)]), (0,[(0,1),(2,-1)]), (0,[(1,1),(3,-1)])]) 100 13 crP169.args crP169.h0) = true := by kernel_rfl
set_option maxRecDepth 100000 in
theorem crs169 {G : Gh} (F : Facts G crI [(0,[(1,-1)]), (0,[(0,1),(2,-1)]), (0,[(1,1),(3,-1)])] []) (hm : ¬ G.mono) (hT : HooksOk Tryz.prog G (hkT crT)) : SNOk Tryz.prog G crP169 := snap_ok progOk F (crH F hm hT crN) 100 crP169 Tryz.func13 rfl crr169
theorem crr173 : isSn crP173 (callN (crE [] crI [(0,[(1,-1)]), (0,[(0,1),(2,-1)]), (0,[(1,1),(3,-1)])]) 100 8 crP173.args crP173.h0) = true := by kernel_rfl
set_option maxRecDepth 100000 in
theorem crs173 {G : Gh} (F : Facts G crI [(0,[(1,-1)]), (0,[(0,1),(2,-1)]), (0,[(1,1),(3,-1)])] []) (hm : ¬ G.mono) (hT : HooksOk Tryz.prog G (hkT crT)) : SNOk Tryz.prog G crP173 := snap_ok progOk F (crH F hm hT crN) 100 crP173 Tryz.func8 rfl crr173
theorem crt0 : (callN (crE [crP6, crP13, crP35] crI [(-1,[(3,-1),(1,1)]), (-1,[(3,1)]), (0,[(2,1),(0,-1)]), (-1,[(1,1)]), (0,[(0,1),(2,-1)]), (0,[(1,1),(3,-1)])]) 100 4 crArgs0 H0).isTrue = true := by kernel_rfl
set_option maxRecDepth 100000 in
theorem cru0 {G : Gh} (F : Facts G crI [(-1,[(3,-1),(1,1)]), (-1,[(3,1)]), (0,[(2,1),(0,-1)]), (-1,[(1,1)]), (0,[(0,1),(2,-1)]), (0,[(1,1),(3,-1)])] []) (hm : ¬ G.mono) (hT : HooksOk Tryz.prog G (hkT crT)) {ul : List Value} (hl : concL G (fun _ => none) crArgs0 = some ul) (w : World) : Calls Tryz.prog 4 ul.toArray w (TrueBelow w) := run_true (nl := []) progOk F (crH F hm hT (List.forall_mem_cons.2 ⟨crs6 ⟨F.bd, F.ge.2.2.2, F.nl⟩ hm hT, (List.forall_mem_cons.2 ⟨crs13 ⟨F.bd, F.ge.2, F.nl⟩ hm hT, (List.forall_mem_cons.2 ⟨crs35 F hm hT, crN⟩)⟩)⟩)) Tryz.func4 rfl hl crt0 w
theorem crt1 : (callN (crE [crP6, crP13, crP36] crI [(0,[(3,1),(1,-1)]), (-1,[(3,1)]), (0,[(2,1),(0,-1)]), (-1,[(1,1)]), (0,[(0,1),(2,-1)]), (0,[(1,1),(3,-1)])]) 100 4 crArgs0 H0).isTrue = true := by kernel_rfl
set_option maxRecDepth 100000 in
theorem cru1 {G : Gh} (F : Facts G crI [(0,[(3,1),(1,-1)]), (-1,[(3,1)]), (0,[(2,1),(0,-1)]), (-1,[(1,1)]), (0,[(0,1),(2,-1)]), (0,[(1,1),(3,-1)])] []) (hm : ¬ G.mono) (hT : HooksOk Tryz.prog G (hkT crT)) {ul : List Value} (hl : concL G (fun _ => none) crArgs0 = some ul) (w : World) : Calls Tryz.prog 4 ul.toArray w (TrueBelow w) := run_true (nl := []) progOk F (crH F hm hT (List.forall_mem_cons.2 ⟨crs6 ⟨F.bd, F.ge.2.2.2, F.nl⟩ hm hT, (List.forall_mem_cons.2 ⟨crs13 ⟨F.bd, F.ge.2, F.nl⟩ hm hT, (List.forall_mem_cons.2 ⟨crs36 F hm hT, crN⟩)⟩)⟩)) Tryz.func4 rfl hl crt1 w
theorem crt2 : (callN (crE [crP6, crP14, crP28] crI [(0,[(3,-1)]), (0,[(2,1),(0,-1)]), (-1,[(1,1)]), (0,[(0,1),(2,-1)]), (0,[(1,1),(3,-1)])]) 100 4 crArgs0 H0).isTrue = true := by kernel_rfl
set_option maxRecDepth 100000 in
theorem cru2 {G : Gh} (F : Facts G crI [(0,[(3,-1)]), (0,[(2,1),(0,-1)]), (-1,[(1,1)]), (0,[(0,1),(2,-1)]), (0,[(1,1),(3,-1)])] []) (hm : ¬ G.mono) (hT : HooksOk Tryz.prog G (hkT crT)) {ul : List Value} (hl : concL G (fun _ => none) crArgs0 = some ul) (w : World) : Calls Tryz.prog 4 ul.toArray w (TrueBelow w) := run_true (nl := []) progOk F (crH F hm hT (List.forall_mem_cons.2 ⟨crs6 ⟨F.bd, F.ge.2.2, F.nl⟩ hm hT, (List.forall_mem_cons.2 ⟨crs14 F hm hT, (List.forall_mem_cons.2 ⟨crs28 F hm hT, crN⟩)⟩)⟩)) Tryz.func4 rfl hl crt2 w
theorem crt3 : (callN (crE [crP6, crP15, crP26] crI [(-1,[(2,-1),(0,1)]), (-1,[(1,1)]), (0,[(0,1),(2,-1)]), (0,[(1,1),(3,-1)])]) 100 4 crArgs0 H0).isTrue = true := by kernel_rfl
set_option maxRecDepth 100000 in
theorem cru3 {G : Gh} (F : Facts G crI [(-1,[(2,-1),(0,1)]), (-1,[(1,1)]), (0,[(0,1),(2,-1)]), (0,[(1,1),(3,-1)])] []) (hm : ¬ G.mono) (hT : HooksOk Tryz.prog G (hkT crT)) {ul : List Value} (hl : concL G (fun _ => none) crArgs0 = some ul) (w : World) : Calls Tryz.prog 4 ul.toArray w (TrueBelow w) := run_true (nl := []) progOk F (crH F hm hT (List.forall_mem_cons.2 ⟨crs6 ⟨F.bd, F.ge.2, F.nl⟩ hm hT, (List.forall_mem_cons.2 ⟨crs15 F hm hT, (List.forall_mem_cons.2 ⟨crs26 F hm hT, crN⟩)⟩)⟩)) Tryz.func4 rfl hl crt3 w
theorem crt4 : (callN (crE [crP7, crP21, crP32] crI [(0,[(3,-1)]), (0,[(2,1),(0,-1)]), (0,[(1,-1)]), (0,[(0,1),(2,-1)]), (0,[(1,1),(3,-1)])]) 100 4 crArgs0 H0).isTrue = true := by kernel_rfl
set_option maxRecDepth 100000 in
theorem cru4 {G : Gh} (F : Facts G crI [(0,[(3,-1)]), (0,[(2,1),(0,-1)]), (0,[(1,-1)]), (0,[(0,1),(2,-1)]), (0,[(1,1),(3,-1)])] []) (hm : ¬ G.mono) (hT : HooksOk Tryz.prog G (hkT crT)) {ul : List Value} (hl : concL G (fun _ => none) crArgs0 = some ul) (w : World) : Calls Tryz.prog 4 ul.toArray w (TrueBelow w) := run_true (nl := []) progOk F (crH F hm hT (List.forall_mem_cons.2 ⟨crs7 ⟨F.bd, F.ge.2.2, F.nl⟩ hm hT, (List.forall_mem_cons.2 ⟨crs21 F hm hT, (List.forall_mem_cons.2 ⟨crs32 F hm hT, crN⟩)⟩)⟩)) Tryz.func4 rfl hl crt4 w
theorem crt5 : (callN (crE [crP7, crP20, crP30] crI [(-1,[(2,-1),(0,1)]), (0,[(1,-1)]), (0,[(0,1),(2,-1)]), (0,[(1,1),(3,-1)])]) 100 4 crArgs0 H0).isTrue = true := by kernel_rfl
set_option maxRecDepth 100000 in
theorem cru5 {G : Gh} (F : Facts G crI [(-1,[(2,-1),(0,1)]), (0,[(1,-1)]), (0,[(0,1),(2,-1)]), (0,[(1,1),(3,-1)])] []) (hm : ¬ G.mono) (hT : HooksOk Tryz.prog G (hkT crT)) {ul : List Value} (hl : concL G (fun _ => none) crArgs0 = some ul) (w : World) : Calls Tryz.prog 4 ul.toArray w (TrueBelow w) := run_true (nl := []) progOk F (crH F hm hT (List.forall_mem_cons.2 ⟨crs7 ⟨F.bd, F.ge.2, F.nl⟩ hm hT, (List.forall_mem_cons.2 ⟨crs20 F hm hT, (List.forall_mem_cons.2 ⟨crs30 F hm hT, crN⟩)⟩)⟩)) Tryz.func4 rfl hl crt5 w
theorem crt6 : (callN (crE [crP6, crP17, crP29] crI [(-1,[(3,1)]), (0,[(2,1),(0,-1)]), (-1,[(1,1)]), (0,[(0,1),(2,-1)]), (0,[(1,1),(3,-1)])]) 100 4 crArgs1 H0).isTrue = true := by kernel_rfl
set_option maxRecDepth 100000 in
theorem cru6 {G : Gh} (F : Facts G crI [(-1,[(3,1)]), (0,[(2,1),(0,-1)]), (-1,[(1,1)]), (0,[(0,1),(2,-1)]), (0,[(1,1),(3,-1)])] []) (hm : ¬ G.mono) (hT : HooksOk Tryz.prog G (hkT crT)) {ul : List Value} (hl : concL G (fun _ => none) crArgs1 = some ul) (w : World) : Calls Tryz.prog 4 ul.toArray w (TrueBelow w) := run_true (nl := []) progOk F (crH F hm hT (List.forall_mem_cons.2 ⟨crs6 ⟨F.bd, F.ge.2.2, F.nl⟩ hm hT, (List.forall_mem_cons.2 ⟨crs17 F hm hT, (List.forall_mem_cons.2 ⟨crs29 F hm hT, crN⟩)⟩)⟩)) Tryz.func4 rfl hl crt6 w
theorem crt7 : (callN (crE [crP6, crP18, crP31] crI [(0,[(3,-1)]), (0,[(2,1),(0,-1)]), (-1,[(1,1)]), (0,[(0,1),(2,-1)]), (0,[(1,1),(3,-1)])]) 100 4 crArgs1 H0).isTrue = true := by kernel_rfl
set_option maxRecDepth 100000 in
theorem cru7 {G : Gh} (F : Facts G crI [(0,[(3,-1)]), (0,[(2,1),(0,-1)]), (-1,[(1,1)]), (0,[(0,1),(2,-1)]), (0,[(1,1),(3,-1)])] []) (hm : ¬ G.mono) (hT : HooksOk Tryz.prog G (hkT crT)) {ul : List Value} (hl : concL G (fun _ => none) crArgs1 = some ul) (w : World) : Calls Tryz.prog 4 ul.toArray w (TrueBelow w) := run_true (nl := []) progOk F (crH F hm hT (List.forall_mem_cons.2 ⟨crs6 ⟨F.bd, F.ge.2.2, F.nl⟩ hm hT, (List.forall_mem_cons.2 ⟨crs18 F hm hT, (List.forall_mem_cons.2 ⟨crs31 F hm hT, crN⟩)⟩)⟩)) Tryz.func4 rfl hl crt7 w
theorem crt8 : (callN (crE [crP6, crP19, crP27] crI [(-1,[(2,-1),(0,1)]), (-1,[(1,1)]), (0,[(0,1),(2,-1)]), (0,[(1,1),(3,-1)])]) 100 4 crArgs1 H0).isTrue = true := by kernel_rfl
set_option maxRecDepth 100000 in
theorem cru8 {G : Gh} (F : Facts G crI [(-1,[(2,-1),(0,1)]), (-1,[(1,1)]), (0,[(0,1),(2,-1)]), (0,[(1,1),(3,-1)])] []) (hm : ¬ G.mono) (hT : HooksOk Tryz.prog G (hkT crT)) {ul : List Value} (hl : concL G (fun _ => none) crArgs1 = some ul) (w : World) : Calls Tryz.prog 4 ul.toArray w (TrueBelow w) := run_true (nl := []) progOk F (crH F hm hT (List.forall_mem_cons.2 ⟨crs6 ⟨F.bd, F.ge.2, F.nl⟩ hm hT, (List.forall_mem_cons.2 ⟨crs19 F hm hT, (List.forall_mem_cons.2 ⟨crs27 F hm hT, crN⟩)⟩)⟩)) Tryz.func4 rfl hl crt8 w
theorem crt9 : (callN (crE [crP7, crP24, crP34] crI [(0,[(3,-1)]), (0,[(2,1),(0,-1)]), (0,[(1,-1)]), (0,[(0,1),(2,-1)]), (0,[(1,1),(3,-1)])]) 100 4 crArgs1 H0).isTrue = true := by kernel_rfl
set_option maxRecDepth 100000 in
theorem cru9 {G : Gh} (F : Facts G crI [(0,[(3,-1)]), (0,[(2,1),(0,-1)]), (0,[(1,-1)]), (0,[(0,1),(2,-1)]), (0,[(1,1),(3,-1)])] []) (hm : ¬ G.mono) (hT : HooksOk Tryz.prog G (hkT crT)) {ul : List Value} (hl : concL G (fun _ => none) crArgs1 = some ul) (w : World) : Calls Tryz.prog 4 ul.toArray w (TrueBelow w) := run_true (nl := []) progOk F (crH F hm hT (List.forall_mem_cons.2 ⟨crs7 ⟨F.bd, F.ge.2.2, F.nl⟩ hm hT, (List.forall_mem_cons.2 ⟨crs24 F hm hT, (List.forall_mem_cons.2 ⟨crs34 F hm hT, crN⟩)⟩)⟩)) Tryz.func4 rfl hl crt9 w
theorem crt10 : (callN (crE [crP7, crP25, crP33] crI [(-1,[(2,-1),(0,1)]), (0,[(1,-1)]), (0,[(0,1),(2,-1)]), (0,[(1,1),(3,-1)])]) 100 4 crArgs1 H0).isTrue = true := by kernel_rfl
set_option maxRecDepth 100000 in
theorem cru10 {G : Gh} (F : Facts G crI [(-1,[(2,-1),(0,1)]), (0,[(1,-1)]), (0,[(0,1),(2,-1)]), (0,[(1,1),(3,-1)])] []) (hm : ¬ G.mono) (hT : HooksOk Tryz.prog G (hkT crT)) {ul : List Value} (hl : concL G (fun _ => none) crArgs1 = some ul) (w : World) : Calls Tryz.prog 4 ul.toArray w (TrueBelow w) := run_true (nl := []) progOk F (crH F hm hT (List.forall_mem_cons.2 ⟨crs7 ⟨F.bd, F.ge.2, F.nl⟩ hm hT, (List.forall_mem_cons.2 ⟨crs25 F hm hT, (List.forall_mem_cons.2 ⟨crs33 F hm hT, crN⟩)⟩)⟩)) Tryz.func4 rfl hl crt10 w
theorem crt11 : (callN (crE [crP6, crP8, crP12] crI [(-1,[(1,1)]), (0,[(0,1),(2,-1)]), (0,[(1,1),(3,-1)])]) 100 4 crArgs2 H0).isTrue = true := by kernel_rfl
set_option maxRecDepth 100000 in
theorem cru11 {G : Gh} (F : Facts G crI [(-1,[(1,1)]), (0,[(0,1),(2,-1)]), (0,[(1,1),(3,-1)])] []) (hm : ¬ G.mono) (hT : HooksOk Tryz.prog G (hkT crT)) {ul : List Value} (hl : concL G (fun _ => none) crArgs2 = some ul) (w : World) : Calls Tryz.prog 4 ul.toArray w (TrueBelow w) := run_true (nl := []) progOk F (crH F hm hT (List.forall_mem_cons.2 ⟨crs6 F hm hT, (List.forall_mem_cons.2 ⟨crs8 F hm hT, (List.forall_mem_cons.2 ⟨crs12 F hm hT, crN⟩)⟩)⟩)) Tryz.func4 rfl hl crt11 w
theorem crt12 : (callN (crE [crP7, crP11, crP23] crI [(0,[(1,-1)]), (0,[(0,1),(2,-1)]), (0,[(1,1),(3,-1)])]) 100 4 crArgs2 H0).isTrue = true := by kernel_rfl
set_option maxRecDepth 100000 in
theorem cru12 {G : Gh} (F : Facts G crI [(0,[(1,-1)]), (0,[(0,1),(2,-1)]), (0,[(1,1),(3,-1)])] []) (hm : ¬ G.mono) (hT : HooksOk Tryz.prog G (hkT crT)) {ul : List Value} (hl : concL G (fun _ => none) crArgs2 = some ul) (w : World) : Calls Tryz.prog 4 ul.toArray w (TrueBelow w) := run_true (nl := []) progOk F (crH F hm hT (List.forall_mem_cons.2 ⟨crs7 F hm hT, (List.forall_mem_cons.2 ⟨crs11 F hm hT, (List.forall_mem_cons.2 ⟨crs23 F hm hT, crN⟩)⟩)⟩)) Tryz.func4 rfl hl crt12 w
theorem crt13 : (callN (crE [crP6, crP9, crP16] crI [(-1,[(1,1)]), (0,[(0,1),(2,-1)]), (0,[(1,1),(3,-1)])]) 100 4 crArgs3 H0).isTrue = true := by kernel_rfl
set_option maxRecDepth 100000 in
theorem cru13 {G : Gh} (F : Facts G crI [(-1,[(1,1)]), (0,[(0,1),(2,-1)]), (0,[(1,1),(3,-1)])] []) (hm : ¬ G.mono) (hT : HooksOk Tryz.prog G (hkT crT)) {ul : List Value} (hl : concL G (fun _ => none) crArgs3 = some ul) (w : World) : Calls Tryz.prog 4 ul.toArray w (TrueBelow w) := run_true (nl := []) progOk F (crH F hm hT (List.forall_mem_cons.2 ⟨crs6 F hm hT, (List.forall_mem_cons.2 ⟨crs9 F hm hT, (List.forall_mem_cons.2 ⟨crs16 F hm hT, crN⟩)⟩)⟩)) Tryz.func4 rfl hl crt13 w
theorem crt14 : (callN (crE [crP7, crP10, crP22] crI [(0,[(1,-1)]), (0,[(0,1),(2,-1)]), (0,[(1,1),(3,-1)])]) 100 4 crArgs3 H0).isTrue = true := by kernel_rfl
set_option maxRecDepth 100000 in
theorem cru14 {G : Gh} (F : Facts G crI [(0,[(1,-1)]), (0,[(0,1),(2,-1)]), (0,[(1,1),(3,-1)])] []) (hm : ¬ G.mono) (hT : HooksOk Tryz.prog G (hkT crT)) {ul : List Value} (hl : concL G (fun _ => none) crArgs3 = some ul) (w : World) : Calls Tryz.prog 4 ul.toArray w (TrueBelow w) := run_true (nl := []) progOk F (crH F hm hT (List.forall_mem_cons.2 ⟨crs7 F hm hT, (List.forall_mem_cons.2 ⟨crs10 F hm hT, (List.forall_mem_cons.2 ⟨crs22 F hm hT, crN⟩)⟩)⟩)) Tryz.func4 rfl hl crt14 w
theorem crt15 : (callN (crE [crP6, crP37, crP41] crI [(-1,[(1,1)]), (0,[(0,1),(2,-1)]), (0,[(1,1),(3,-1)])]) 100 4 crArgs4 H0).isTrue = true := by kernel_rfl
set_option maxRecDepth 100000 in
theorem cru15 {G : Gh} (F : Facts G crI [(-1,[(1,1)]), (0,[(0,1),(2,-1)]), (0,[(1,1),(3,-1)])] []) (hm : ¬ G.mono) (hT : HooksOk Tryz.prog G (hkT crT)) {ul : List Value} (hl : concL G (fun _ => none) crArgs4 = some ul) (w : World) : Calls Tryz.prog 4 ul.toArray w (TrueBelow w) := run_true (nl := []) progOk F (crH F hm hT (List.forall_mem_cons.2 ⟨crs6 F hm hT, (List.forall_mem_cons.2 ⟨crs37 F hm hT, (List.forall_mem_cons.2 ⟨crs41 F hm hT, crN⟩)⟩)⟩)) Tryz.func4 rfl hl crt15 w
theorem crt16 : (callN (crE [crP7, crP38, crP42] crI [(0,[(1,-1)]), (0,[(0,1),(2,-1)]), (0,[(1,1),(3,-1)])]) 100 4 crArgs4 H0).isTrue = true := by kernel_rfl
set_option maxRecDepth 100000 in
theorem cru16 {G : Gh} (F : Facts G crI [(0,[(1,-1)]), (0,[(0,1),(2,-1)]), (0,[(1,1),(3,-1)])] []) (hm : ¬ G.mono) (hT : HooksOk Tryz.prog G (hkT crT)) {ul : List Value} (hl : concL G (fun _ => none) crArgs4 = some ul) (w : World) : Calls Tryz.prog 4 ul.toArray w (TrueBelow w) := run_true (nl := []) progOk F (crH F hm hT (List.forall_mem_cons.2 ⟨crs7 F hm hT, (List.forall_mem_cons.2 ⟨crs38 F hm hT, (List.forall_mem_cons.2 ⟨crs42 F hm hT, crN⟩)⟩)⟩)) Tryz.func4 rfl hl crt16 w
theorem crt17 : (callN (crE [crP6, crP39, crP43] crI [(-1,[(1,1)]), (0,[(0,1),(2,-1)]), (0,[(1,1),(3,-1)])]) 100 4 crArgs5 H0).isTrue = true := by kernel_rfl
set_option maxRecDepth 100000 in
theorem cru17 {G : Gh} (F : Facts G crI [(-1,[(1,1)]), (0,[(0,1),(2,-1)]), (0,[(1,1),(3,-1)])] []) (hm : ¬ G.mono) (hT : HooksOk Tryz.prog G (hkT crT)) {ul : List Value} (hl : concL G (fun _ => none) crArgs5 = some ul) (w : World) : Calls Tryz.prog 4 ul.toArray w (TrueBelow w) := run_true (nl := []) progOk F (crH F hm hT (List.forall_mem_cons.2 ⟨crs6 F hm hT, (List.forall_mem_cons.2 ⟨crs39 F hm hT, (List.forall_mem_cons.2 ⟨crs43 F hm hT, crN⟩)⟩)⟩)) Tryz.func4 rfl hl crt17 w
theorem crt18 : (callN (crE [crP7, crP40, crP45] crI [(0,[(1,-1)]), (0,[(0,1),(2,-1)]), (0,[(1,1),(3,-1)])]) 100 4 crArgs5 H0).isTrue = true := by kernel_rfl
set_option maxRecDepth 100000 in
theorem cru18 {G : Gh} (F : Facts G crI [(0,[(1,-1)]), (0,[(0,1),(2,-1)]), (0,[(1,1),(3,-1)])] []) (hm : ¬ G.mono) (hT : HooksOk Tryz.prog G (hkT crT)) {ul : List Value} (hl : concL G (fun _ => none) crArgs5 = some ul) (w : World) : Calls Tryz.prog 4 ul.toArray w (TrueBelow w) := run_true (nl := []) progOk F (crH F hm hT (List.forall_mem_cons.2 ⟨crs7 F hm hT, (List.forall_mem_cons.2 ⟨crs40 F hm hT, (List.forall_mem_cons.2 ⟨crs45 F hm hT, crN⟩)⟩)⟩)) Tryz.func4 rfl hl crt18 w
theorem crt19 : (callN (crE [crP6, crP44, crP49] crI [(-1,[(1,1)]), (0,[(0,1),(2,-1)]), (0,[(1,1),(3,-1)])]) 100 4 crArgs6 H0).isTrue = true := by kernel_rfl
set_option maxRecDepth 100000 in
theorem cru19 {G : Gh} (F : Facts G crI [(-1,[(1,1)]), (0,[(0,1),(2,-1)]), (0,[(1,1),(3,-1)])] []) (hm : ¬ G.mono) (hT : HooksOk Tryz.prog G (hkT crT)) {ul : List Value} (hl : concL G (fun _ => none) crArgs6 = some ul) (w : World) : Calls Tryz.prog 4 ul.toArray w (TrueBelow w) := run_true (nl := []) progOk F (crH F hm hT (List.forall_mem_cons.2 ⟨crs6 F hm hT, (List.forall_mem_cons.2 ⟨crs44 F hm hT, (List.forall_mem_cons.2 ⟨crs49 F hm hT, crN⟩)⟩)⟩)) Tryz.func4 rfl hl crt19 w
theorem crt20 : (callN (crE [crP7, crP46, crP50] crI [(0,[(1,-1)]), (0,[(0,1),(2,-1)]), (0,[(1,1),(3,-1)])]) 100 4 crArgs6 H0).isTrue = true := by kernel_rfl
set_option maxRecDepth 100000 in
theorem cru20 {G : Gh} (F : Facts G crI [(0,[(1,-1)]), (0,[(0,1),(2,-1)]), (0,[(1,1),(3,-1)])] []) (hm : ¬ G.mono) (hT : HooksOk Tryz.prog G (hkT crT)) {ul : List Value} (hl : concL G (fun _ => none) crArgs6 = some ul) (w : World) : Calls Tryz.prog 4 ul.toArray w (TrueBelow w) := run_true (nl := []) progOk F (crH F hm hT (List.forall_mem_cons.2 ⟨crs7 F hm hT, (List.forall_mem_cons.2 ⟨crs46 F hm hT, (List.forall_mem_cons.2 ⟨crs50 F hm hT, crN⟩)⟩)⟩)) Tryz.func4 rfl hl crt20 w
end Go.Proofs.YtaajobcfbgpfoaaGreat
