/- complinelaw24.CheckTwice: runs, part 3. -/
import Derived.Test.YtaajobcfbgpfoaaGreatCtQ
import Derived.Test.YtaajobcfbgpfoaaGreatCtR0
import Derived.Test.YtaajobcfbgpfoaaGreatCtR1
import Derived.Test.YtaajobcfbgpfoaaGreatCtR2
namespace Go.Proofs.YtaajobcfbgpfoaaGreat
open Go Go.RowKit Gv Gv.Lt
theorem ctr13 : isSn ctP13 (callN (ctE [] ctI [(0,[(3,-1)]), (0,[(1,-1)]), (-1,[(0,1),(2,-1)]), (0,[(1,1),(3,-1)])]) 100 8 ctP13.args ctP13.h0) = true := by kernel_rfl
set_option maxRecDepth 100000 in
theorem cts13 {G : Gh} (F : Facts G ctI [(0,[(3,-1)]), (0,[(1,-1)]), (-1,[(0,1),(2,-1)]), (0,[(1,1),(3,-1)])] []) (hm : ¬ G.mono) (hT : HooksOk Tryz.prog G (hkT ctT)) : SNOk Tryz.prog G ctP13 := snap_ok progOk F (ctH F hm hT ctN) 100 ctP13 Tryz.func8 rfl ctr13
theorem ctr17 : isSn ctP17 (callN (ctE [] ctI [(0,[(3,-1)]), (0,[(1,-1)]), (-1,[(0,1),(2,-1)]), (0,[(1,1),(3,-1)])]) 100 8 ctP17.args ctP17.h0) = true := by kernel_rfl
set_option maxRecDepth 100000 in
theorem cts17 {G : Gh} (F : Facts G ctI [(0,[(3,-1)]), (0,[(1,-1)]), (-1,[(0,1),(2,-1)]), (0,[(1,1),(3,-1)])] []) (hm : ¬ G.mono) (hT : HooksOk Tryz.prog G (hkT ctT)) : SNOk Tryz.prog G ctP17 := snap_ok progOk F (ctH F hm hT ctN) 100 ctP17 Tryz.func8 rfl ctr17
theorem ctt0 : (callN (ctE [ctP6, ctP10, ctP14, ctP18, ctP21] ctI [(-1,[(3,-1),(1,1)]), (-1,[(3,1)]), (-1,[(1,1)]), (-1,[(0,1),(2,-1)]), (0,[(1,1),(3,-1)])]) 100 3 ctArgs H0).isTrue = true := by kernel_rfl
set_option maxRecDepth 100000 in
theorem ctu0 {G : Gh} (F : Facts G ctI [(-1,[(3,-1),(1,1)]), (-1,[(3,1)]), (-1,[(1,1)]), (-1,[(0,1),(2,-1)]), (0,[(1,1),(3,-1)])] []) (hm : ¬ G.mono) (hT : HooksOk Tryz.prog G (hkT ctT)) {ul : List Value} (hl : concL G (fun _ => none) ctArgs = some ul) (w : World) : Calls Tryz.prog 3 ul.toArray w (TrueBelow w) := run_true (nl := []) progOk F (ctH F hm hT (List.forall_mem_cons.2 ⟨cts6 ⟨F.bd, F.ge.2.2, F.nl⟩ hm hT, (List.forall_mem_cons.2 ⟨cts10 F hm hT, (List.forall_mem_cons.2 ⟨cts14 F hm hT, (List.forall_mem_cons.2 ⟨cts18 F hm hT, (List.forall_mem_cons.2 ⟨cts21 F hm hT, ctN⟩)⟩)⟩)⟩)⟩)) Tryz.func3 rfl hl ctt0 w
theorem ctt1 : (callN (ctE [ctP6, ctP12, ctP16, ctP19, ctP20] ctI [(0,[(3,1),(1,-1)]), (-1,[(3,1)]), (-1,[(1,1)]), (-1,[(0,1),(2,-1)]), (0,[(1,1),(3,-1)])]) 100 3 ctArgs H0).isTrue = true := by kernel_rfl
set_option maxRecDepth 100000 in
theorem ctu1 {G : Gh} (F : Facts G ctI [(0,[(3,1),(1,-1)]), (-1,[(3,1)]), (-1,[(1,1)]), (-1,[(0,1),(2,-1)]), (0,[(1,1),(3,-1)])] []) (hm : ¬ G.mono) (hT : HooksOk Tryz.prog G (hkT ctT)) {ul : List Value} (hl : concL G (fun _ => none) ctArgs = some ul) (w : World) : Calls Tryz.prog 3 ul.toArray w (TrueBelow w) := run_true (nl := []) progOk F (ctH F hm hT (List.forall_mem_cons.2 ⟨cts6 ⟨F.bd, F.ge.2.2, F.nl⟩ hm hT, (List.forall_mem_cons.2 ⟨cts12 F hm hT, (List.forall_mem_cons.2 ⟨cts16 F hm hT, (List.forall_mem_cons.2 ⟨cts19 F hm hT, (List.forall_mem_cons.2 ⟨cts20 F hm hT, ctN⟩)⟩)⟩)⟩)⟩)) Tryz.func3 rfl hl ctt1 w
theorem ctt2 : (callN (ctE [ctP6, ctP11, ctP15, ctP22, ctP23] ctI [(-1,[(1,1),(3,-1)]), (0,[(3,-1)]), (-1,[(1,1)]), (-1,[(0,1),(2,-1)]), (0,[(1,1),(3,-1)])]) 100 3 ctArgs H0).isTrue = true := by kernel_rfl
set_option maxRecDepth 100000 in
theorem ctu2 {G : Gh} (F : Facts G ctI [(-1,[(1,1),(3,-1)]), (0,[(3,-1)]), (-1,[(1,1)]), (-1,[(0,1),(2,-1)]), (0,[(1,1),(3,-1)])] []) (hm : ¬ G.mono) (hT : HooksOk Tryz.prog G (hkT ctT)) {ul : List Value} (hl : concL G (fun _ => none) ctArgs = some ul) (w : World) : Calls Tryz.prog 3 ul.toArray w (TrueBelow w) := run_true (nl := []) progOk F (ctH F hm hT (List.forall_mem_cons.2 ⟨cts6 ⟨F.bd, F.ge.2.2, F.nl⟩ hm hT, (List.forall_mem_cons.2 ⟨cts11 ⟨F.bd, F.ge.2, F.nl⟩ hm hT, (List.forall_mem_cons.2 ⟨cts15 ⟨F.bd, F.ge.2, F.nl⟩ hm hT, (List.forall_mem_cons.2 ⟨cts22 F hm hT, (List.forall_mem_cons.2 ⟨cts23 F hm hT, ctN⟩)⟩)⟩)⟩)⟩)) Tryz.func3 rfl hl ctt2 w
theorem ctt3 : (callN (ctE [ctP7, ctP8, ctP9, ctP13, ctP17] ctI [(0,[(3,-1)]), (0,[(1,-1)]), (-1,[(0,1),(2,-1)]), (0,[(1,1),(3,-1)])]) 100 3 ctArgs H0).isTrue = true := by kernel_rfl
set_option maxRecDepth 100000 in
theorem ctu3 {G : Gh} (F : Facts G ctI [(0,[(3,-1)]), (0,[(1,-1)]), (-1,[(0,1),(2,-1)]), (0,[(1,1),(3,-1)])] []) (hm : ¬ G.mono) (hT : HooksOk Tryz.prog G (hkT ctT)) {ul : List Value} (hl : concL G (fun _ => none) ctArgs = some ul) (w : World) : Calls Tryz.prog 3 ul.toArray w (TrueBelow w) := run_true (nl := []) progOk F (ctH F hm hT (List.forall_mem_cons.2 ⟨cts7 ⟨F.bd, F.ge.2, F.nl⟩ hm hT, (List.forall_mem_cons.2 ⟨cts8 F hm hT, (List.forall_mem_cons.2 ⟨cts9 F hm hT, (List.forall_mem_cons.2 ⟨cts13 F hm hT, (List.forall_mem_cons.2 ⟨cts17 F hm hT, ctN⟩)⟩)⟩)⟩)⟩)) Tryz.func3 rfl hl ctt3 w
end Go.Proofs.YtaajobcfbgpfoaaGreat
