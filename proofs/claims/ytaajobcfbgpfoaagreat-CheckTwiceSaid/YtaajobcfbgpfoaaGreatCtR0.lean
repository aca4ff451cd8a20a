/- complinelaw24.CheckTwice: runs, part 0. -/
import Derived.Test.YtaajobcfbgpfoaaGreatCtQ
namespace Go.Proofs.YtaajobcfbgpfoaaGreat
open Go Go.RowKit Gv Gv.Lt
theorem ctr0 : isSn ctP0 (callN (ctE [] ctI [(-1,[(0,1),(2,-1)]), (0,[(1,1),(3,-1)])]) 100 15 ctP0.args ctP0.h0) = true := by kernel_rfl
set_option maxRecDepth 100000 in
theorem cts0 {G : Gh} (F : Facts G ctI [(-1,[(0,1),(2,-1)]), (0,[(1,1),(3,-1)])] []) (hm : ¬ G.mono) (hT : HooksOk Tryz.prog G (hkT ctT)) : SNOk Tryz.prog G ctP0 := snap_ok progOk F (ctH F hm hT ctN) 100 ctP0 Tryz.func15 rfl ctr0
theorem ctr1 : isSn ctP1 (callN (ctE [] ctI [(-1,[(0,1),(2,-1)]), (0,[(1,1),(3,-1)])]) 100 16 ctP1.args ctP1.h0) = true := by kernel_rfl
set_option maxRecDepth 100000 in
theorem cts1 {G : Gh} (F : Facts G ctI [(-1,[(0,1),(2,-1)]), (0,[(1,1),(3,-1)])] []) (hm : ¬ G.mono) (hT : HooksOk Tryz.prog G (hkT ctT)) : SNOk Tryz.prog G ctP1 := snap_ok progOk F (ctH F hm hT ctN) 100 ctP1 Tryz.func16 rfl ctr1
theorem ctr2 : isSn ctP2 (callN (ctE [] ctI [(-1,[(0,1),(2,-1)]), (0,[(1,1),(3,-1)])]) 100 16 ctP2.args ctP2.h0) = true := by kernel_rfl
set_option maxRecDepth 100000 in
theorem cts2 {G : Gh} (F : Facts G ctI [(-1,[(0,1),(2,-1)]), (0,[(1,1),(3,-1)])] []) (hm : ¬ G.mono) (hT : HooksOk Tryz.prog G (hkT ctT)) : SNOk Tryz.prog G ctP2 := snap_ok progOk F (ctH F hm hT ctN) 100 ctP2 Tryz.func16 rfl ctr2
theorem ctr3 : isSn ctP3 (callN (ctE [] ctI [(-1,[(0,1),(2,-1)]), (0,[(1,1),(3,-1)])]) 100 16 ctP3.args ctP3.h0) = true := by kernel_rfl
set_option maxRecDepth 100000 in
theorem cts3 {G : Gh} (F : Facts G ctI [(-1,[(0,1),(2,-1)]), (0,[(1,1),(3,-1)])] []) (hm : ¬ G.mono) (hT : HooksOk Tryz.prog G (hkT ctT)) : SNOk Tryz.prog G ctP3 := snap_ok progOk F (ctH F hm hT ctN) 100 ctP3 Tryz.func16 rfl ctr3
theorem ctr4 : isSn ctP4 (callN (ctE [] ctI [(-1,[(1,1)]), (-1,[(0,1),(2,-1)]), (0,[(1,1),(3,-1)])]) 100 16 ctP4.args ctP4.h0) = true := by kernel_rfl
set_option maxRecDepth 100000 in
theorem cts4 {G : Gh} (F : Facts G ctI [(-1,[(1,1)]), (-1,[(0,1),(2,-1)]), (0,[(1,1),(3,-1)])] []) (hm : ¬ G.mono) (hT : HooksOk Tryz.prog G (hkT ctT)) : SNOk Tryz.prog G ctP4 := snap_ok progOk F (ctH F hm hT ctN) 100 ctP4 Tryz.func16 rfl ctr4
theorem ctr6 : isSn ctP6 (callN (ctE [ctP0, ctP1, ctP2, ctP3, ctP4] ctI [(-1,[(1,1)]), (-1,[(0,1),(2,-1)]), (0,[(1,1),(3,-1)])]) 100 6 ctP6.args ctP6.h0) = true := by kernel_rfl
set_option maxRecDepth 100000 in
theorem cts6 {G : Gh} (F : Facts G ctI [(-1,[(1,1)]), (-1,[(0,1),(2,-1)]), (0,[(1,1),(3,-1)])] []) (hm : ¬ G.mono) (hT : HooksOk Tryz.prog G (hkT ctT)) : SNOk Tryz.prog G ctP6 := snap_ok progOk F (ctH F hm hT (List.forall_mem_cons.2 ⟨cts0 ⟨F.bd, F.ge.2, F.nl⟩ hm hT, (List.forall_mem_cons.2 ⟨cts1 ⟨F.bd, F.ge.2, F.nl⟩ hm hT, (List.forall_mem_cons.2 ⟨cts2 ⟨F.bd, F.ge.2, F.nl⟩ hm hT, (List.forall_mem_cons.2 ⟨cts3 ⟨F.bd, F.ge.2, F.nl⟩ hm hT, (List.forall_mem_cons.2 ⟨cts4 F hm hT, ctN⟩)⟩)⟩)⟩)⟩)) 100 ctP6 Tryz.func6 rfl ctr6
theorem ctr10 : isSn ctP10 (callN (ctE [] ctI [(-1,[(3,-1),(1,1)]), (-1,[(3,1)]), (-1,[(1,1)]), (-1,[(0,1),(2,-1)]), (0,[(1,1),(3,-1)])]) 100 8 ctP10.args ctP10.h0) = true := by kernel_rfl
set_option maxRecDepth 100000 in
theorem cts10 {G : Gh} (F : Facts G ctI [(-1,[(3,-1),(1,1)]), (-1,[(3,1)]), (-1,[(1,1)]), (-1,[(0,1),(2,-1)]), (0,[(1,1),(3,-1)])] []) (hm : ¬ G.mono) (hT : HooksOk Tryz.prog G (hkT ctT)) : SNOk Tryz.prog G ctP10 := snap_ok progOk F (ctH F hm hT ctN) 100 ctP10 Tryz.func8 rfl ctr10
end Go.Proofs.YtaajobcfbgpfoaaGreat
