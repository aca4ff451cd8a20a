/- complinelaw24.CheckTwice: runs, part 2. -/
import Derived.Test.YtaajobcfbgpfoaaGreatCtQ
import Derived.Test.YtaajobcfbgpfoaaGreatCtR0
namespace Go.Proofs.YtaajobcfbgpfoaaGreat
open Go Go.RowKit Gv Gv.Lt
theorem ctr11 : isSn ctP11 (callN (ctE [] ctI [(0,[(3,-1)]), (-1,[(1,1)]), (-1,[(0,1),(2,-1)]), (0,[(1,1),(3,-1)])]) 100 8 ctP11.args ctP11.h0) = true := by kernel_rfl
set_option maxRecDepth 100000 in
theorem cts11 {G : Gh} (F : Facts G ctI [(0,[(3,-1)]), (-1,[(1,1)]), (-1,[(0,1),(2,-1)]), (0,[(1,1),(3,-1)])] []) (hm : ¬ G.mono) (hT : HooksOk Tryz.prog G (hkT ctT)) : SNOk Tryz.prog G ctP11 := snap_ok progOk F (ctH F hm hT ctN) 100 ctP11 Tryz.func8 rfl ctr11
theorem ctr15 : isSn ctP15 (callN (ctE [] ctI [(0,[(3,-1)]), (-1,[(1,1)]), (-1,[(0,1),(2,-1)]), (0,[(1,1),(3,-1)])]) 100 8 ctP15.args ctP15.h0) = true := by kernel_rfl
set_option maxRecDepth 100000 in
theorem cts15 {G : Gh} (F : Facts G ctI [(0,[(3,-1)]), (-1,[(1,1)]), (-1,[(0,1),(2,-1)]), (0,[(1,1),(3,-1)])] []) (hm : ¬ G.mono) (hT : HooksOk Tryz.prog G (hkT ctT)) : SNOk Tryz.prog G ctP15 := snap_ok progOk F (ctH F hm hT ctN) 100 ctP15 Tryz.func8 rfl ctr15
theorem ctr22 : isSn ctP22 (callN (ctE [] ctI [(-1,[(1,1),(3,-1)]), (0,[(3,-1)]), (-1,[(1,1)]), (-1,[(0,1),(2,-1)]), (0,[(1,1),(3,-1)])]) 100 8 ctP22.args ctP22.h0) = true := by kernel_rfl
set_option maxRecDepth 100000 in
theorem cts22 {G : Gh} (F : Facts G ctI [(-1,[(1,1),(3,-1)]), (0,[(3,-1)]), (-1,[(1,1)]), (-1,[(0,1),(2,-1)]), (0,[(1,1),(3,-1)])] []) (hm : ¬ G.mono) (hT : HooksOk Tryz.prog G (hkT ctT)) : SNOk Tryz.prog G ctP22 := snap_ok progOk F (ctH F hm hT ctN) 100 ctP22 Tryz.func8 rfl ctr22
theorem ctr23 : isSn ctP23 (callN (ctE [] ctI [(-1,[(1,1),(3,-1)]), (0,[(3,-1)]), (-1,[(1,1)]), (-1,[(0,1),(2,-1)]), (0,[(1,1),(3,-1)])]) 100 8 ctP23.args ctP23.h0) = true := by kernel_rfl
set_option maxRecDepth 100000 in
theorem cts23 {G : Gh} (F : Facts G ctI [(-1,[(1,1),(3,-1)]), (0,[(3,-1)]), (-1,[(1,1)]), (-1,[(0,1),(2,-1)]), (0,[(1,1),(3,-1)])] []) (hm : ¬ G.mono) (hT : HooksOk Tryz.prog G (hkT ctT)) : SNOk Tryz.prog G ctP23 := snap_ok progOk F (ctH F hm hT ctN) 100 ctP23 Tryz.func8 rfl ctr23
theorem ctr5 : isSn ctP5 (callN (ctE [] ctI [(0,[(1,-1)]), (-1,[(0,1),(2,-1)]), (0,[(1,1),(3,-1)])]) 100 16 ctP5.args ctP5.h0) = true := by kernel_rfl
set_option maxRecDepth 100000 in
theorem cts5 {G : Gh} (F : Facts G ctI [(0,[(1,-1)]), (-1,[(0,1),(2,-1)]), (0,[(1,1),(3,-1)])] []) (hm : ¬ G.mono) (hT : HooksOk Tryz.prog G (hkT ctT)) : SNOk Tryz.prog G ctP5 := snap_ok progOk F (ctH F hm hT ctN) 100 ctP5 Tryz.func16 rfl ctr5
theorem ctr7 : isSn ctP7 (callN (ctE [ctP0, ctP1, ctP2, ctP3, ctP5] ctI [(0,[(1,-1)]), (-1,[(0,1),(2,-1)]), (0,[(1,1),(3,-1)])]) 100 6 ctP7.args ctP7.h0) = true := by kernel_rfl
set_option maxRecDepth 100000 in
theorem cts7 {G : Gh} (F : Facts G ctI [(0,[(1,-1)]), (-1,[(0,1),(2,-1)]), (0,[(1,1),(3,-1)])] []) (hm : ¬ G.mono) (hT : HooksOk Tryz.prog G (hkT ctT)) : SNOk Tryz.prog G ctP7 := snap_ok progOk F (ctH F hm hT (List.forall_mem_cons.2 ⟨cts0 ⟨F.bd, F.ge.2, F.nl⟩ hm hT, (List.forall_mem_cons.2 ⟨cts1 ⟨F.bd, F.ge.2, F.nl⟩ hm hT, (List.forall_mem_cons.2 ⟨cts2 ⟨F.bd, F.ge.2, F.nl⟩ hm hT, (List.forall_mem_cons.2 ⟨cts3 ⟨F.bd, F.ge.2, F.nl⟩ hm hT, (List.forall_mem_cons.2 ⟨cts5 F hm hT, ctN⟩)⟩)⟩)⟩)⟩)) 100 ctP7 Tryz.func6 rfl ctr7
theorem ctr8 : isSn ctP8 (callN (ctE [] ctI [(0,[(3,-1)]), (0,[(1,-1)]), (-1,[(0,1),(2,-1)]), (0,[(1,1),(3,-1)])]) 100 8 ctP8.args ctP8.h0) = true := by kernel_rfl
set_option maxRecDepth 100000 in
theorem cts8 {G : Gh} (F : Facts G ctI [(0,[(3,-1)]), (0,[(1,-1)]), (-1,[(0,1),(2,-1)]), (0,[(1,1),(3,-1)])] []) (hm : ¬ G.mono) (hT : HooksOk Tryz.prog G (hkT ctT)) : SNOk Tryz.prog G ctP8 := snap_ok progOk F (ctH F hm hT ctN) 100 ctP8 Tryz.func8 rfl ctr8
theorem ctr9 : isSn ctP9 (callN (ctE [] ctI [(0,[(3,-1)]), (0,[(1,-1)]), (-1,[(0,1),(2,-1)]), (0,[(1,1),(3,-1)])]) 100 8 ctP9.args ctP9.h0) = true := by kernel_rfl
set_option maxRecDepth 100000 in
theorem cts9 {G : Gh} (F : Facts G ctI [(0,[(3,-1)]), (0,[(1,-1)]), (-1,[(0,1),(2,-1)]), (0,[(1,1),(3,-1)])] []) (hm : ¬ G.mono) (hT : HooksOk Tryz.prog G (hkT ctT)) : SNOk Tryz.prog G ctP9 := snap_ok progOk F (ctH F hm hT ctN) 100 ctP9 Tryz.func8 rfl ctr9
end Go.Proofs.YtaajobcfbgpfoaaGreat
