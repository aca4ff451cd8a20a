/- complinelaw24.CheckReasons: runs, part 0. -/
import Derived.Test.YtaajobcfbgpfoaaGreatCrQ
namespace Go.Proofs.YtaajobcfbgpfoaaGreat
open Go Go.RowKit Gv Gv.Lt
theorem crr0 : isSn crP0 (callN (crE [] crI [(0,[(0,1),(2,-1)]), (0,[(1,1),(3,-1)])]) 100 15 crP0.args crP0.h0) = true := by kernel_rfl
set_option maxRecDepth 100000 in
theorem crs0 {G : Gh} (F : Facts G crI [(0,[(0,1),(2,-1)]), (0,[(1,1),(3,-1)])] []) (hm : ¬ G.mono) (hT : HooksOk Tryz.prog G (hkT crT)) : SNOk Tryz.prog G crP0 := snap_ok progOk F (crH F hm hT crN) 100 crP0 Tryz.func15 rfl crr0
theorem crr1 : isSn crP1 (callN (crE [] crI [(0,[(0,1),(2,-1)]), (0,[(1,1),(3,-1)])]) 100 16 crP1.args crP1.h0) = true := by kernel_rfl
set_option maxRecDepth 100000 in
theorem crs1 {G : Gh} (F : Facts G crI [(0,[(0,1),(2,-1)]), (0,[(1,1),(3,-1)])] []) (hm : ¬ G.mono) (hT : HooksOk Tryz.prog G (hkT crT)) : SNOk Tryz.prog G crP1 := snap_ok progOk F (crH F hm hT crN) 100 crP1 Tryz.func16 rfl crr1
theorem crr2 : isSn crP2 (callN (crE [] crI [(0,[(0,1),(2,-1)]), (0,[(1,1),(3,-1)])]) 100 16 crP2.args crP2.h0) = true := by kernel_rfl
set_option maxRecDepth 100000 in
theorem crs2 {G : Gh} (F : Facts G crI [(0,[(0,1),(2,-1)]), (0,[(1,1),(3,-1)])] []) (hm : ¬ G.mono) (hT : HooksOk Tryz.prog G (hkT crT)) : SNOk Tryz.prog G crP2 := snap_ok progOk F (crH F hm hT crN) 100 crP2 Tryz.func16 rfl crr2
theorem crr3 : isSn crP3 (callN (crE [] crI [(0,[(0,1),(2,-1)]), (0,[(1,1),(3,-1)])]) 100 16 crP3.args crP3.h0) = true := by kernel_rfl
set_option maxRecDepth 100000 in
theorem crs3 {G : Gh} (F : Facts G crI [(0,[(0,1),(2,-1)]), (0,[(1,1),(3,-1)])] []) (hm : ¬ G.mono) (hT : HooksOk Tryz.prog G (hkT crT)) : SNOk Tryz.prog G crP3 := snap_ok progOk F (crH F hm hT crN) 100 crP3 Tryz.func16 rfl crr3
theorem crr4 : isSn crP4 (callN (crE [] crI [(-1,[(1,1)]), (0,[(0,1),(2,-1)]), (0,[(1,1),(3,-1)])]) 100 16 crP4.args crP4.h0) = true := by kernel_rfl
set_option maxRecDepth 100000 in
theorem crs4 {G : Gh} (F : Facts G crI [(-1,[(1,1)]), (0,[(0,1),(2,-1)]), (0,[(1,1),(3,-1)])] []) (hm : ¬ G.mono) (hT : HooksOk Tryz.prog G (hkT crT)) : SNOk Tryz.prog G crP4 := snap_ok progOk F (crH F hm hT crN) 100 crP4 Tryz.func16 rfl crr4
theorem crr6 : isSn crP6 (callN (crE [crP0, crP1, crP2, crP3, crP4] crI [(-1,[(1,1)]), (0,[(0,1),(2,-1)]), (0,[(1,1),(3,-1)])]) 100 6 crP6.args crP6.h0) = true := by kernel_rfl
set_option maxRecDepth 100000 in
theorem crs6 {G : Gh} (F : Facts G crI [(-1,[(1,1)]), (0,[(0,1),(2,-1)]), (0,[(1,1),(3,-1)])] []) (hm : ¬ G.mono) (hT : HooksOk Tryz.prog G (hkT crT)) : SNOk Tryz.prog G crP6 := snap_ok progOk F (crH F hm hT (List.forall_mem_cons.2 ⟨crs0 ⟨F.bd, F.ge.2, F.nl⟩ hm hT, (List.forall_mem_cons.2 ⟨crs1 ⟨F.bd, F.ge.2, F.nl⟩ hm hT, (List.forall_mem_cons.2 ⟨crs2 ⟨F.bd, F.ge.2, F.nl⟩ hm hT, (List.forall_mem_cons.2 ⟨crs3 ⟨F.bd, F.ge.2, F.nl⟩ hm hT, (List.forall_mem_cons.2 ⟨crs4 F hm hT, crN⟩)⟩)⟩)⟩)⟩)) 100 crP6 Tryz.func6 rfl crr6
theorem crr13 : isSn crP13 (callN (crE [] crI [(-1,[(3,1)]), (0,[(2,1),(0,-1)]), (-1,[(1,1)]), (0,[(0,1),(2,-1)]), (0,[(1,1),(3,-1)])]) 100 13 crP13.args crP13.h0) = true := by kernel_rfl
set_option maxRecDepth 100000 in
theorem crs13 {G : Gh} (F : Facts G crI [(-1,[(3,1)]), (0,[(2,1),(0,-1)]), (-1,[(1,1)]), (0,[(0,1),(2,-1)]), (0,[(1,1),(3,-1)])] []) (hm : ¬ G.mono) (hT : HooksOk Tryz.prog G (hkT crT)) : SNOk Tryz.prog G crP13 := snap_ok progOk F (crH F hm hT crN) 100 crP13 Tryz.func13 rfl crr13
theorem crr35 : isSn crP35 (callN (crE [] crI [(-1,[(3,-1),(1,1)]), (-1,[(3,1)]), (0,[(2,1),(0,-1)]), (-1,[(1,1)]), (0,[(0,1),(2,-1)]), (0,[(1,1),(3,-1)])]) 100 8 crP35.args crP35.h0) = true := by kernel_rfl
set_option maxRecDepth 100000 in
theorem crs35 {G : Gh} (F : Facts G crI [(-1,[(3,-1),(1,1)]), (-1,[(3,1)]), (0,[(2,1),(0,-1)]), (-1,[(1,1)]), (0,[(0,1),(2,-1)]), (0,[(1,1),(3,-1)])] []) (hm : ¬ G.mono) (hT : HooksOk Tryz.prog G (hkT crT)) : SNOk Tryz.prog G crP35 := snap_ok progOk F (crH F hm hT crN) 100 crP35 Tryz.func8 rfl crr35
end Go.Proofs.YtaajobcfbgpfoaaGreat
