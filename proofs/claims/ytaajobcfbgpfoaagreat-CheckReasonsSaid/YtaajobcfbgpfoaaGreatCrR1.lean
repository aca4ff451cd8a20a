/- complinelaw24.CheckReasons: runs, part 1. -/
import Derived.Test.YtaajobcfbgpfoaaGreatCrQ
import Derived.Test.YtaajobcfbgpfoaaGreatCrR0
namespace Go.Proofs.YtaajobcfbgpfoaaGreat
open Go Go.RowKit Gv Gv.Lt
theorem crr36 : isSn crP36 (callN (crE [] crI [(0,[(3,1),(1,-1)]), (-1,[(3,1)]), (0,[(2,1),(0,-1)]), (-1,[(1,1)]), (0,[(0,1),(2,-1)]), (0,[(1,1),(3,-1)])]) 100 8 crP36.args crP36.h0) = true := by kernel_rfl
set_option maxRecDepth 100000 in
theorem crs36 {G : Gh} (F : Facts G crI [(0,[(3,1),(1,-1)]), (-1,[(3,1)]), (0,[(2,1),(0,-1)]), (-1,[(1,1)]), (0,[(0,1),(2,-1)]), (0,[(1,1),(3,-1)])] []) (hm : ¬ G.mono) (hT : HooksOk Tryz.prog G (hkT crT)) : SNOk Tryz.prog G crP36 := snap_ok progOk F (crH F hm hT crN) 100 crP36 Tryz.func8 rfl crr36
theorem crr14 : isSn crP14 (callN (crE [] crI [(0,[(3,-1)]), (0,[(2,1),(0,-1)]), (-1,[(1,1)]), (0,[(0,1),(2,-1)]), (0,[(1,1),(3,-1)])]) 100 13 crP14.args crP14.h0) = true := by kernel_rfl
set_option maxRecDepth 100000 in
theorem crs14 {G : Gh} (F : Facts G crI [(0,[(3,-1)]), (0,[(2,1),(0,-1)]), (-1,[(1,1)]), (0,[(0,1),(2,-1)]), (0,[(1,1),(3,-1)])] []) (hm : ¬ G.mono) (hT : HooksOk Tryz.prog G (hkT crT)) : SNOk Tryz.prog G crP14 := snap_ok progOk F (crH F hm hT crN) 100 crP14 Tryz.func13 rfl crr14
theorem crr28 : isSn crP28 (callN (crE [] crI [(0,[(3,-1)]), (0,[(2,1),(0,-1)]), (-1,[(1,1)]), (0,[(0,1),(2,-1)]), (0,[(1,1),(3,-1)])]) 100 8 crP28.args crP28.h0) = true := by kernel_rfl
set_option maxRecDepth 100000 in
theorem crs28 {G : Gh} (F : Facts G crI [(0,[(3,-1)]), (0,[(2,1),(0,-1)]), (-1,[(1,1)]), (0,[(0,1),(2,-1)]), (0,[(1,1),(3,-1)])] []) (hm : ¬ G.mono) (hT : HooksOk Tryz.prog G (hkT crT)) : SNOk Tryz.prog G crP28 := snap_ok progOk F (crH F hm hT crN) 100 crP28 Tryz.func8 rfl crr28
theorem crr15 : isSn crP15 (callN (crE [] crI [(-1,[(2,-1),(0,1)]), (-1,[(1,1)]), (0,[(0,1),(2,-1)]), (0,[(1,1),(3,-1)])]) 100 13 crP15.args crP15.h0) = true := by kernel_rfl
set_option maxRecDepth 100000 in
theorem crs15 {G : Gh} (F : Facts G crI [(-1,[(2,-1),(0,1)]), (-1,[(1,1)]), (0,[(0,1),(2,-1)]), (0,[(1,1),(3,-1)])] []) (hm : ¬ G.mono) (hT : HooksOk Tryz.prog G (hkT crT)) : SNOk Tryz.prog G crP15 := snap_ok progOk F (crH F hm hT crN) 100 crP15 Tryz.func13 rfl crr15
theorem crr26 : isSn crP26 (callN (crE [] crI [(-1,[(2,-1),(0,1)]), (-1,[(1,1)]), (0,[(0,1),(2,-1)]), (0,[(1,1),(3,-1)])]) 100 8 crP26.args crP26.h0) = true := by kernel_rfl
set_option maxRecDepth 100000 in
theorem crs26 {G : Gh} (F : Facts G crI [(-1,[(2,-1),(0,1)]), (-1,[(1,1)]), (0,[(0,1),(2,-1)]), (0,[(1,1),(3,-1)])] []) (hm : ¬ G.mono) (hT : HooksOk Tryz.prog G (hkT crT)) : SNOk Tryz.prog G crP26 := snap_ok progOk F (crH F hm hT crN) 100 crP26 Tryz.func8 rfl crr26
theorem crr5 : isSn crP5 (callN (crE [] crI [(0,[(1,-1)]), (0,[(0,1),(2,-1)]), (0,[(1,1),(3,-1)])]) 100 16 crP5.args crP5.h0) = true := by kernel_rfl
set_option maxRecDepth 100000 in
theorem crs5 {G : Gh} (F : Facts G crI [(0,[(1,-1)]), (0,[(0,1),(2,-1)]), (0,[(1,1),(3,-1)])] []) (hm : ¬ G.mono) (hT : HooksOk Tryz.prog G (hkT crT)) : SNOk Tryz.prog G crP5 := snap_ok progOk F (crH F hm hT crN) 100 crP5 Tryz.func16 rfl crr5
theorem crr7 : isSn crP7 (callN (crE [crP0, crP1, crP2, crP3, crP5] crI [(0,[(1,-1)]), (0,[(0,1),(2,-1)]), (0,[(1,1),(3,-1)])]) 100 6 crP7.args crP7.h0) = true := by kernel_rfl
set_option maxRecDepth 100000 in
theorem crs7 {G : Gh} (F : Facts G crI [(0,[(1,-1)]), (0,[(0,1),(2,-1)]), (0,[(1,1),(3,-1)])] []) (hm : ¬ G.mono) (hT : HooksOk Tryz.prog G (hkT crT)) : SNOk Tryz.prog G crP7 := snap_ok progOk F (crH F hm hT (List.forall_mem_cons.2 ⟨crs0 ⟨F.bd, F.ge.2, F.nl⟩ hm hT, (List.forall_mem_cons.2 ⟨crs1 ⟨F.bd, F.ge.2, F.nl⟩ hm hT, (List.forall_mem_cons.2 ⟨crs2 ⟨F.bd, F.ge.2, F.nl⟩ hm hT, (List.forall_mem_cons.2 ⟨crs3 ⟨F.bd, F.ge.2, F.nl⟩ hm hT, (List.forall_mem_cons.2 ⟨crs5 F hm hT, crN⟩)⟩)⟩)⟩)⟩)) 100 crP7 Tryz.func6 rfl crr7
theorem crr21 : isSn crP21 (callN (crE [] crI [(0,[(3,-1)]), (0,[(2,1),(0,-1)]), (0,[(1,-1)]), (0,[(0,1),(2,-1)]), (0,[(1,1),(3,-1)])]) 100 13 crP21.args crP21.h0) = true := by kernel_rfl
set_option maxRecDepth 100000 in
theorem crs21 {G : Gh} (F : Facts G crI [(0,[(3,-1)]), (0,[(2,1),(0,-1)]), (0,[(1,-1)]), (0,[(0,1),(2,-1)]), (0,[(1,1),(3,-1)])] []) (hm : ¬ G.mono) (hT : HooksOk Tryz.prog G (hkT crT)) : SNOk Tryz.prog G crP21 := snap_ok progOk F (crH F hm hT crN) 100 crP21 Tryz.func13 rfl crr21
theorem crr32 : isSn crP32 (callN (crE [] crI [(0,[(3,-1)]), (0,[(2,1),(0,-1)]), (0,[(1,-1)]), (0,[(0,1),(2,-1)]), (0,[(1,1),(3,-1)])]) 100 8 crP32.args crP32.h0) = true := by kernel_rfl
set_option maxRecDepth 100000 in
theorem crs32 {G : Gh} (F : Facts G crI [(0,[(3,-1)]), (0,[(2,1),(0,-1)]), (0,[(1,-1)]), (0,[(0,1),(2,-1)]), (0,[(1,1),(3,-1)])] []) (hm : ¬ G.mono) (hT : HooksOk Tryz.prog G (hkT crT)) : SNOk Tryz.prog G crP32 := snap_ok progOk F (crH F hm hT crN) 100 crP32 Tryz.func8 rfl crr32
theorem crr20 : isSn crP20 (callN (crE [] crI [(-1,[(2,-1),(0,1)]), (0,[(1,-1)]), (0,[(0,1),(2,-1)]), (0,[(1,1),(3,-1)])]) 100 13 crP20.args crP20.h0) = true := by kernel_rfl
set_option maxRecDepth 100000 in
theorem crs20 {G : Gh} (F : Facts G crI [(-1,[(2,-1),(0,1)]), (0,[(1,-1)]), (0,[(0,1),(2,-1)]), (0,[(1,1),(3,-1)])] []) (hm : ¬ G.mono) (hT : HooksOk Tryz.prog G (hkT crT)) : SNOk Tryz.prog G crP20 := snap_ok progOk F (crH F hm hT crN) 100 crP20 Tryz.func13 rfl crr20
theorem crr30 : isSn crP30 (callN (crE [] crI [(-1,[(2,-1),(0,1)]), (0,[(1,-1)]), (0,[(0,1),(2,-1)]), (0,[(1,1),(3,-1)])]) 100 8 crP30.args crP30.h0) = true := by kernel_rfl
set_option maxRecDepth 100000 in
theorem crs30 {G : Gh} (F : Facts G crI [(-1,[(2,-1),(0,1)]), (0,[(1,-1)]), (0,[(0,1),(2,-1)]), (0,[(1,1),(3,-1)])] []) (hm : ¬ G.mono) (hT : HooksOk Tryz.prog G (hkT crT)) : SNOk Tryz.prog G crP30 := snap_ok progOk F (crH F hm hT crN) 100 crP30 Tryz.func8 rfl crr30
end Go.Proofs.YtaajobcfbgpfoaaGreat
