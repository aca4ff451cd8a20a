/- complinelaw24.CheckReasons: runs, part 3. -/
import Derived.Test.YtaajobcfbgpfoaaGreatCrQ
namespace Go.Proofs.YtaajobcfbgpfoaaGreat
open Go Go.RowKit Gv Gv.Lt
theorem crr22 : isSn crP22 (callN (crE [] crI [(0,[(1,-1)]), (0,[(0,1),(2,-1)]), (0,[(1,1),(3,-1)])]) 100 8 crP22.args crP22.h0) = true := by kernel_rfl
set_option maxRecDepth 100000 in
theorem crs22 {G : Gh} (F : Facts G crI [(0,[(1,-1)]), (0,[(0,1),(2,-1)]), (0,[(1,1),(3,-1)])] []) (hm : ¬ G.mono) (hT : HooksOk Tryz.prog G (hkT crT)) : SNOk Tryz.prog G crP22 := snap_ok progOk F (crH F hm hT crN) 100 crP22 Tryz.func8 rfl crr22
theorem crr37 : isSn crP37 (callN (crE [] crI [(-1,[(1,1)]), (0,[(0,1),(2,-1)]), (0,[(1,1),(3,-1)])]) 100 13 crP37.args crP37.h0) = true := by kernel_rfl
set_option maxRecDepth 100000 in
theorem crs37 {G : Gh} (F : Facts G crI [(-1,[(1,1)]), (0,[(0,1),(2,-1)]), (0,[(1,1),(3,-1)])] []) (hm : ¬ G.mono) (hT : HooksOk Tryz.prog G (hkT crT)) : SNOk Tryz.prog G crP37 := snap_ok progOk F (crH F hm hT crN) 100 crP37 Tryz.func13 rfl crr37
theorem crr41 : isSn crP41 (callN (crE [] crI [(-1,[(1,1)]), (0,[(0,1),(2,-1)]), (0,[(1,1),(3,-1)])]) 100 8 crP41.args crP41.h0) = true := by kernel_rfl
set_option maxRecDepth 100000 in
theorem crs41 {G : Gh} (F : Facts G crI [(-1,[(1,1)]), (0,[(0,1),(2,-1)]), (0,[(1,1),(3,-1)])] []) (hm : ¬ G.mono) (hT : HooksOk Tryz.prog G (hkT crT)) : SNOk Tryz.prog G crP41 := snap_ok progOk F (crH F hm hT crN) 100 crP41 Tryz.func8 rfl crr41
theorem crr38 : isSn crP38 (callN (crE [] crI [(0,[(1,-1)]), (0,[(0,1),(2,-1)]), (0,[(1,1),(3,-1)])]) 100 13 crP38.args crP38.h0) = true := by kernel_rfl
set_option maxRecDepth 100000 in
theorem crs38 {G : Gh} (F : Facts G crI [(0,[(1,-1)]), (0,[(0,1),(2,-1)]), (0,[(1,1),(3,-1)])] []) (hm : ¬ G.mono) (hT : HooksOk Tryz.prog G (hkT crT)) : SNOk Tryz.prog G crP38 := snap_ok progOk F (crH F hm hT crN) 100 crP38 Tryz.func13 rfl crr38
theorem crr42 : isSn crP42 (callN (crE [] crI [(0,[(1,-1)]), (0,[(0,1),(2,-1)]), (0,[(1,1),(3,-1)])]) 100 8 crP42.args crP42.h0) = true := by kernel_rfl
set_option maxRecDepth 100000 in
theorem crs42 {G : Gh} (F : Facts G crI [(0,[(1,-1)]), (0,[(0,1),(2,-1)]), (0,[(1,1),(3,-1)])] []) (hm : ¬ G.mono) (hT : HooksOk Tryz.prog G (hkT crT)) : SNOk Tryz.prog G crP42 := snap_ok progOk F (crH F hm hT crN) 100 crP42 Tryz.func8 rfl crr42
theorem crr39 : isSn crP39 (callN (crE [] crI [(-1,[(1,1)]), (0,[(0,1),(2,-1)]), (0,[(1,1),(3,-1)])]) 100 13 crP39.args crP39.h0) = true := by kernel_rfl
set_option maxRecDepth 100000 in
theorem crs39 {G : Gh} (F : Facts G crI [(-1,[(1,1)]), (0,[(0,1),(2,-1)]), (0,[(1,1),(3,-1)])] []) (hm : ¬ G.mono) (hT : HooksOk Tryz.prog G (hkT crT)) : SNOk Tryz.prog G crP39 := snap_ok progOk F (crH F hm hT crN) 100 crP39 Tryz.func13 rfl crr39
theorem crr43 : isSn crP43 (callN (crE [] crI [(-1,[(1,1)]), (0,[(0,1),(2,-1)]), (0,[(1,1),(3,-1)])]) 100 8 crP43.args crP43.h0) = true := by kernel_rfl
set_option maxRecDepth 100000 in
theorem crs43 {G : Gh} (F : Facts G crI [(-1,[(1,1)]), (0,[(0,1),(2,-1)]), (0,[(1,1),(3,-1)])] []) (hm : ¬ G.mono) (hT : HooksOk Tryz.prog G (hkT crT)) : SNOk Tryz.prog G crP43 := snap_ok progOk F (crH F hm hT crN) 100 crP43 Tryz.func8 rfl crr43
theorem crr40 : isSn crP40 (callN (crE [] crI [(0,[(1,-1)]), (0,[(0,1),(2,-1)]), (0,[(1,1),(3,-1)])]) 100 13 crP40.args crP40.h0) = true := by kernel_rfl
set_option maxRecDepth 100000 in
theorem crs40 {G : Gh} (F : Facts G crI [(0,[(1,-1)]), (0,[(0,1),(2,-1)]), (0,[(1,1),(3,-1)])] []) (hm : ¬ G.mono) (hT : HooksOk Tryz.prog G (hkT crT)) : SNOk Tryz.prog G crP40 := snap_ok progOk F (crH F hm hT crN) 100 crP40 Tryz.func13 rfl crr40
theorem crr45 : isSn crP45 (callN (crE [] crI [(0,[(1,-1)]), (0,[(0,1),(2,-1)]), (0,[(1,1),(3,-1)])]) 100 8 crP45.args crP45.h0) = true := by kernel_rfl
set_option maxRecDepth 100000 in
theorem crs45 {G : Gh} (F : Facts G crI [(0,[(1,-1)]), (0,[(0,1),(2,-1)]), (0,[(1,1),(3,-1)])] []) (hm : ¬ G.mono) (hT : HooksOk Tryz.prog G (hkT crT)) : SNOk Tryz.prog G crP45 := snap_ok progOk F (crH F hm hT crN) 100 crP45 Tryz.func8 rfl crr45
theorem crr44 : isSn crP44 (callN (crE [] crI [(-1,[(1,1)]), (0,[(0,1),(2,-1)]), (0,[(1,1),(3,-1)])]) 100 13 crP44.args crP44.h0) = true := by kernel_rfl
set_option maxRecDepth 100000 in
theorem crs44 {G : Gh} (F : Facts G crI [(-1,[(1,1)]), (0,[(0,1),(2,-1)]), (0,[(1,1),(3,-1)])] []) (hm : ¬ G.mono) (hT : HooksOk Tryz.prog G (hkT crT)) : SNOk Tryz.prog G crP44 := snap_ok progOk F (crH F hm hT crN) 100 crP44 Tryz.func13 rfl crr44
theorem crr49 : isSn crP49 (callN (crE [] crI [(-1,[(1,1)]), (0,[(0,1),(2,-1)]), (0,[(1,1),(3,-1)])]) 100 8 crP49.args crP49.h0) = true := by kernel_rfl
set_option maxRecDepth 100000 in
theorem crs49 {G : Gh} (F : Facts G crI [(-1,[(1,1)]), (0,[(0,1),(2,-1)]), (0,[(1,1),(3,-1)])] []) (hm : ¬ G.mono) (hT : HooksOk Tryz.prog G (hkT crT)) : SNOk Tryz.prog G crP49 := snap_ok progOk F (crH F hm hT crN) 100 crP49 Tryz.func8 rfl crr49
theorem crr46 : isSn crP46 (callN (crE [] crI [(0,[(1,-1)]), (0,[(0,1),(2,-1)]), (0,[(1,1),(3,-1)])]) 100 13 crP46.args crP46.h0) = true := by kernel_rfl
set_option maxRecDepth 100000 in
theorem crs46 {G : Gh} (F : Facts G crI [(0,[(1,-1)]), (0,[(0,1),(2,-1)]), (0,[(1,1),(3,-1)])] []) (hm : ¬ G.mono) (hT : HooksOk Tryz.prog G (hkT crT)) : SNOk Tryz.prog G crP46 := snap_ok progOk F (crH F hm hT crN) 100 crP46 Tryz.func13 rfl crr46
theorem crr50 : isSn crP50 (callN (crE [] crI [(0,[(1,-1)]), (0,[(0,1),(2,-1)]), (0,[(1,1),(3,-1)])]) 100 8 crP50.args crP50.h0) = true := by kernel_rfl
set_option maxRecDepth 100000 in
theorem crs50 {G : Gh} (F : Facts G crI [(0,[(1,-1)]), (0,[(0,1),(2,-1)]), (0,[(1,1),(3,-1)])] []) (hm : ¬ G.mono) (hT : HooksOk Tryz.prog G (hkT crT)) : SNOk Tryz.prog G crP50 := snap_ok progOk F (crH F hm hT crN) 100 crP50 Tryz.func8 rfl crr50
theorem crr48 : isSn crP48 (callN (crE [] crI [(-1,[(1,1)]), (0,[(0,1),(2,-1)]), (0,[(1,1),(3,-1)])]) 100 13 crP48.args crP48.h0) = true := by kernel_rfl
set_option maxRecDepth 100000 in
theorem crs48 {G : Gh} (F : Facts G crI [(-1,[(1,1)]), (0,[(0,1),(2,-1)]), (0,[(1,1),(3,-1)])] []) (hm : ¬ G.mono) (hT : HooksOk Tryz.prog G (hkT crT)) : SNOk Tryz.prog G crP48 := snap_ok progOk F (crH F hm hT crN) 100 crP48 Tryz.func13 rfl crr48
theorem crr52 : isSn crP52 (callN (crE [] crI [(-1,[(1,1)]), (0,[(0,1),(2,-1)]), (0,[(1,1),(3,-1)])]) 100 8 crP52.args crP52.h0) = true := by kernel_rfl
set_option maxRecDepth 100000 in
theorem crs52 {G : Gh} (F : Facts G crI [(-1,[(1,1)]), (0,[(0,1),(2,-1)]), (0,[(1,1),(3,-1)])] []) (hm : ¬ G.mono) (hT : HooksOk Tryz.prog G (hkT crT)) : SNOk Tryz.prog G crP52 := snap_ok progOk F (crH F hm hT crN) 100 crP52 Tryz.func8 rfl crr52
theorem crr47 : isSn crP47 (callN (crE [] crI [(0,[(1,-1)]), (0,[(0,1),(2,-1)]), (0,[(1,1),(3,-1)])]) 100 13 crP47.args crP47.h0) = true := by kernel_rfl
set_option maxRecDepth 100000 in
theorem crs47 {G : Gh} (F : Facts G crI [(0,[(1,-1)]), (0,[(0,1),(2,-1)]), (0,[(1,1),(3,-1)])] []) (hm : ¬ G.mono) (hT : HooksOk Tryz.prog G (hkT crT)) : SNOk Tryz.prog G crP47 := snap_ok progOk F (crH F hm hT crN) 100 crP47 Tryz.func13 rfl crr47
theorem crr51 : isSn crP51 (callN (crE [] crI [(0,[(1,-1)]), (0,[(0,1),(2,-1)]), (0,[(1,1),(3,-1)])]) 100 8 crP51.args crP51.h0) = true := by kernel_rfl
set_option maxRecDepth 100000 in
theorem crs51 {G : Gh} (F : Facts G crI [(0,[(1,-1)]), (0,[(0,1),(2,-1)]), (0,[(1,1),(3,-1)])] []) (hm : ¬ G.mono) (hT : HooksOk Tryz.prog G (hkT crT)) : SNOk Tryz.prog G crP51 := snap_ok progOk F (crH F hm hT crN) 100 crP51 Tryz.func8 rfl crr51
theorem crr54 : isSn crP54 (callN (crE [] crI [(-1,[(1,1)]), (0,[(0,1),(2,-1)]), (0,[(1,1),(3,-1)])]) 100 13 crP54.args crP54.h0) = true := by kernel_rfl
set_option maxRecDepth 100000 in
theorem crs54 {G : Gh} (F : Facts G crI [(-1,[(1,1)]), (0,[(0,1),(2,-1)]), (0,[(1,1),(3,-1)])] []) (hm : ¬ G.mono) (hT : HooksOk Tryz.prog G (hkT crT)) : SNOk Tryz.prog G crP54 := snap_ok progOk F (crH F hm hT crN) 100 crP54 Tryz.func13 rfl crr54
theorem crr58 : isSn crP58 (callN (crE [] crI [(-1,[(1,1)]), (0,[(0,1),(2,-1)]), (0,[(1,1),(3,-1)])]) 100 8 crP58.args crP58.h0) = true := by kernel_rfl
set_option maxRecDepth 100000 in
theorem crs58 {G : Gh} (F : Facts G crI [(-1,[(1,1)]), (0,[(0,1),(2,-1)]), (0,[(1,1),(3,-1)])] []) (hm : ¬ G.mono) (hT : HooksOk Tryz.prog G (hkT crT)) : SNOk Tryz.prog G crP58 := snap_ok progOk F (crH F hm hT crN) 100 crP58 Tryz.func8 rfl crr58
theorem crr53 : isSn crP53 (callN (crE [] crI [(0,[(1,-1)]), (0,[(0,1),(2,-1)]), (0,[(1,1),(3,-1)])]) 100 13 crP53.args crP53.h0) = true := by kernel_rfl
set_option maxRecDepth 100000 in
theorem crs53 {G : Gh} (F : Facts G crI [(0,[(1,-1)]), (0,[(0,1),(2,-1)]), (0,[(1,1),(3,-1)])] []) (hm : ¬ G.mono) (hT : HooksOk Tryz.prog G (hkT crT)) : SNOk Tryz.prog G crP53 := snap_ok progOk F (crH F hm hT crN) 100 crP53 Tryz.func13 rfl crr53
theorem crr57 : isSn crP57 (callN (crE [] crI [(0,[(1,-1)]), (0,[(0,1),(2,-1)]), (0,[(1,1),(3,-1)])]) 100 8 crP57.args crP57.h0) = true := by kernel_rfl
set_option maxRecDepth 100000 in
theorem crs57 {G : Gh} (F : Facts G crI [(0,[(1,-1)]), (0,[(0,1),(2,-1)]), (0,[(1,1),(3,-1)])] []) (hm : ¬ G.mono) (hT : HooksOk Tryz.prog G (hkT crT)) : SNOk Tryz.prog G crP57 := snap_ok progOk F (crH F hm hT crN) 100 crP57 Tryz.func8 rfl crr57
theorem crr55 : isSn crP55 (callN (crE [] crI [(-1,[(1,1)]), (0,[(0,1),(2,-1)]), (0,[(1,1),(3,-1)])]) 100 13 crP55.args crP55.h0) = true := by kernel_rfl
set_option maxRecDepth 100000 in
theorem crs55 {G : Gh} (F : Facts G crI [(-1,[(1,1)]), (0,[(0,1),(2,-1)]), (0,[(1,1),(3,-1)])] []) (hm : ¬ G.mono) (hT : HooksOk Tryz.prog G (hkT crT)) : SNOk Tryz.prog G crP55 := snap_ok progOk F (crH F hm hT crN) 100 crP55 Tryz.func13 rfl crr55
theorem crr59 : isSn crP59 (callN (crE [] crI [(-1,[(1,1)]), (0,[(0,1),(2,-1)]), (0,[(1,1),(3,-1)])]) 100 8 crP59.args crP59.h0) = true := by kernel_rfl
set_option maxRecDepth 100000 in
theorem crs59 {G : Gh} (F : Facts G crI [(-1,[(1,1)]), (0,[(0,1),(2,-1)]), (0,[(1,1),(3,-1)])] []) (hm : ¬ G.mono) (hT : HooksOk Tryz.prog G (hkT crT)) : SNOk Tryz.prog G crP59 := snap_ok progOk F (crH F hm hT crN) 100 crP59 Tryz.func8 rfl crr59
theorem crr56 : isSn crP56 (callN (crE [] crI [(0,[(1,-1)]), (0,[(0,1),(2,-1)]), (0,[(1,1),(3,-1)])]) 100 13 crP56.args crP56.h0) = true := by kernel_rfl
set_option maxRecDepth 100000 in
theorem crs56 {G : Gh} (F : Facts G crI [(0,[(1,-1)]), (0,[(0,1),(2,-1)]), (0,[(1,1),(3,-1)])] []) (hm : ¬ G.mono) (hT : HooksOk Tryz.prog G (hkT crT)) : SNOk Tryz.prog G crP56 := snap_ok progOk F (crH F hm hT crN) 100 crP56 Tryz.func13 rfl crr56
theorem crr60 : isSn crP60 (callN (crE [] crI [(0,[(1,-1)]), (0,[(0,1),(2,-1)]), (0,[(1,1),(3,-1)])]) 100 8 crP60.args crP60.h0) = true := by kernel_rfl
set_option maxRecDepth 100000 in
theorem crs60 {G : Gh} (F : Facts G crI [(0,[(1,-1)]), (0,[(0,1),(2,-1)]), (0,[(1,1),(3,-1)])] []) (hm : ¬ G.mono) (hT : HooksOk Tryz.prog G (hkT crT)) : SNOk Tryz.prog G crP60 := snap_ok progOk F (crH F hm hT crN) 100 crP60 Tryz.func8 rfl crr60
theorem crr62 : isSn crP62 (callN (crE [] crI [(-1,[(1,1)]), (0,[(0,1),(2,-1)]), (0,[(1,1),(3,-1)])]) 100 13 crP62.args crP62.h0) = true := by kernel_rfl
set_option maxRecDepth 100000 in
theorem crs62 {G : Gh} (F : Facts G crI [(-1,[(1,1)]), (0,[(0,1),(2,-1)]), (0,[(1,1),(3,-1)])] []) (hm : ¬ G.mono) (hT : HooksOk Tryz.prog G (hkT crT)) : SNOk Tryz.prog G crP62 := snap_ok progOk F (crH F hm hT crN) 100 crP62 Tryz.func13 rfl crr62
theorem crr66 : isSn crP66 (callN (crE [] crI [(-1,[(1,1)]), (0,[(0,1),(2,-1)]), (0,[(1,1),(3,-1)])]) 100 8 crP66.args crP66.h0) = true := by kernel_rfl
set_option maxRecDepth 100000 in
theorem crs66 {G : Gh} (F : Facts G crI [(-1,[(1,1)]), (0,[(0,1),(2,-1)]), (0,[(1,1),(3,-1)])] []) (hm : ¬ G.mono) (hT : HooksOk Tryz.prog G (hkT crT)) : SNOk Tryz.prog G crP66 := snap_ok progOk F (crH F hm hT crN) 100 crP66 Tryz.func8 rfl crr66
theorem crr61 : isSn crP61 (callN (crE [] crI [(0,[(1,-1)]), (0,[(0,1),(2,-1)]), (0,[(1,1),(3,-1)])]) 100 13 crP61.args crP61.h0) = true := by kernel_rfl
set_option maxRecDepth 100000 in
theorem crs61 {G : Gh} (F : Facts G crI [(0,[(1,-1)]), (0,[(0,1),(2,-1)]), (0,[(1,1),(3,-1)])] []) (hm : ¬ G.mono) (hT : HooksOk Tryz.prog G (hkT crT)) : SNOk Tryz.prog G crP61 := snap_ok progOk F (crH F hm hT crN) 100 crP61 Tryz.func13 rfl crr61
theorem crr65 : isSn crP65 (callN (crE [] crI [(0,[(1,-1)]), (0,[(0,1),(2,-1)]), (0,[(1,1),(3,-1)])]) 100 8 crP65.args crP65.h0) = true := by kernel_rfl
set_option maxRecDepth 100000 in
theorem crs65 {G : Gh} (F : Facts G crI [(0,[(1,-1)]), (0,[(0,1),(2,-1)]), (0,[(1,1),(3,-1)])] []) (hm : ¬ G.mono) (hT : HooksOk Tryz.prog G (hkT crT)) : SNOk Tryz.prog G crP65 := snap_ok progOk F (crH F hm hT crN) 100 crP65 Tryz.func8 rfl crr65
theorem crr63 : isSn crP63 (callN (crE [] crI [(-1,[(1,1)]), (0,[(0,1),(2,-1)]), (0,[(1,1),(3,-1)])]) 100 13 crP63.args crP63.h0) = true := by kernel_rfl
set_option maxRecDepth 100000 in
theorem crs63 {G : Gh} (F : Facts G crI [(-1,[(1,1)]), (0,[(0,1),(2,-1)]), (0,[(1,1),(3,-1)])] []) (hm : ¬ G.mono) (hT : HooksOk Tryz.prog G (hkT crT)) : SNOk Tryz.prog G crP63 := snap_ok progOk F (crH F hm hT crN) 100 crP63 Tryz.func13 rfl crr63
end Go.Proofs.YtaajobcfbgpfoaaGreat
