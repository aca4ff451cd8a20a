/- complinelaw24.CheckReasons: runs, part 7. -/
import Derived.Test.YtaajobcfbgpfoaaGreatCrQ
namespace Go.Proofs.YtaajobcfbgpfoaaGreat
open Go Go.RowKit Gv Gv.Lt
theorem crr114 : isSn crP114 (callN (crE [] crI [(0,[(3,-1)]), (-1,[(2,-1),(0,1)]), (0,[(1,-1)]), (0,[(0,1),(2,-1)]), (0,[(1,1),(3,-1)])]) 100 8 crP114.args crP114.h0) = true := by kernel_rfl
set_option maxRecDepth 100000 in
theorem crs114 {G : Gh} (F : Facts G crI [(0,[(3,-1)]), (-1,[(2,-1),(0,1)]), (0,[(1,-1)]), (0,[(0,1),(2,-1)]), (0,[(1,1),(3,-1)])] []) (hm : ¬ G.mono) (hT : HooksOk Tryz.prog G (hkT crT)) : SNOk Tryz.prog G crP114 := snap_ok progOk F (crH F hm hT crN) 100 crP114 Tryz.func8 rfl crr114
theorem crr106 : isSn crP106 (callN (crE [] crI [(-1,[(3,1)]), (0,[(2,1),(0,-1)]), (-1,[(1,1)]), (0,[(0,1),(2,-1)]), (0,[(1,1),(3,-1)])]) 100 13 crP106.args crP106.h0) = true := by kernel_rfl
set_option maxRecDepth 100000 in
theorem crs106 {G : Gh} (F : Facts G crI [(-1,[(3,1)]), (0,[(2,1),(0,-1)]), (-1,[(1,1)]), (0,[(0,1),(2,-1)]), (0,[(1,1),(3,-1)])] []) (hm : ¬ G.mono) (hT : HooksOk Tryz.prog G (hkT crT)) : SNOk Tryz.prog G crP106 := snap_ok progOk F (crH F hm hT crN) 100 crP106 Tryz.func13 rfl crr106
theorem crr117 : isSn crP117 (callN (crE [] crI [(-1,[(3,1)]), (0,[(2,1),(0,-1)]), (-1,[(1,1)]), (0,[(0,1),(2,-1)]), (0,[(1,1),(3,-1)])]) 100 8 crP117.args crP117.h0) = true := by kernel_rfl
set_option maxRecDepth 100000 in
theorem crs117 {G : Gh} (F : Facts G crI [(-1,[(3,1)]), (0,[(2,1),(0,-1)]), (-1,[(1,1)]), (0,[(0,1),(2,-1)]), (0,[(1,1),(3,-1)])] []) (hm : ¬ G.mono) (hT : HooksOk Tryz.prog G (hkT crT)) : SNOk Tryz.prog G crP117 := snap_ok progOk F (crH F hm hT crN) 100 crP117 Tryz.func8 rfl crr117
theorem crr107 : isSn crP107 (callN (crE [] crI [(0,[(3,-1)]), (0,[(2,1),(0,-1)]), (-1,[(1,1)]), (0,[(0,1),(2,-1)]), (0,[(1,1),(3,-1)])]) 100 13 crP107.args crP107.h0) = true := by kernel_rfl
set_option maxRecDepth 100000 in
theorem crs107 {G : Gh} (F : Facts G crI [(0,[(3,-1)]), (0,[(2,1),(0,-1)]), (-1,[(1,1)]), (0,[(0,1),(2,-1)]), (0,[(1,1),(3,-1)])] []) (hm : ¬ G.mono) (hT : HooksOk Tryz.prog G (hkT crT)) : SNOk Tryz.prog G crP107 := snap_ok progOk F (crH F hm hT crN) 100 crP107 Tryz.func13 rfl crr107
theorem crr116 : isSn crP116 (callN (crE [] crI [(0,[(3,-1)]), (0,[(2,1),(0,-1)]), (-1,[(1,1)]), (0,[(0,1),(2,-1)]), (0,[(1,1),(3,-1)])]) 100 8 crP116.args crP116.h0) = true := by kernel_rfl
set_option maxRecDepth 100000 in
theorem crs116 {G : Gh} (F : Facts G crI [(0,[(3,-1)]), (0,[(2,1),(0,-1)]), (-1,[(1,1)]), (0,[(0,1),(2,-1)]), (0,[(1,1),(3,-1)])] []) (hm : ¬ G.mono) (hT : HooksOk Tryz.prog G (hkT crT)) : SNOk Tryz.prog G crP116 := snap_ok progOk F (crH F hm hT crN) 100 crP116 Tryz.func8 rfl crr116
theorem crr108 : isSn crP108 (callN (crE [] crI [(-1,[(3,1)]), (-1,[(2,-1),(0,1)]), (-1,[(1,1)]), (0,[(0,1),(2,-1)]), (0,[(1,1),(3,-1)])]) 100 13 crP108.args crP108.h0) = true := by kernel_rfl
set_option maxRecDepth 100000 in
theorem crs108 {G : Gh} (F : Facts G crI [(-1,[(3,1)]), (-1,[(2,-1),(0,1)]), (-1,[(1,1)]), (0,[(0,1),(2,-1)]), (0,[(1,1),(3,-1)])] []) (hm : ¬ G.mono) (hT : HooksOk Tryz.prog G (hkT crT)) : SNOk Tryz.prog G crP108 := snap_ok progOk F (crH F hm hT crN) 100 crP108 Tryz.func13 rfl crr108
theorem crr118 : isSn crP118 (callN (crE [] crI [(-1,[(3,1)]), (-1,[(2,-1),(0,1)]), (-1,[(1,1)]), (0,[(0,1),(2,-1)]), (0,[(1,1),(3,-1)])]) 100 8 crP118.args crP118.h0) = true := by kernel_rfl
set_option maxRecDepth 100000 in
theorem crs118 {G : Gh} (F : Facts G crI [(-1,[(3,1)]), (-1,[(2,-1),(0,1)]), (-1,[(1,1)]), (0,[(0,1),(2,-1)]), (0,[(1,1),(3,-1)])] []) (hm : ¬ G.mono) (hT : HooksOk Tryz.prog G (hkT crT)) : SNOk Tryz.prog G crP118 := snap_ok progOk F (crH F hm hT crN) 100 crP118 Tryz.func8 rfl crr118
theorem crr109 : isSn crP109 (callN (crE [] crI [(0,[(3,-1)]), (-1,[(2,-1),(0,1)]), (-1,[(1,1)]), (0,[(0,1),(2,-1)]), (0,[(1,1),(3,-1)])]) 100 13 crP109.args crP109.h0) = true := by kernel_rfl
set_option maxRecDepth 100000 in
theorem crs109 {G : Gh} (F : Facts G crI [(0,[(3,-1)]), (-1,[(2,-1),(0,1)]), (-1,[(1,1)]), (0,[(0,1),(2,-1)]), (0,[(1,1),(3,-1)])] []) (hm : ¬ G.mono) (hT : HooksOk Tryz.prog G (hkT crT)) : SNOk Tryz.prog G crP109 := snap_ok progOk F (crH F hm hT crN) 100 crP109 Tryz.func13 rfl crr109
end Go.Proofs.YtaajobcfbgpfoaaGreat
