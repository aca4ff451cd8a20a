/- complinelaw24.CheckReasons: runs, part 5. -/
import Derived.Test.YtaajobcfbgpfoaaGreatCrQ
namespace Go.Proofs.YtaajobcfbgpfoaaGreat
open Go Go.RowKit Gv Gv.Lt
theorem crr124 : isSn crP124 (callN (crE [] crI [(-1,[(3,-1),(1,1)]), (-1,[(3,1)]), (0,[(2,1),(0,-1)]), (-1,[(1,1)]), (0,[(0,1),(2,-1)]), (0,[(1,1),(3,-1)])]) 100 8 crP124.args crP124.h0) = true := by kernel_rfl
set_option maxRecDepth 100000 in
theorem crs124 {G : Gh} (F : Facts G crI [(-1,[(3,-1),(1,1)]), (-1,[(3,1)]), (0,[(2,1),(0,-1)]), (-1,[(1,1)]), (0,[(0,1),(2,-1)]), (0,[(1,1),(3,-1)])] []) (hm : ¬ G.mono) (hT : HooksOk Tryz.prog G (hkT crT)) : SNOk Tryz.prog G crP124 := snap_ok progOk F (crH F hm hT crN) 100 crP124 Tryz.func8 rfl crr124
theorem crr125 : isSn crP125 (callN (crE [] crI [(0,[(3,1),(1,-1)]), (-1,[(3,1)]), (0,[(2,1),(0,-1)]), (-1,[(1,1)]), (0,[(0,1),(2,-1)]), (0,[(1,1),(3,-1)])]) 100 8 crP125.args crP125.h0) = true := by kernel_rfl
set_option maxRecDepth 100000 in
theorem crs125 {G : Gh} (F : Facts G crI [(0,[(3,1),(1,-1)]), (-1,[(3,1)]), (0,[(2,1),(0,-1)]), (-1,[(1,1)]), (0,[(0,1),(2,-1)]), (0,[(1,1),(3,-1)])] []) (hm : ¬ G.mono) (hT : HooksOk Tryz.prog G (hkT crT)) : SNOk Tryz.prog G crP125 := snap_ok progOk F (crH F hm hT crN) 100 crP125 Tryz.func8 rfl crr125
theorem crr99 : isSn crP99 (callN (crE [] crI [(0,[(3,-1)]), (0,[(2,1),(0,-1)]), (-1,[(1,1)]), (0,[(0,1),(2,-1)]), (0,[(1,1),(3,-1)])]) 100 13 crP99.args crP99.h0) = true := by kernel_rfl
set_option maxRecDepth 100000 in
theorem crs99 {G : Gh} (F : Facts G crI [(0,[(3,-1)]), (0,[(2,1),(0,-1)]), (-1,[(1,1)]), (0,[(0,1),(2,-1)]), (0,[(1,1),(3,-1)])] []) (hm : ¬ G.mono) (hT : HooksOk Tryz.prog G (hkT crT)) : SNOk Tryz.prog G crP99 := snap_ok progOk F (crH F hm hT crN) 100 crP99 Tryz.func13 rfl crr99
theorem crr112 : isSn crP112 (callN (crE [] crI [(0,[(3,-1)]), (0,[(2,1),(0,-1)]), (-1,[(1,1)]), (0,[(0,1),(2,-1)]), (0,[(1,1),(3,-1)])]) 100 8 crP112.args crP112.h0) = true := by kernel_rfl
set_option maxRecDepth 100000 in
theorem crs112 {G : Gh} (F : Facts G crI [(0,[(3,-1)]), (0,[(2,1),(0,-1)]), (-1,[(1,1)]), (0,[(0,1),(2,-1)]), (0,[(1,1),(3,-1)])] []) (hm : ¬ G.mono) (hT : HooksOk Tryz.prog G (hkT crT)) : SNOk Tryz.prog G crP112 := snap_ok progOk F (crH F hm hT crN) 100 crP112 Tryz.func8 rfl crr112
theorem crr98 : isSn crP98 (callN (crE [] crI [(-1,[(3,1)]), (-1,[(2,-1),(0,1)]), (-1,[(1,1)]), (0,[(0,1),(2,-1)]), (0,[(1,1),(3,-1)])]) 100 13 crP98.args crP98.h0) = true := by kernel_rfl
set_option maxRecDepth 100000 in
theorem crs98 {G : Gh} (F : Facts G crI [(-1,[(3,1)]), (-1,[(2,-1),(0,1)]), (-1,[(1,1)]), (0,[(0,1),(2,-1)]), (0,[(1,1),(3,-1)])] []) (hm : ¬ G.mono) (hT : HooksOk Tryz.prog G (hkT crT)) : SNOk Tryz.prog G crP98 := snap_ok progOk F (crH F hm hT crN) 100 crP98 Tryz.func13 rfl crr98
theorem crr122 : isSn crP122 (callN (crE [] crI [(-1,[(3,-1),(1,1)]), (-1,[(3,1)]), (-1,[(2,-1),(0,1)]), (-1,[(1,1)]), (0,[(0,1),(2,-1)]), (0,[(1,1),(3,-1)])]) 100 8 crP122.args crP122.h0) = true := by kernel_rfl
set_option maxRecDepth 100000 in
theorem crs122 {G : Gh} (F : Facts G crI [(-1,[(3,-1),(1,1)]), (-1,[(3,1)]), (-1,[(2,-1),(0,1)]), (-1,[(1,1)]), (0,[(0,1),(2,-1)]), (0,[(1,1),(3,-1)])] []) (hm : ¬ G.mono) (hT : HooksOk Tryz.prog G (hkT crT)) : SNOk Tryz.prog G crP122 := snap_ok progOk F (crH F hm hT crN) 100 crP122 Tryz.func8 rfl crr122
end Go.Proofs.YtaajobcfbgpfoaaGreat
