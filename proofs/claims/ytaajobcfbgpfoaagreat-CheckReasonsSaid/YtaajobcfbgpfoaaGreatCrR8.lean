/- complinelaw24.CheckReasons: runs, part 8. -/
import Derived.Test.YtaajobcfbgpfoaaGreatCrQ
namespace Go.Proofs.YtaajobcfbgpfoaaGreat
open Go Go.RowKit Gv Gv.Lt
theorem crr119 : isSn crP119 (callN (crE [] crI [(0,[(3,-1)]), (-1,[(2,-1),(0,1)]), (-1,[(1,1)]), (0,[(0,1),(2,-1)]), (0,[(1,1),(3,-1)])]) 100 8 crP119.args crP119.h0) = true := by kernel_rfl
set_option maxRecDepth 100000 in
theorem crs119 {G : Gh} (F : Facts G crI [(0,[(3,-1)]), (-1,[(2,-1),(0,1)]), (-1,[(1,1)]), (0,[(0,1),(2,-1)]), (0,[(1,1),(3,-1)])] []) (hm : ¬ G.mono) (hT : HooksOk Tryz.prog G (hkT crT)) : SNOk Tryz.prog G crP119 := snap_ok progOk F (crH F hm hT crN) 100 crP119 Tryz.func8 rfl crr119
theorem crr110 : isSn crP110 (callN (crE [] crI [(0,[(3,-1)]), (0,[(2,1),(0,-1)]), (0,[(1,-1)]), (0,[(0,1),(2,-1)]), (0,[(1,1),(3,-1)])]) 100 13 crP110.args crP110.h0) = true := by kernel_rfl
set_option maxRecDepth 100000 in
theorem crs110 {G : Gh} (F : Facts G crI [(0,[(3,-1)]), (0,[(2,1),(0,-1)]), (0,[(1,-1)]), (0,[(0,1),(2,-1)]), (0,[(1,1),(3,-1)])] []) (hm : ¬ G.mono) (hT : HooksOk Tryz.prog G (hkT crT)) : SNOk Tryz.prog G crP110 := snap_ok progOk F (crH F hm hT crN) 100 crP110 Tryz.func13 rfl crr110
theorem crr121 : isSn crP121 (callN (crE [] crI [(0,[(3,-1)]), (0,[(2,1),(0,-1)]), (0,[(1,-1)]), (0,[(0,1),(2,-1)]), (0,[(1,1),(3,-1)])]) 100 8 crP121.args crP121.h0) = true := by kernel_rfl
set_option maxRecDepth 100000 in
theorem crs121 {G : Gh} (F : Facts G crI [(0,[(3,-1)]), (0,[(2,1),(0,-1)]), (0,[(1,-1)]), (0,[(0,1),(2,-1)]), (0,[(1,1),(3,-1)])] []) (hm : ¬ G.mono) (hT : HooksOk Tryz.prog G (hkT crT)) : SNOk Tryz.prog G crP121 := snap_ok progOk F (crH F hm hT crN) 100 crP121 Tryz.func8 rfl crr121
theorem crr111 : isSn crP111 (callN (crE [] crI [(0,[(3,-1)]), (-1,[(2,-1),(0,1)]), (0,[(1,-1)]), (0,[(0,1),(2,-1)]), (0,[(1,1),(3,-1)])]) 100 13 crP111.args crP111.h0) = true := by kernel_rfl
set_option maxRecDepth 100000 in
theorem crs111 {G : Gh} (F : Facts G crI [(0,[(3,-1)]), (-1,[(2,-1),(0,1)]), (0,[(1,-1)]), (0,[(0,1),(2,-1)]), (0,[(1,1),(3,-1)])] []) (hm : ¬ G.mono) (hT : HooksOk Tryz.prog G (hkT crT)) : SNOk Tryz.prog G crP111 := snap_ok progOk F (crH F hm hT crN) 100 crP111 Tryz.func13 rfl crr111
theorem crr120 : isSn crP120 (callN (crE [] crI [(0,[(3,-1)]), (-1,[(2,-1),(0,1)]), (0,[(1,-1)]), (0,[(0,1),(2,-1)]), (0,[(1,1),(3,-1)])]) 100 8 crP120.args crP120.h0) = true := by kernel_rfl
set_option maxRecDepth 100000 in
theorem crs120 {G : Gh} (F : Facts G crI [(0,[(3,-1)]), (-1,[(2,-1),(0,1)]), (0,[(1,-1)]), (0,[(0,1),(2,-1)]), (0,[(1,1),(3,-1)])] []) (hm : ¬ G.mono) (hT : HooksOk Tryz.prog G (hkT crT)) : SNOk Tryz.prog G crP120 := snap_ok progOk F (crH F hm hT crN) 100 crP120 Tryz.func8 rfl crr120
theorem crr93 : isSn crP93 (callN (crE [] crI [(-1,[(1,1)]), (0,[(0,1),(2,-1)]), (0,[(1,1),(3,-1)])]) 100 13 crP93.args crP93.h0) = true := by kernel_rfl
set_option maxRecDepth 100000 in
theorem crs93 {G : Gh} (F : Facts G crI [(-1,[(1,1)]), (0,[(0,1),(2,-1)]), (0,[(1,1),(3,-1)])] []) (hm : ¬ G.mono) (hT : HooksOk Tryz.prog G (hkT crT)) : SNOk Tryz.prog G crP93 := snap_ok progOk F (crH F hm hT crN) 100 crP93 Tryz.func13 rfl crr93
theorem crr101 : isSn crP101 (callN (crE [] crI [(-1,[(1,1)]), (0,[(0,1),(2,-1)]), (0,[(1,1),(3,-1)])]) 100 8 crP101.args crP101.h0) = true := by kernel_rfl
set_option maxRecDepth 100000 in
theorem crs101 {G : Gh} (F : Facts G crI [(-1,[(1,1)]), (0,[(0,1),(2,-1)]), (0,[(1,1),(3,-1)])] []) (hm : ¬ G.mono) (hT : HooksOk Tryz.prog G (hkT crT)) : SNOk Tryz.prog G crP101 := snap_ok progOk F (crH F hm hT crN) 100 crP101 Tryz.func8 rfl crr101
theorem crr95 : isSn crP95 (callN (crE [] crI [(0,[(1,-1)]), (0,[(0,1),(2,-1)]), (0,[(1,1),(3,-1)])]) 100 13 crP95.args crP95.h0) = true := by kernel_rfl
set_option maxRecDepth 100000 in
theorem crs95 {G : Gh} (F : Facts G crI [(0,[(1,-1)]), (0,[(0,1),(2,-1)]), (0,[(1,1),(3,-1)])] []) (hm : ¬ G.mono) (hT : HooksOk Tryz.prog G (hkT crT)) : SNOk Tryz.prog G crP95 := snap_ok progOk F (crH F hm hT crN) 100 crP95 Tryz.func13 rfl crr95
theorem crr105 : isSn crP105 (callN (crE [] crI [(0,[(1,-1)]), (0,[(0,1),(2,-1)]), (0,[(1,1),(3,-1)])]) 100 8 crP105.args crP105.h0) = true := by kernel_rfl
set_option maxRecDepth 100000 in
theorem crs105 {G : Gh} (F : Facts G crI [(0,[(1,-1)]), (0,[(0,1),(2,-1)]), (0,[(1,1),(3,-1)])] []) (hm : ¬ G.mono) (hT : HooksOk Tryz.prog G (hkT crT)) : SNOk Tryz.prog G crP105 := snap_ok progOk F (crH F hm hT crN) 100 crP105 Tryz.func8 rfl crr105
theorem crr92 : isSn crP92 (callN (crE [] crI [(-1,[(1,1)]), (0,[(0,1),(2,-1)]), (0,[(1,1),(3,-1)])]) 100 13 crP92.args crP92.h0) = true := by kernel_rfl
set_option maxRecDepth 100000 in
theorem crs92 {G : Gh} (F : Facts G crI [(-1,[(1,1)]), (0,[(0,1),(2,-1)]), (0,[(1,1),(3,-1)])] []) (hm : ¬ G.mono) (hT : HooksOk Tryz.prog G (hkT crT)) : SNOk Tryz.prog G crP92 := snap_ok progOk F (crH F hm hT crN) 100 crP92 Tryz.func13 rfl crr92
theorem crr96 : isSn crP96 (callN (crE [] crI [(-1,[(1,1)]), (0,[(0,1),(2,-1)]), (0,[(1,1),(3,-1)])]) 100 8 crP96.args crP96.h0) = true := by kernel_rfl
set_option maxRecDepth 100000 in
theorem crs96 {G : Gh} (F : Facts G crI [(-1,[(1,1)]), (0,[(0,1),(2,-1)]), (0,[(1,1),(3,-1)])] []) (hm : ¬ G.mono) (hT : HooksOk Tryz.prog G (hkT crT)) : SNOk Tryz.prog G crP96 := snap_ok progOk F (crH F hm hT crN) 100 crP96 Tryz.func8 rfl crr96
theorem crr94 : isSn crP94 (callN (crE [] crI [(0,[(1,-1)]), (0,[(0,1),(2,-1)]), (0,[(1,1),(3,-1)])]) 100 13 crP94.args crP94.h0) = true := by kernel_rfl
set_option maxRecDepth 100000 in
theorem crs94 {G : Gh} (F : Facts G crI [(0,[(1,-1)]), (0,[(0,1),(2,-1)]), (0,[(1,1),(3,-1)])] []) (hm : ¬ G.mono) (hT : HooksOk Tryz.prog G (hkT crT)) : SNOk Tryz.prog G crP94 := snap_ok progOk F (crH F hm hT crN) 100 crP94 Tryz.func13 rfl crr94
theorem crr102 : isSn crP102 (callN (crE [] crI [(0,[(1,-1)]), (0,[(0,1),(2,-1)]), (0,[(1,1),(3,-1)])]) 100 8 crP102.args crP102.h0) = true := by kernel_rfl
set_option maxRecDepth 100000 in
theorem crs102 {G : Gh} (F : Facts G crI [(0,[(1,-1)]), (0,[(0,1),(2,-1)]), (0,[(1,1),(3,-1)])] []) (hm : ¬ G.mono) (hT : HooksOk Tryz.prog G (hkT crT)) : SNOk Tryz.prog G crP102 := snap_ok progOk F (crH F hm hT crN) 100 crP102 Tryz.func8 rfl crr102
theorem crr126 : isSn crP126 (callN (crE [] crI [(-1,[(1,1)]), (0,[(0,1),(2,-1)]), (0,[(1,1),(3,-1)])]) 100 13 crP126.args crP126.h0) = true := by kernel_rfl
set_option maxRecDepth 100000 in
theorem crs126 {G : Gh} (F : Facts G crI [(-1,[(1,1)]), (0,[(0,1),(2,-1)]), (0,[(1,1),(3,-1)])] []) (hm : ¬ G.mono) (hT : HooksOk Tryz.prog G (hkT crT)) : SNOk Tryz.prog G crP126 := snap_ok progOk F (crH F hm hT crN) 100 crP126 Tryz.func13 rfl crr126
theorem crr130 : isSn crP130 (callN (crE [] crI [(-1,[(1,1)]), (0,[(0,1),(2,-1)]), (0,[(1,1),(3,-1)])]) 100 8 crP130.args crP130.h0) = true := by kernel_rfl
set_option maxRecDepth 100000 in
theorem crs130 {G : Gh} (F : Facts G crI [(-1,[(1,1)]), (0,[(0,1),(2,-1)]), (0,[(1,1),(3,-1)])] []) (hm : ¬ G.mono) (hT : HooksOk Tryz.prog G (hkT crT)) : SNOk Tryz.prog G crP130 := snap_ok progOk F (crH F hm hT crN) 100 crP130 Tryz.func8 rfl crr130
theorem crr127 : isSn crP127 (callN (crE [] crI [(0,[(1,-1)]), (0,[(0,1),(2,-1)]), (0,[(1,1),(3,-1)])]) 100 13 crP127.args crP127.h0) = true := by kernel_rfl
set_option maxRecDepth 100000 in
theorem crs127 {G : Gh} (F : Facts G crI [(0,[(1,-1)]), (0,[(0,1),(2,-1)]), (0,[(1,1),(3,-1)])] []) (hm : ¬ G.mono) (hT : HooksOk Tryz.prog G (hkT crT)) : SNOk Tryz.prog G crP127 := snap_ok progOk F (crH F hm hT crN) 100 crP127 Tryz.func13 rfl crr127
theorem crr131 : isSn crP131 (callN (crE [] crI [(0,[(1,-1)]), (0,[(0,1),(2,-1)]), (0,[(1,1),(3,-1)])]) 100 8 crP131.args crP131.h0) = true := by kernel_rfl
set_option maxRecDepth 100000 in
theorem crs131 {G : Gh} (F : Facts G crI [(0,[(1,-1)]), (0,[(0,1),(2,-1)]), (0,[(1,1),(3,-1)])] []) (hm : ¬ G.mono) (hT : HooksOk Tryz.prog G (hkT crT)) : SNOk Tryz.prog G crP131 := snap_ok progOk F (crH F hm hT crN) 100 crP131 Tryz.func8 rfl crr131
theorem crr128 : isSn crP128 (callN (crE [] crI [(-1,[(1,1)]), (0,[(0,1),(2,-1)]), (0,[(1,1),(3,-1)])]) 100 13 crP128.args crP128.h0) = true := by kernel_rfl
set_option maxRecDepth 100000 in
theorem crs128 {G : Gh} (F : Facts G crI [(-1,[(1,1)]), (0,[(0,1),(2,-1)]), (0,[(1,1),(3,-1)])] []) (hm : ¬ G.mono) (hT : HooksOk Tryz.prog G (hkT crT)) : SNOk Tryz.prog G crP128 := snap_ok progOk F (crH F hm hT crN) 100 crP128 Tryz.func13 rfl crr128
theorem crr132 : isSn crP132 (callN (crE [] crI [(-1,[(1,1)]), (0,[(0,1),(2,-1)]), (0,[(1,1),(3,-1)])]) 100 8 crP132.args crP132.h0) = true := by kernel_rfl
set_option maxRecDepth 100000 in
theorem crs132 {G : Gh} (F : Facts G crI [(-1,[(1,1)]), (0,[(0,1),(2,-1)]), (0,[(1,1),(3,-1)])] []) (hm : ¬ G.mono) (hT : HooksOk Tryz.prog G (hkT crT)) : SNOk Tryz.prog G crP132 := snap_ok progOk F (crH F hm hT crN) 100 crP132 Tryz.func8 rfl crr132
theorem crr129 : isSn crP129 (callN (crE [] crI [(0,[(1,-1)]), (0,[(0,1),(2,-1)]), (0,[(1,1),(3,-1)])]) 100 13 crP129.args crP129.h0) = true := by kernel_rfl
set_option maxRecDepth 100000 in
theorem crs129 {G : Gh} (F : Facts G crI [(0,[(1,-1)]), (0,[(0,1),(2,-1)]), (0,[(1,1),(3,-1)])] []) (hm : ¬ G.mono) (hT : HooksOk Tryz.prog G (hkT crT)) : SNOk Tryz.prog G crP129 := snap_ok progOk F (crH F hm hT crN) 100 crP129 Tryz.func13 rfl crr129
theorem crr133 : isSn crP133 (callN (crE [] crI [(0,[(1,-1)]), (0,[(0,1),(2,-1)]), (0,[(1,1),(3,-1)])]) 100 8 crP133.args crP133.h0) = true := by kernel_rfl
set_option maxRecDepth 100000 in
theorem crs133 {G : Gh} (F : Facts G crI [(0,[(1,-1)]), (0,[(0,1),(2,-1)]), (0,[(1,1),(3,-1)])] []) (hm : ¬ G.mono) (hT : HooksOk Tryz.prog G (hkT crT)) : SNOk Tryz.prog G crP133 := snap_ok progOk F (crH F hm hT crN) 100 crP133 Tryz.func8 rfl crr133
theorem crr134 : isSn crP134 (callN (crE [] crI [(-1,[(1,1)]), (0,[(0,1),(2,-1)]), (0,[(1,1),(3,-1)])]) 100 13 crP134.args crP134.h0) = true := by kernel_rfl
set_option maxRecDepth 100000 in
theorem crs134 {G : Gh} (F : Facts G crI [(-1,[(1,1)]), (0,[(0,1),(2,-1)]), (0,[(1,1),(3,-1)])] []) (hm : ¬ G.mono) (hT : HooksOk Tryz.prog G (hkT crT)) : SNOk Tryz.prog G crP134 := snap_ok progOk F (crH F hm hT crN) 100 crP134 Tryz.func13 rfl crr134
end Go.Proofs.YtaajobcfbgpfoaaGreat
