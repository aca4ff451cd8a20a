/- complinelaw24.CheckReasons: runs, part 2. -/
import Derived.Test.YtaajobcfbgpfoaaGreatCrQ
namespace Go.Proofs.YtaajobcfbgpfoaaGreat
open Go Go.RowKit Gv Gv.Lt
theorem crr17 : isSn crP17 (callN (crE [] crI [(-1,[(3,1)]), (0,[(2,1),(0,-1)]), (-1,[(1,1)]), (0,[(0,1),(2,-1)]), (0,[(1,1),(3,-1)])]) 100 13 crP17.args crP17.h0) = true := by kernel_rfl
set_option maxRecDepth 100000 in
theorem crs17 {G : Gh} (F : Facts G crI [(-1,[(3,1)]), (0,[(2,1),(0,-1)]), (-1,[(1,1)]), (0,[(0,1),(2,-1)]), (0,[(1,1),(3,-1)])] []) (hm : ¬ G.mono) (hT : HooksOk Tryz.prog G (hkT crT)) : SNOk Tryz.prog G crP17 := snap_ok progOk F (crH F hm hT crN) 100 crP17 Tryz.func13 rfl crr17
theorem crr29 : isSn crP29 (callN (crE [] crI [(-1,[(3,1)]), (0,[(2,1),(0,-1)]), (-1,[(1,1)]), (0,[(0,1),(2,-1)]), (0,[(1,1),(3,-1)])]) 100 8 crP29.args crP29.h0) = true := by kernel_rfl
set_option maxRecDepth 100000 in
theorem crs29 {G : Gh} (F : Facts G crI [(-1,[(3,1)]), (0,[(2,1),(0,-1)]), (-1,[(1,1)]), (0,[(0,1),(2,-1)]), (0,[(1,1),(3,-1)])] []) (hm : ¬ G.mono) (hT : HooksOk Tryz.prog G (hkT crT)) : SNOk Tryz.prog G crP29 := snap_ok progOk F (crH F hm hT crN) 100 crP29 Tryz.func8 rfl crr29
theorem crr18 : isSn crP18 (callN (crE [] crI [(0,[(3,-1)]), (0,[(2,1),(0,-1)]), (-1,[(1,1)]), (0,[(0,1),(2,-1)]), (0,[(1,1),(3,-1)])]) 100 13 crP18.args crP18.h0) = true := by kernel_rfl
set_option maxRecDepth 100000 in
theorem crs18 {G : Gh} (F : Facts G crI [(0,[(3,-1)]), (0,[(2,1),(0,-1)]), (-1,[(1,1)]), (0,[(0,1),(2,-1)]), (0,[(1,1),(3,-1)])] []) (hm : ¬ G.mono) (hT : HooksOk Tryz.prog G (hkT crT)) : SNOk Tryz.prog G crP18 := snap_ok progOk F (crH F hm hT crN) 100 crP18 Tryz.func13 rfl crr18
theorem crr31 : isSn crP31 (callN (crE [] crI [(0,[(3,-1)]), (0,[(2,1),(0,-1)]), (-1,[(1,1)]), (0,[(0,1),(2,-1)]), (0,[(1,1),(3,-1)])]) 100 8 crP31.args crP31.h0) = true := by kernel_rfl
set_option maxRecDepth 100000 in
theorem crs31 {G : Gh} (F : Facts G crI [(0,[(3,-1)]), (0,[(2,1),(0,-1)]), (-1,[(1,1)]), (0,[(0,1),(2,-1)]), (0,[(1,1),(3,-1)])] []) (hm : ¬ G.mono) (hT : HooksOk Tryz.prog G (hkT crT)) : SNOk Tryz.prog G crP31 := snap_ok progOk F (crH F hm hT crN) 100 crP31 Tryz.func8 rfl crr31
theorem crr19 : isSn crP19 (callN (crE [] crI [(-1,[(2,-1),(0,1)]), (-1,[(1,1)]), (0,[(0,1),(2,-1)]), (0,[(1,1),(3,-1)])]) 100 13 crP19.args crP19.h0) = true := by kernel_rfl
set_option maxRecDepth 100000 in
theorem crs19 {G : Gh} (F : Facts G crI [(-1,[(2,-1),(0,1)]), (-1,[(1,1)]), (0,[(0,1),(2,-1)]), (0,[(1,1),(3,-1)])] []) (hm : ¬ G.mono) (hT : HooksOk Tryz.prog G (hkT crT)) : SNOk Tryz.prog G crP19 := snap_ok progOk F (crH F hm hT crN) 100 crP19 Tryz.func13 rfl crr19
theorem crr27 : isSn crP27 (callN (crE [] crI [(-1,[(2,-1),(0,1)]), (-1,[(1,1)]), (0,[(0,1),(2,-1)]), (0,[(1,1),(3,-1)])]) 100 8 crP27.args crP27.h0) = true := by kernel_rfl
set_option maxRecDepth 100000 in
theorem crs27 {G : Gh} (F : Facts G crI [(-1,[(2,-1),(0,1)]), (-1,[(1,1)]), (0,[(0,1),(2,-1)]), (0,[(1,1),(3,-1)])] []) (hm : ¬ G.mono) (hT : HooksOk Tryz.prog G (hkT crT)) : SNOk Tryz.prog G crP27 := snap_ok progOk F (crH F hm hT crN) 100 crP27 Tryz.func8 rfl crr27
theorem crr24 : isSn crP24 (callN (crE [] crI [(0,[(3,-1)]), (0,[(2,1),(0,-1)]), (0,[(1,-1)]), (0,[(0,1),(2,-1)]), (0,[(1,1),(3,-1)])]) 100 13 crP24.args crP24.h0) = true := by kernel_rfl
set_option maxRecDepth 100000 in
theorem crs24 {G : Gh} (F : Facts G crI [(0,[(3,-1)]), (0,[(2,1),(0,-1)]), (0,[(1,-1)]), (0,[(0,1),(2,-1)]), (0,[(1,1),(3,-1)])] []) (hm : ¬ G.mono) (hT : HooksOk Tryz.prog G (hkT crT)) : SNOk Tryz.prog G crP24 := snap_ok progOk F (crH F hm hT crN) 100 crP24 Tryz.func13 rfl crr24
theorem crr34 : isSn crP34 (callN (crE [] crI [(0,[(3,-1)]), (0,[(2,1),(0,-1)]), (0,[(1,-1)]), (0,[(0,1),(2,-1)]), (0,[(1,1),(3,-1)])]) 100 8 crP34.args crP34.h0) = true := by kernel_rfl
set_option maxRecDepth 100000 in
theorem crs34 {G : Gh} (F : Facts G crI [(0,[(3,-1)]), (0,[(2,1),(0,-1)]), (0,[(1,-1)]), (0,[(0,1),(2,-1)]), (0,[(1,1),(3,-1)])] []) (hm : ¬ G.mono) (hT : HooksOk Tryz.prog G (hkT crT)) : SNOk Tryz.prog G crP34 := snap_ok progOk F (crH F hm hT crN) 100 crP34 Tryz.func8 rfl crr34
theorem crr25 : isSn crP25 (callN (crE [] crI [(-1,[(2,-1),(0,1)]), (0,[(1,-1)]), (0,[(0,1),(2,-1)]), (0,[(1,1),(3,-1)])]) 100 13 crP25.args crP25.h0) = true := by kernel_rfl
set_option maxRecDepth 100000 in
theorem crs25 {G : Gh} (F : Facts G crI [(-1,[(2,-1),(0,1)]), (0,[(1,-1)]), (0,[(0,1),(2,-1)]), (0,[(1,1),(3,-1)])] []) (hm : ¬ G.mono) (hT : HooksOk Tryz.prog G (hkT crT)) : SNOk Tryz.prog G crP25 := snap_ok progOk F (crH F hm hT crN) 100 crP25 Tryz.func13 rfl crr25
theorem crr33 : isSn crP33 (callN (crE [] crI [(-1,[(2,-1),(0,1)]), (0,[(1,-1)]), (0,[(0,1),(2,-1)]), (0,[(1,1),(3,-1)])]) 100 8 crP33.args crP33.h0) = true := by kernel_rfl
set_option maxRecDepth 100000 in
theorem crs33 {G : Gh} (F : Facts G crI [(-1,[(2,-1),(0,1)]), (0,[(1,-1)]), (0,[(0,1),(2,-1)]), (0,[(1,1),(3,-1)])] []) (hm : ¬ G.mono) (hT : HooksOk Tryz.prog G (hkT crT)) : SNOk Tryz.prog G crP33 := snap_ok progOk F (crH F hm hT crN) 100 crP33 Tryz.func8 rfl crr33
theorem crr8 : isSn crP8 (callN (crE [] crI [(-1,[(1,1)]), (0,[(0,1),(2,-1)]), (0,[(1,1),(3,-1)])]) 100 13 crP8.args crP8.h0) = true := by kernel_rfl
set_option maxRecDepth 100000 in
theorem crs8 {G : Gh} (F : Facts G crI [(-1,[(1,1)]), (0,[(0,1),(2,-1)]), (0,[(1,1),(3,-1)])] []) (hm : ¬ G.mono) (hT : HooksOk Tryz.prog G (hkT crT)) : SNOk Tryz.prog G crP8 := snap_ok progOk F (crH F hm hT crN) 100 crP8 Tryz.func13 rfl crr8
theorem crr12 : isSn crP12 (callN (crE [] crI [(-1,[(1,1)]), (0,[(0,1),(2,-1)]), (0,[(1,1),(3,-1)])]) 100 8 crP12.args crP12.h0) = true := by kernel_rfl
set_option maxRecDepth 100000 in
theorem crs12 {G : Gh} (F : Facts G crI [(-1,[(1,1)]), (0,[(0,1),(2,-1)]), (0,[(1,1),(3,-1)])] []) (hm : ¬ G.mono) (hT : HooksOk Tryz.prog G (hkT crT)) : SNOk Tryz.prog G crP12 := snap_ok progOk F (crH F hm hT crN) 100 crP12 Tryz.func8 rfl crr12
theorem crr11 : isSn crP11 (callN (crE [] crI [(0,[(1,-1)]), (0,[(0,1),(2,-1)]), (0,[(1,1),(3,-1)])]) 100 13 crP11.args crP11.h0) = true := by kernel_rfl
set_option maxRecDepth 100000 in
theorem crs11 {G : Gh} (F : Facts G crI [(0,[(1,-1)]), (0,[(0,1),(2,-1)]), (0,[(1,1),(3,-1)])] []) (hm : ¬ G.mono) (hT : HooksOk Tryz.prog G (hkT crT)) : SNOk Tryz.prog G crP11 := snap_ok progOk F (crH F hm hT crN) 100 crP11 Tryz.func13 rfl crr11
theorem crr23 : isSn crP23 (callN (crE [] crI [(0,[(1,-1)]), (0,[(0,1),(2,-1)]), (0,[(1,1),(3,-1)])]) 100 8 crP23.args crP23.h0) = true := by kernel_rfl
set_option maxRecDepth 100000 in
theorem crs23 {G : Gh} (F : Facts G crI [(0,[(1,-1)]), (0,[(0,1),(2,-1)]), (0,[(1,1),(3,-1)])] []) (hm : ¬ G.mono) (hT : HooksOk Tryz.prog G (hkT crT)) : SNOk Tryz.prog G crP23 := snap_ok progOk F (crH F hm hT crN) 100 crP23 Tryz.func8 rfl crr23
theorem crr9 : isSn crP9 (callN (crE [] crI [(-1,[(1,1)]), (0,[(0,1),(2,-1)]), (0,[(1,1),(3,-1)])]) 100 13 crP9.args crP9.h0) = true := by kernel_rfl
set_option maxRecDepth 100000 in
theorem crs9 {G : Gh} (F : Facts G crI [(-1,[(1,1)]), (0,[(0,1),(2,-1)]), (0,[(1,1),(3,-1)])] []) (hm : ¬ G.mono) (hT : HooksOk Tryz.prog G (hkT crT)) : SNOk Tryz.prog G crP9 := snap_ok progOk F (crH F hm hT crN) 100 crP9 Tryz.func13 rfl crr9
theorem crr16 : isSn crP16 (callN (crE [] crI [(-1,[(1,1)]), (0,[(0,1),(2,-1)]), (0,[(1,1),(3,-1)])]) 100 8 crP16.args crP16.h0) = true := by kernel_rfl
set_option maxRecDepth 100000 in
theorem crs16 {G : Gh} (F : Facts G crI [(-1,[(1,1)]), (0,[(0,1),(2,-1)]), (0,[(1,1),(3,-1)])] []) (hm : ¬ G.mono) (hT : HooksOk Tryz.prog G (hkT crT)) : SNOk Tryz.prog G crP16 := snap_ok progOk F (crH F hm hT crN) 100 crP16 Tryz.func8 rfl crr16
theorem crr10 : isSn crP10 (callN (crE [] crI [(0,[(1,-1)]), (0,[(0,1),(2,-1)]), (0,[(1,1),(3,-1)])]) 100 13 crP10.args crP10.h0) = true := by kernel_rfl
set_option maxRecDepth 100000 in
theorem crs10 {G : Gh} (F : Facts G crI [(0,[(1,-1)]), (0,[(0,1),(2,-1)]), (0,[(1,1),(3,-1)])] []) (hm : ¬ G.mono) (hT : HooksOk Tryz.prog G (hkT crT)) : SNOk Tryz.prog G crP10 := snap_ok progOk F (crH F hm hT crN) 100 crP10 Tryz.func13 rfl crr10
end Go.Proofs.YtaajobcfbgpfoaaGreat
