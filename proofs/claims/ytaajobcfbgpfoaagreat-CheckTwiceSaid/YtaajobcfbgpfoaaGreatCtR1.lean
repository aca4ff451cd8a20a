/- complinelaw24.CheckTwice: runs, part 1. -/
import Derived.Test.YtaajobcfbgpfoaaGreatCtQ
namespace Go.Proofs.YtaajobcfbgpfoaaGreat
open Go Go.RowKit Gv Gv.Lt
theorem ctr14 : isSn ctP14 (callN (ctE [] ctI [(-1,[(3,-1),(1,1)]), (-1,[(3,1)]), (-1,[(1,1)]), (-1,[(0,1),(2,-1)]), (0,[(1,1),(3,-1)])]) 100 8 ctP14.args ctP14.h0) = true := by kernel_rfl
set_option maxRecDepth 100000 in
theorem cts14 {G : Gh} (F : Facts G ctI [(-1,[(3,-1),(1,1)]), (-1,[(3,1)]), (-1,[(1,1)]), (-1,[(0,1),(2,-1)]), (0,[(1,1),(3,-1)])] []) (hm : ¬ G.mono) (hT : HooksOk Tryz.prog G (hkT ctT)) : SNOk Tryz.prog G ctP14 := snap_ok progOk F (ctH F hm hT ctN) 100 ctP14 Tryz.func8 rfl ctr14
theorem ctr18 : isSn ctP18 (callN (ctE [] ctI [(-1,[(3,-1),(1,1)]), (-1,[(3,1)]), (-1,[(1,1)]), (-1,[(0,1),(2,-1)]), (0,[(1,1),(3,-1)])]) 100 8 ctP18.args ctP18.h0) = true := by kernel_rfl
set_option maxRecDepth 100000 in
theorem cts18 {G : Gh} (F : Facts G ctI [(-1,[(3,-1),(1,1)]), (-1,[(3,1)]), (-1,[(1,1)]), (-1,[(0,1),(2,-1)]), (0,[(1,1),(3,-1)])] []) (hm : ¬ G.mono) (hT : HooksOk Tryz.prog G (hkT ctT)) : SNOk Tryz.prog G ctP18 := snap_ok progOk F (ctH F hm hT ctN) 100 ctP18 Tryz.func8 rfl ctr18
theorem ctr21 : isSn ctP21 (callN (ctE [] ctI [(-1,[(3,-1),(1,1)]), (-1,[(3,1)]), (-1,[(1,1)]), (-1,[(0,1),(2,-1)]), (0,[(1,1),(3,-1)])]) 100 8 ctP21.args ctP21.h0) = true := by kernel_rfl
set_option maxRecDepth 100000 in
theorem cts21 {G : Gh} (F : Facts G ctI [(-1,[(3,-1),(1,1)]), (-1,[(3,1)]), (-1,[(1,1)]), (-1,[(0,1),(2,-1)]), (0,[(1,1),(3,-1)])] []) (hm : ¬ G.mono) (hT : HooksOk Tryz.prog G (hkT ctT)) : SNOk Tryz.prog G ctP21 := snap_ok progOk F (ctH F hm hT ctN) 100 ctP21 Tryz.func8 rfl ctr21
theorem ctr12 : isSn ctP12 (callN (ctE [] ctI [(0,[(3,1),(1,-1)]), (-1,[(3,1)]), (-1,[(1,1)]), (-1,[(0,1),(2,-1)]), (0,[(1,1),(3,-1)])]) 100 8 ctP12.args ctP12.h0) = true := by kernel_rfl
set_option maxRecDepth 100000 in
theorem cts12 {G : Gh} (F : Facts G ctI [(0,[(3,1),(1,-1)]), (-1,[(3,1)]), (-1,[(1,1)]), (-1,[(0,1),(2,-1)]), (0,[(1,1),(3,-1)])] []) (hm : ¬ G.mono) (hT : HooksOk Tryz.prog G (hkT ctT)) : SNOk Tryz.prog G ctP12 := snap_ok progOk F (ctH F hm hT ctN) 100 ctP12 Tryz.func8 rfl ctr12
theorem ctr16 : isSn ctP16 (callN (ctE [] ctI [(0,[(3,1),(1,-1)]), (-1,[(3,1)]), (-1,[(1,1)]), (-1,[(0,1),(2,-1)]), (0,[(1,1),(3,-1)])]) 100 8 ctP16.args ctP16.h0) = true := by kernel_rfl
set_option maxRecDepth 100000 in
theorem cts16 {G : Gh} (F : Facts G ctI [(0,[(3,1),(1,-1)]), (-1,[(3,1)]), (-1,[(1,1)]), (-1,[(0,1),(2,-1)]), (0,[(1,1),(3,-1)])] []) (hm : ¬ G.mono) (hT : HooksOk Tryz.prog G (hkT ctT)) : SNOk Tryz.prog G ctP16 := snap_ok progOk F (ctH F hm hT ctN) 100 ctP16 Tryz.func8 rfl ctr16
theorem ctr19 : isSn ctP19 (callN (ctE [] ctI [(0,[(3,1),(1,-1)]), (-1,[(3,1)]), (-1,[(1,1)]), (-1,[(0,1),(2,-1)]), (0,[(1,1),(3,-1)])]) 100 8 ctP19.args ctP19.h0) = true := by kernel_rfl
set_option maxRecDepth 100000 in
theorem cts19 {G : Gh} (F : Facts G ctI [(0,[(3,1),(1,-1)]), (-1,[(3,1)]), (-1,[(1,1)]), (-1,[(0,1),(2,-1)]), (0,[(1,1),(3,-1)])] []) (hm : ¬ G.mono) (hT : HooksOk Tryz.prog G (hkT ctT)) : SNOk Tryz.prog G ctP19 := snap_ok progOk F (ctH F hm hT ctN) 100 ctP19 Tryz.func8 rfl ctr19
theorem ctr20 : isSn ctP20 (callN (ctE [] ctI [(0,[(3,1),(1,-1)]), (-1,[(3,1)]), (-1,[(1,1)]), (-1,[(0,1),(2,-1)]), (0,[(1,1),(3,-1)])]) 100 8 ctP20.args ctP20.h0) = true := by kernel_rfl
set_option maxRecDepth 100000 in
theorem cts20 {G : Gh} (F : Facts G ctI [(0,[(3,1),(1,-1)]), (-1,[(3,1)]), (-1,[(1,1)]), (-1,[(0,1),(2,-1)]), (0,[(1,1),(3,-1)])] []) (hm : ¬ G.mono) (hT : HooksOk Tryz.prog G (hkT ctT)) : SNOk Tryz.prog G ctP20 := snap_ok progOk F (ctH F hm hT ctN) 100 ctP20 Tryz.func8 rfl ctr20
end Go.Proofs.YtaajobcfbgpfoaaGreat
