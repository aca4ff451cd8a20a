/- complinelaw24.CheckReasons: runs, part 6. -/
import Derived.Test.YtaajobcfbgpfoaaGreatCrQ
import Derived.Test.YtaajobcfbgpfoaaGreatCrR0
import Derived.Test.YtaajobcfbgpfoaaGreatCrR4
namespace Go.Proofs.YtaajobcfbgpfoaaGreat
open Go Go.RowKit Gv Gv.Lt
theorem crr123 : isSn crP123 (callN (crE [] crI [(0,[(3,1),(1,-1)]), (-1,[(3,1)]), (-1,[(2,-1),(0,1)]), (-1,[(1,1)]), (0,[(0,1),(2,-1)]), (0,[(1,1),(3,-1)])]) 100 8 crP123.args crP123.h0) = true := by kernel_rfl
set_option maxRecDepth 100000 in
theorem crs123 {G : Gh} (F : Facts G crI [(0,[(3,1),(1,-1)]), (-1,[(3,1)]), (-1,[(2,-1),(0,1)]), (-1,[(1,1)]), (0,[(0,1),(2,-1)]), (0,[(1,1),(3,-1)])] []) (hm : ¬ G.mono) (hT : HooksOk Tryz.prog G (hkT crT)) : SNOk Tryz.prog G crP123 := snap_ok progOk F (crH F hm hT crN) 100 crP123 Tryz.func8 rfl crr123
theorem crr100 : isSn crP100 (callN (crE [] crI [(0,[(3,-1)]), (-1,[(2,-1),(0,1)]), (-1,[(1,1)]), (0,[(0,1),(2,-1)]), (0,[(1,1),(3,-1)])]) 100 13 crP100.args crP100.h0) = true := by kernel_rfl
set_option maxRecDepth 100000 in
theorem crs100 {G : Gh} (F : Facts G crI [(0,[(3,-1)]), (-1,[(2,-1),(0,1)]), (-1,[(1,1)]), (0,[(0,1),(2,-1)]), (0,[(1,1),(3,-1)])] []) (hm : ¬ G.mono) (hT : HooksOk Tryz.prog G (hkT crT)) : SNOk Tryz.prog G crP100 := snap_ok progOk F (crH F hm hT crN) 100 crP100 Tryz.func13 rfl crr100
theorem crr113 : isSn crP113 (callN (crE [] crI [(0,[(3,-1)]), (-1,[(2,-1),(0,1)]), (-1,[(1,1)]), (0,[(0,1),(2,-1)]), (0,[(1,1),(3,-1)])]) 100 8 crP113.args crP113.h0) = true := by kernel_rfl
set_option maxRecDepth 100000 in
theorem crs113 {G : Gh} (F : Facts G crI [(0,[(3,-1)]), (-1,[(2,-1),(0,1)]), (-1,[(1,1)]), (0,[(0,1),(2,-1)]), (0,[(1,1),(3,-1)])] []) (hm : ¬ G.mono) (hT : HooksOk Tryz.prog G (hkT crT)) : SNOk Tryz.prog G crP113 := snap_ok progOk F (crH F hm hT crN) 100 crP113 Tryz.func8 rfl crr113
theorem crr89 : isSn crP89 (callN (crE [] crI [(0,[(1,-1)]), (0,[(0,1),(2,-1)]), (0,[(1,1),(3,-1)])]) 100 16 crP89.args crP89.h0) = true := by kernel_rfl
set_option maxRecDepth 100000 in
theorem crs89 {G : Gh} (F : Facts G crI [(0,[(1,-1)]), (0,[(0,1),(2,-1)]), (0,[(1,1),(3,-1)])] []) (hm : ¬ G.mono) (hT : HooksOk Tryz.prog G (hkT crT)) : SNOk Tryz.prog G crP89 := snap_ok progOk F (crH F hm hT crN) 100 crP89 Tryz.func16 rfl crr89
theorem crr91 : isSn crP91 (callN (crE [crP0, crP85, crP86, crP87, crP89] crI [(0,[(1,-1)]), (0,[(0,1),(2,-1)]), (0,[(1,1),(3,-1)])]) 100 6 crP91.args crP91.h0) = true := by kernel_rfl
set_option maxRecDepth 100000 in
theorem crs91 {G : Gh} (F : Facts G crI [(0,[(1,-1)]), (0,[(0,1),(2,-1)]), (0,[(1,1),(3,-1)])] []) (hm : ¬ G.mono) (hT : HooksOk Tryz.prog G (hkT crT)) : SNOk Tryz.prog G crP91 := snap_ok progOk F (crH F hm hT (List.forall_mem_cons.2 ⟨crs0 ⟨F.bd, F.ge.2, F.nl⟩ hm hT, (List.forall_mem_cons.2 ⟨crs85 ⟨F.bd, F.ge.2, F.nl⟩ hm hT, (List.forall_mem_cons.2 ⟨crs86 ⟨F.bd, F.ge.2, F.nl⟩ hm hT, (List.forall_mem_cons.2 ⟨crs87 ⟨F.bd, F.ge.2, F.nl⟩ hm hT, (List.forall_mem_cons.2 ⟨crs89 F hm hT, crN⟩)⟩)⟩)⟩)⟩)) 100 crP91 Tryz.func6 rfl crr91
theorem crr103 : isSn crP103 (callN (crE [] crI [(0,[(3,-1)]), (0,[(2,1),(0,-1)]), (0,[(1,-1)]), (0,[(0,1),(2,-1)]), (0,[(1,1),(3,-1)])]) 100 13 crP103.args crP103.h0) = true := by kernel_rfl
set_option maxRecDepth 100000 in
theorem crs103 {G : Gh} (F : Facts G crI [(0,[(3,-1)]), (0,[(2,1),(0,-1)]), (0,[(1,-1)]), (0,[(0,1),(2,-1)]), (0,[(1,1),(3,-1)])] []) (hm : ¬ G.mono) (hT : HooksOk Tryz.prog G (hkT crT)) : SNOk Tryz.prog G crP103 := snap_ok progOk F (crH F hm hT crN) 100 crP103 Tryz.func13 rfl crr103
theorem crr115 : isSn crP115 (callN (crE [] crI [(0,[(3,-1)]), (0,[(2,1),(0,-1)]), (0,[(1,-1)]), (0,[(0,1),(2,-1)]), (0,[(1,1),(3,-1)])]) 100 8 crP115.args crP115.h0) = true := by kernel_rfl
set_option maxRecDepth 100000 in
theorem crs115 {G : Gh} (F : Facts G crI [(0,[(3,-1)]), (0,[(2,1),(0,-1)]), (0,[(1,-1)]), (0,[(0,1),(2,-1)]), (0,[(1,1),(3,-1)])] []) (hm : ¬ G.mono) (hT : HooksOk Tryz.prog G (hkT crT)) : SNOk Tryz.prog G crP115 := snap_ok progOk F (crH F hm hT crN) 100 crP115 Tryz.func8 rfl crr115
theorem crr104 : isSn crP104 (callN (crE [] crI [(0,[(3,-1)]), (-1,[(2,-1),(0,1)]), (0,[(1,-1)]), (0,[(0,1),(2,-1)]), (0,[(1,1),(3,-1)])]) 100 13 crP104.args crP104.h0) = true := by kernel_rfl
set_option maxRecDepth 100000 in
theorem crs104 {G : Gh} (F : Facts G crI [(0,[(3,-1)]), (-1,[(2,-1),(0,1)]), (0,[(1,-1)]), (0,[(0,1),(2,-1)]), (0,[(1,1),(3,-1)])] []) (hm : ¬ G.mono) (hT : HooksOk Tryz.prog G (hkT crT)) : SNOk Tryz.prog G crP104 := snap_ok progOk F (crH F hm hT crN) 100 crP104 Tryz.func13 rfl crr104
end Go.Proofs.YtaajobcfbgpfoaaGreat
