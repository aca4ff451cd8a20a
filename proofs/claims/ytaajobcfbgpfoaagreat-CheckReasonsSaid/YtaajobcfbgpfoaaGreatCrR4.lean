/- complinelaw24.CheckReasons: runs, part 4. -/
import Derived.Test.YtaajobcfbgpfoaaGreatCrQ
import Derived.Test.YtaajobcfbgpfoaaGreatCrR0
namespace Go.Proofs.YtaajobcfbgpfoaaGreat
open Go Go.RowKit Gv Gv.Lt
theorem crr67 : isSn crP67 (callN (crE [] crI [(-1,[(1,1)]), (0,[(0,1),(2,-1)]), (0,[(1,1),(3,-1)])]) 100 8 crP67.args crP67.h0) = true := by kernel_rfl
set_option maxRecDepth 100000 in
theorem crs67 {G : Gh} (F : Facts G crI [(-1,[(1,1)]), (0,[(0,1),(2,-1)]), (0,[(1,1),(3,-1)])] []) (hm : ¬ G.mono) (hT : HooksOk Tryz.prog G (hkT crT)) : SNOk Tryz.prog G crP67 := snap_ok progOk F (crH F hm hT crN) 100 crP67 Tryz.func8 rfl crr67
theorem crr64 : isSn crP64 (callN (crE [] crI [(0,[(1,-1)]), (0,[(0,1),(2,-1)]), (0,[(1,1),(3,-1)])]) 100 13 crP64.args crP64.h0) = true := by kernel_rfl
set_option maxRecDepth 100000 in
theorem crs64 {G : Gh} (F : Facts G crI [(0,[(1,-1)]), (0,[(0,1),(2,-1)]), (0,[(1,1),(3,-1)])] []) (hm : ¬ G.mono) (hT : HooksOk Tryz.prog G (hkT crT)) : SNOk Tryz.prog G crP64 := snap_ok progOk F (crH F hm hT crN) 100 crP64 Tryz.func13 rfl crr64
theorem crr68 : isSn crP68 (callN (crE [] crI [(0,[(1,-1)]), (0,[(0,1),(2,-1)]), (0,[(1,1),(3,-1)])]) 100 8 crP68.args crP68.h0) = true := by kernel_rfl
set_option maxRecDepth 100000 in
theorem crs68 {G : Gh} (F : Facts G crI [(0,[(1,-1)]), (0,[(0,1),(2,-1)]), (0,[(1,1),(3,-1)])] []) (hm : ¬ G.mono) (hT : HooksOk Tryz.prog G (hkT crT)) : SNOk Tryz.prog G crP68 := snap_ok progOk F (crH F hm hT crN) 100 crP68 Tryz.func8 rfl crr68
theorem crr69 : isSn crP69 (callN (crE [] crI [(-1,[(1,1)]), (0,[(0,1),(2,-1)]), (0,[(1,1),(3,-1)])]) 100 13 crP69.args crP69.h0) = true := by kernel_rfl
set_option maxRecDepth 100000 in
theorem crs69 {G : Gh} (F : Facts G crI [(-1,[(1,1)]), (0,[(0,1),(2,-1)]), (0,[(1,1),(3,-1)])] []) (hm : ¬ G.mono) (hT : HooksOk Tryz.prog G (hkT crT)) : SNOk Tryz.prog G crP69 := snap_ok progOk F (crH F hm hT crN) 100 crP69 Tryz.func13 rfl crr69
theorem crr73 : isSn crP73 (callN (crE [] crI [(-1,[(1,1)]), (0,[(0,1),(2,-1)]), (0,[(1,1),(3,-1)])]) 100 8 crP73.args crP73.h0) = true := by kernel_rfl
set_option maxRecDepth 100000 in
theorem crs73 {G : Gh} (F : Facts G crI [(-1,[(1,1)]), (0,[(0,1),(2,-1)]), (0,[(1,1),(3,-1)])] []) (hm : ¬ G.mono) (hT : HooksOk Tryz.prog G (hkT crT)) : SNOk Tryz.prog G crP73 := snap_ok progOk F (crH F hm hT crN) 100 crP73 Tryz.func8 rfl crr73
theorem crr70 : isSn crP70 (callN (crE [] crI [(0,[(1,-1)]), (0,[(0,1),(2,-1)]), (0,[(1,1),(3,-1)])]) 100 13 crP70.args crP70.h0) = true := by kernel_rfl
set_option maxRecDepth 100000 in
theorem crs70 {G : Gh} (F : Facts G crI [(0,[(1,-1)]), (0,[(0,1),(2,-1)]), (0,[(1,1),(3,-1)])] []) (hm : ¬ G.mono) (hT : HooksOk Tryz.prog G (hkT crT)) : SNOk Tryz.prog G crP70 := snap_ok progOk F (crH F hm hT crN) 100 crP70 Tryz.func13 rfl crr70
theorem crr74 : isSn crP74 (callN (crE [] crI [(0,[(1,-1)]), (0,[(0,1),(2,-1)]), (0,[(1,1),(3,-1)])]) 100 8 crP74.args crP74.h0) = true := by kernel_rfl
set_option maxRecDepth 100000 in
theorem crs74 {G : Gh} (F : Facts G crI [(0,[(1,-1)]), (0,[(0,1),(2,-1)]), (0,[(1,1),(3,-1)])] []) (hm : ¬ G.mono) (hT : HooksOk Tryz.prog G (hkT crT)) : SNOk Tryz.prog G crP74 := snap_ok progOk F (crH F hm hT crN) 100 crP74 Tryz.func8 rfl crr74
theorem crr71 : isSn crP71 (callN (crE [] crI [(-1,[(1,1)]), (0,[(0,1),(2,-1)]), (0,[(1,1),(3,-1)])]) 100 13 crP71.args crP71.h0) = true := by kernel_rfl
set_option maxRecDepth 100000 in
theorem crs71 {G : Gh} (F : Facts G crI [(-1,[(1,1)]), (0,[(0,1),(2,-1)]), (0,[(1,1),(3,-1)])] []) (hm : ¬ G.mono) (hT : HooksOk Tryz.prog G (hkT crT)) : SNOk Tryz.prog G crP71 := snap_ok progOk F (crH F hm hT crN) 100 crP71 Tryz.func13 rfl crr71
theorem crr75 : isSn crP75 (callN (crE [] crI [(-1,[(1,1)]), (0,[(0,1),(2,-1)]), (0,[(1,1),(3,-1)])]) 100 8 crP75.args crP75.h0) = true := by kernel_rfl
set_option maxRecDepth 100000 in
theorem crs75 {G : Gh} (F : Facts G crI [(-1,[(1,1)]), (0,[(0,1),(2,-1)]), (0,[(1,1),(3,-1)])] []) (hm : ¬ G.mono) (hT : HooksOk Tryz.prog G (hkT crT)) : SNOk Tryz.prog G crP75 := snap_ok progOk F (crH F hm hT crN) 100 crP75 Tryz.func8 rfl crr75
theorem crr72 : isSn crP72 (callN (crE [] crI [(0,[(1,-1)]), (0,[(0,1),(2,-1)]), (0,[(1,1),(3,-1)])]) 100 13 crP72.args crP72.h0) = true := by kernel_rfl
set_option maxRecDepth 100000 in
theorem crs72 {G : Gh} (F : Facts G crI [(0,[(1,-1)]), (0,[(0,1),(2,-1)]), (0,[(1,1),(3,-1)])] []) (hm : ¬ G.mono) (hT : HooksOk Tryz.prog G (hkT crT)) : SNOk Tryz.prog G crP72 := snap_ok progOk F (crH F hm hT crN) 100 crP72 Tryz.func13 rfl crr72
theorem crr76 : isSn crP76 (callN (crE [] crI [(0,[(1,-1)]), (0,[(0,1),(2,-1)]), (0,[(1,1),(3,-1)])]) 100 8 crP76.args crP76.h0) = true := by kernel_rfl
set_option maxRecDepth 100000 in
theorem crs76 {G : Gh} (F : Facts G crI [(0,[(1,-1)]), (0,[(0,1),(2,-1)]), (0,[(1,1),(3,-1)])] []) (hm : ¬ G.mono) (hT : HooksOk Tryz.prog G (hkT crT)) : SNOk Tryz.prog G crP76 := snap_ok progOk F (crH F hm hT crN) 100 crP76 Tryz.func8 rfl crr76
theorem crr77 : isSn crP77 (callN (crE [] crI [(-1,[(1,1)]), (0,[(0,1),(2,-1)]), (0,[(1,1),(3,-1)])]) 100 13 crP77.args crP77.h0) = true := by kernel_rfl
set_option maxRecDepth 100000 in
theorem crs77 {G : Gh} (F : Facts G crI [(-1,[(1,1)]), (0,[(0,1),(2,-1)]), (0,[(1,1),(3,-1)])] []) (hm : ¬ G.mono) (hT : HooksOk Tryz.prog G (hkT crT)) : SNOk Tryz.prog G crP77 := snap_ok progOk F (crH F hm hT crN) 100 crP77 Tryz.func13 rfl crr77
theorem crr81 : isSn crP81 (callN (crE [] crI [(-1,[(1,1)]), (0,[(0,1),(2,-1)]), (0,[(1,1),(3,-1)])]) 100 8 crP81.args crP81.h0) = true := by kernel_rfl
set_option maxRecDepth 100000 in
theorem crs81 {G : Gh} (F : Facts G crI [(-1,[(1,1)]), (0,[(0,1),(2,-1)]), (0,[(1,1),(3,-1)])] []) (hm : ¬ G.mono) (hT : HooksOk Tryz.prog G (hkT crT)) : SNOk Tryz.prog G crP81 := snap_ok progOk F (crH F hm hT crN) 100 crP81 Tryz.func8 rfl crr81
theorem crr78 : isSn crP78 (callN (crE [] crI [(0,[(1,-1)]), (0,[(0,1),(2,-1)]), (0,[(1,1),(3,-1)])]) 100 13 crP78.args crP78.h0) = true := by kernel_rfl
set_option maxRecDepth 100000 in
theorem crs78 {G : Gh} (F : Facts G crI [(0,[(1,-1)]), (0,[(0,1),(2,-1)]), (0,[(1,1),(3,-1)])] []) (hm : ¬ G.mono) (hT : HooksOk Tryz.prog G (hkT crT)) : SNOk Tryz.prog G crP78 := snap_ok progOk F (crH F hm hT crN) 100 crP78 Tryz.func13 rfl crr78
theorem crr82 : isSn crP82 (callN (crE [] crI [(0,[(1,-1)]), (0,[(0,1),(2,-1)]), (0,[(1,1),(3,-1)])]) 100 8 crP82.args crP82.h0) = true := by kernel_rfl
set_option maxRecDepth 100000 in
theorem crs82 {G : Gh} (F : Facts G crI [(0,[(1,-1)]), (0,[(0,1),(2,-1)]), (0,[(1,1),(3,-1)])] []) (hm : ¬ G.mono) (hT : HooksOk Tryz.prog G (hkT crT)) : SNOk Tryz.prog G crP82 := snap_ok progOk F (crH F hm hT crN) 100 crP82 Tryz.func8 rfl crr82
theorem crr80 : isSn crP80 (callN (crE [] crI [(-1,[(1,1)]), (0,[(0,1),(2,-1)]), (0,[(1,1),(3,-1)])]) 100 13 crP80.args crP80.h0) = true := by kernel_rfl
set_option maxRecDepth 100000 in
theorem crs80 {G : Gh} (F : Facts G crI [(-1,[(1,1)]), (0,[(0,1),(2,-1)]), (0,[(1,1),(3,-1)])] []) (hm : ¬ G.mono) (hT : HooksOk Tryz.prog G (hkT crT)) : SNOk Tryz.prog G crP80 := snap_ok progOk F (crH F hm hT crN) 100 crP80 Tryz.func13 rfl crr80
theorem crr84 : isSn crP84 (callN (crE [] crI [(-1,[(1,1)]), (0,[(0,1),(2,-1)]), (0,[(1,1),(3,-1)])]) 100 8 crP84.args crP84.h0) = true := by kernel_rfl
set_option maxRecDepth 100000 in
theorem crs84 {G : Gh} (F : Facts G crI [(-1,[(1,1)]), (0,[(0,1),(2,-1)]), (0,[(1,1),(3,-1)])] []) (hm : ¬ G.mono) (hT : HooksOk Tryz.prog G (hkT crT)) : SNOk Tryz.prog G crP84 := snap_ok progOk F (crH F hm hT crN) 100 crP84 Tryz.func8 rfl crr84
theorem crr79 : isSn crP79 (callN (crE [] crI [(0,[(1,-1)]), (0,[(0,1),(2,-1)]), (0,[(1,1),(3,-1)])]) 100 13 crP79.args crP79.h0) = true := by kernel_rfl
set_option maxRecDepth 100000 in
theorem crs79 {G : Gh} (F : Facts G crI [(0,[(1,-1)]), (0,[(0,1),(2,-1)]), (0,[(1,1),(3,-1)])] []) (hm : ¬ G.mono) (hT : HooksOk Tryz.prog G (hkT crT)) : SNOk Tryz.prog G crP79 := snap_ok progOk F (crH F hm hT crN) 100 crP79 Tryz.func13 rfl crr79
theorem crr83 : isSn crP83 (callN (crE [] crI [(0,[(1,-1)]), (0,[(0,1),(2,-1)]), (0,[(1,1),(3,-1)])]) 100 8 crP83.args crP83.h0) = true := by kernel_rfl
set_option maxRecDepth 100000 in
theorem crs83 {G : Gh} (F : Facts G crI [(0,[(1,-1)]), (0,[(0,1),(2,-1)]), (0,[(1,1),(3,-1)])] []) (hm : ¬ G.mono) (hT : HooksOk Tryz.prog G (hkT crT)) : SNOk Tryz.prog G crP83 := snap_ok progOk F (crH F hm hT crN) 100 crP83 Tryz.func8 rfl crr83
theorem crr85 : isSn crP85 (callN (crE [] crI [(0,[(0,1),(2,-1)]), (0,[(1,1),(3,-1)])]) 100 16 crP85.args crP85.h0) = true := by kernel_rfl
set_option maxRecDepth 100000 in
theorem crs85 {G : Gh} (F : Facts G crI [(0,[(0,1),(2,-1)]), (0,[(1,1),(3,-1)])] []) (hm : ¬ G.mono) (hT : HooksOk Tryz.prog G (hkT crT)) : SNOk Tryz.prog G crP85 := snap_ok progOk F (crH F hm hT crN) 100 crP85 Tryz.func16 rfl crr85
theorem crr86 : isSn crP86 (callN (crE [] crI [(0,[(0,1),(2,-1)]), (0,[(1,1),(3,-1)])]) 100 16 crP86.args crP86.h0) = true := by kernel_rfl
set_option maxRecDepth 100000 in
theorem crs86 {G : Gh} (F : Facts G crI [(0,[(0,1),(2,-1)]), (0,[(1,1),(3,-1)])] []) (hm : ¬ G.mono) (hT : HooksOk Tryz.prog G (hkT crT)) : SNOk Tryz.prog G crP86 := snap_ok progOk F (crH F hm hT crN) 100 crP86 Tryz.func16 rfl crr86
theorem crr87 : isSn crP87 (callN (crE [] crI [(0,[(0,1),(2,-1)]), (0,[(1,1),(3,-1)])]) 100 16 crP87.args crP87.h0) = true := by kernel_rfl
set_option maxRecDepth 100000 in
theorem crs87 {G : Gh} (F : Facts G crI [(0,[(0,1),(2,-1)]), (0,[(1,1),(3,-1)])] []) (hm : ¬ G.mono) (hT : HooksOk Tryz.prog G (hkT crT)) : SNOk Tryz.prog G crP87 := snap_ok progOk F (crH F hm hT crN) 100 crP87 Tryz.func16 rfl crr87
theorem crr88 : isSn crP88 (callN (crE [] crI [(-1,[(1,1)]), (0,[(0,1),(2,-1)]), (0,[(1,1),(3,-1)])]) 100 16 crP88.args crP88.h0) = true := by kernel_rfl
set_option maxRecDepth 100000 in
theorem crs88 {G : Gh} (F : Facts G crI [(-1,[(1,1)]), (0,[(0,1),(2,-1)]), (0,[(1,1),(3,-1)])] []) (hm : ¬ G.mono) (hT : HooksOk Tryz.prog G (hkT crT)) : SNOk Tryz.prog G crP88 := snap_ok progOk F (crH F hm hT crN) 100 crP88 Tryz.func16 rfl crr88
theorem crr90 : isSn crP90 (callN (crE [crP0, crP85, crP86, crP87, crP88] crI [(-1,[(1,1)]), (0,[(0,1),(2,-1)]), (0,[(1,1),(3,-1)])]) 100 6 crP90.args crP90.h0) = true := by kernel_rfl
set_option maxRecDepth 100000 in
theorem crs90 {G : Gh} (F : Facts G crI [(-1,[(1,1)]), (0,[(0,1),(2,-1)]), (0,[(1,1),(3,-1)])] []) (hm : ¬ G.mono) (hT : HooksOk Tryz.prog G (hkT crT)) : SNOk Tryz.prog G crP90 := snap_ok progOk F (crH F hm hT (List.forall_mem_cons.2 ⟨crs0 ⟨F.bd, F.ge.2, F.nl⟩ hm hT, (List.forall_mem_cons.2 ⟨crs85 ⟨F.bd, F.ge.2, F.nl⟩ hm hT, (List.forall_mem_cons.2 ⟨crs86 ⟨F.bd, F.ge.2, F.nl⟩ hm hT, (List.forall_mem_cons.2 ⟨crs87 ⟨F.bd, F.ge.2, F.nl⟩ hm hT, (List.forall_mem_cons.2 ⟨crs88 F hm hT, crN⟩)⟩)⟩)⟩)⟩)) 100 crP90 Tryz.func6 rfl crr90
theorem crr97 : isSn crP97 (callN (crE [] crI [(-1,[(3,1)]), (0,[(2,1),(0,-1)]), (-1,[(1,1)]), (0,[(0,1),(2,-1)]), (0,[(1,1),(3,-1)])]) 100 13 crP97.args crP97.h0) = true := by kernel_rfl
set_option maxRecDepth 100000 in
theorem crs97 {G : Gh} (F : Facts G crI [(-1,[(3,1)]), (0,[(2,1),(0,-1)]), (-1,[(1,1)]), (0,[(0,1),(2,-1)]), (0,[(1,1),(3,-1)])] []) (hm : ¬ G.mono) (hT : HooksOk Tryz.prog G (hkT crT)) : SNOk Tryz.prog G crP97 := snap_ok progOk F (crH F hm hT crN) 100 crP97 Tryz.func13 rfl crr97
end Go.Proofs.YtaajobcfbgpfoaaGreat
