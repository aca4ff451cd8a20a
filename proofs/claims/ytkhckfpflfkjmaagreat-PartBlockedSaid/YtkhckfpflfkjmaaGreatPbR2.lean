/- complinelaw23.PartBlocked: runs, part 2. -/
import Derived.Test.YtkhckfpflfkjmaaGreatPbQ
namespace Go.Proofs.YtkhckfpflfkjmaaGreat
open Go Go.RowKit Gv Gv.Lt
theorem pbr40 : isSn pbP40 (callN (pbE [] pbI [(-1,[(3,1)]), (0,[(2,-1)]), (0,[(5,1),(2,-1)]), (0,[(8,1),(2,-1)]), (0,[(2,1),(8,-1)]), (0,[(0,1),(5,-1)])]) 100 19 pbP40.args pbP40.h0) = true := by kernel_rfl
set_option maxRecDepth 100000 in
theorem pbs40 {G : Gh} (F : Facts G pbI [(-1,[(3,1)]), (0,[(2,-1)]), (0,[(5,1),(2,-1)]), (0,[(8,1),(2,-1)]), (0,[(2,1),(8,-1)]), (0,[(0,1),(5,-1)])] []) (hm : ¬ G.mono) (hT : HooksOk Tryz.prog G (hkT pbT)) : SNOk Tryz.prog G pbP40 := by exact snap_ok progOk F (pbH F hm hT pbN) 100 pbP40 Tryz.func19 rfl pbr40
theorem pbr44 : isSn pbP44 (callN (pbE [] pbI [(-1,[(3,1)]), (0,[(2,-1)]), (0,[(5,1),(2,-1)]), (0,[(8,1),(2,-1)]), (0,[(2,1),(8,-1)]), (0,[(0,1),(5,-1)])]) 100 19 pbP44.args pbP44.h0) = true := by kernel_rfl
set_option maxRecDepth 100000 in
theorem pbs44 {G : Gh} (F : Facts G pbI [(-1,[(3,1)]), (0,[(2,-1)]), (0,[(5,1),(2,-1)]), (0,[(8,1),(2,-1)]), (0,[(2,1),(8,-1)]), (0,[(0,1),(5,-1)])] []) (hm : ¬ G.mono) (hT : HooksOk Tryz.prog G (hkT pbT)) : SNOk Tryz.prog G pbP44 := by exact snap_ok progOk F (pbH F hm hT pbN) 100 pbP44 Tryz.func19 rfl pbr44
theorem pbr41 : isSn pbP41 (callN (pbE [] pbI [(0,[(3,-1)]), (0,[(2,-1)]), (0,[(5,1),(2,-1)]), (0,[(8,1),(2,-1)]), (0,[(2,1),(8,-1)]), (0,[(0,1),(5,-1)])]) 100 19 pbP41.args pbP41.h0) = true := by kernel_rfl
set_option maxRecDepth 100000 in
theorem pbs41 {G : Gh} (F : Facts G pbI [(0,[(3,-1)]), (0,[(2,-1)]), (0,[(5,1),(2,-1)]), (0,[(8,1),(2,-1)]), (0,[(2,1),(8,-1)]), (0,[(0,1),(5,-1)])] []) (hm : ¬ G.mono) (hT : HooksOk Tryz.prog G (hkT pbT)) : SNOk Tryz.prog G pbP41 := by exact snap_ok progOk F (pbH F hm hT pbN) 100 pbP41 Tryz.func19 rfl pbr41
theorem pbr46 : isSn pbP46 (callN (pbE [] pbI [(0,[(3,-1)]), (0,[(2,-1)]), (0,[(5,1),(2,-1)]), (0,[(8,1),(2,-1)]), (0,[(2,1),(8,-1)]), (0,[(0,1),(5,-1)])]) 100 19 pbP46.args pbP46.h0) = true := by kernel_rfl
set_option maxRecDepth 100000 in
theorem pbs46 {G : Gh} (F : Facts G pbI [(0,[(3,-1)]), (0,[(2,-1)]), (0,[(5,1),(2,-1)]), (0,[(8,1),(2,-1)]), (0,[(2,1),(8,-1)]), (0,[(0,1),(5,-1)])] []) (hm : ¬ G.mono) (hT : HooksOk Tryz.prog G (hkT pbT)) : SNOk Tryz.prog G pbP46 := by exact snap_ok progOk F (pbH F hm hT pbN) 100 pbP46 Tryz.func19 rfl pbr46
theorem pbr47 : isSn pbP47 (callN (pbE [] pbI [(-1,[(3,1)]), (-1,[(9,1)]), (0,[(0,1),(4,-1)])]) 100 19 pbP47.args pbP47.h0) = true := by kernel_rfl
set_option maxRecDepth 100000 in
theorem pbs47 {G : Gh} (F : Facts G pbI [(-1,[(3,1)]), (-1,[(9,1)]), (0,[(0,1),(4,-1)])] []) (hm : ¬ G.mono) (hT : HooksOk Tryz.prog G (hkT pbT)) : SNOk Tryz.prog G pbP47 := by exact snap_ok progOk F (pbH F hm hT pbN) 100 pbP47 Tryz.func19 rfl pbr47
theorem pbr51 : isSn pbP51 (callN (pbE [] pbI [(-1,[(3,1)]), (-1,[(9,1)]), (0,[(0,1),(4,-1)])]) 100 19 pbP51.args pbP51.h0) = true := by kernel_rfl
set_option maxRecDepth 100000 in
theorem pbs51 {G : Gh} (F : Facts G pbI [(-1,[(3,1)]), (-1,[(9,1)]), (0,[(0,1),(4,-1)])] []) (hm : ¬ G.mono) (hT : HooksOk Tryz.prog G (hkT pbT)) : SNOk Tryz.prog G pbP51 := by exact snap_ok progOk F (pbH F hm hT pbN) 100 pbP51 Tryz.func19 rfl pbr51
theorem pbr48 : isSn pbP48 (callN (pbE [] pbI [(0,[(3,-1)]), (-1,[(9,1)]), (0,[(0,1),(4,-1)])]) 100 19 pbP48.args pbP48.h0) = true := by kernel_rfl
set_option maxRecDepth 100000 in
theorem pbs48 {G : Gh} (F : Facts G pbI [(0,[(3,-1)]), (-1,[(9,1)]), (0,[(0,1),(4,-1)])] []) (hm : ¬ G.mono) (hT : HooksOk Tryz.prog G (hkT pbT)) : SNOk Tryz.prog G pbP48 := by exact snap_ok progOk F (pbH F hm hT pbN) 100 pbP48 Tryz.func19 rfl pbr48
theorem pbr52 : isSn pbP52 (callN (pbE [] pbI [(0,[(3,-1)]), (-1,[(9,1)]), (0,[(0,1),(4,-1)])]) 100 19 pbP52.args pbP52.h0) = true := by kernel_rfl
set_option maxRecDepth 100000 in
theorem pbs52 {G : Gh} (F : Facts G pbI [(0,[(3,-1)]), (-1,[(9,1)]), (0,[(0,1),(4,-1)])] []) (hm : ¬ G.mono) (hT : HooksOk Tryz.prog G (hkT pbT)) : SNOk Tryz.prog G pbP52 := by exact snap_ok progOk F (pbH F hm hT pbN) 100 pbP52 Tryz.func19 rfl pbr52
theorem pbr45 : isSn pbP45 (callN (pbE [] pbI [(0,[(9,-1)])]) 100 17 pbP45.args pbP45.h0) = true := by kernel_rfl
set_option maxRecDepth 100000 in
theorem pbs45 {G : Gh} (F : Facts G pbI [(0,[(9,-1)])] []) (hm : ¬ G.mono) (hT : HooksOk Tryz.prog G (hkT pbT)) : SNOk Tryz.prog G pbP45 := by exact snap_ok progOk F (pbH F hm hT pbN) 100 pbP45 Tryz.func17 rfl pbr45
theorem pbr49 : isSn pbP49 (callN (pbE [] pbI [(-1,[(3,1)])]) 100 17 pbP49.args pbP49.h0) = true := by kernel_rfl
set_option maxRecDepth 100000 in
theorem pbs49 {G : Gh} (F : Facts G pbI [(-1,[(3,1)])] []) (hm : ¬ G.mono) (hT : HooksOk Tryz.prog G (hkT pbT)) : SNOk Tryz.prog G pbP49 := by exact snap_ok progOk F (pbH F hm hT pbN) 100 pbP49 Tryz.func17 rfl pbr49
theorem pbr53 : isSn pbP53 (callN (pbE [] pbI [(-1,[(3,1)]), (0,[(9,-1)]), (0,[(0,1),(4,-1)])]) 100 19 pbP53.args pbP53.h0) = true := by kernel_rfl
set_option maxRecDepth 100000 in
theorem pbs53 {G : Gh} (F : Facts G pbI [(-1,[(3,1)]), (0,[(9,-1)]), (0,[(0,1),(4,-1)])] []) (hm : ¬ G.mono) (hT : HooksOk Tryz.prog G (hkT pbT)) : SNOk Tryz.prog G pbP53 := by exact snap_ok progOk F (pbH F hm hT pbN) 100 pbP53 Tryz.func19 rfl pbr53
theorem pbr60 : isSn pbP60 (callN (pbE [] pbI [(-1,[(3,1)]), (0,[(9,-1)]), (0,[(0,1),(4,-1)])]) 100 19 pbP60.args pbP60.h0) = true := by kernel_rfl
set_option maxRecDepth 100000 in
theorem pbs60 {G : Gh} (F : Facts G pbI [(-1,[(3,1)]), (0,[(9,-1)]), (0,[(0,1),(4,-1)])] []) (hm : ¬ G.mono) (hT : HooksOk Tryz.prog G (hkT pbT)) : SNOk Tryz.prog G pbP60 := by exact snap_ok progOk F (pbH F hm hT pbN) 100 pbP60 Tryz.func19 rfl pbr60
theorem pbr50 : isSn pbP50 (callN (pbE [] pbI [(0,[(3,-1)])]) 100 17 pbP50.args pbP50.h0) = true := by kernel_rfl
set_option maxRecDepth 100000 in
theorem pbs50 {G : Gh} (F : Facts G pbI [(0,[(3,-1)])] []) (hm : ¬ G.mono) (hT : HooksOk Tryz.prog G (hkT pbT)) : SNOk Tryz.prog G pbP50 := by exact snap_ok progOk F (pbH F hm hT pbN) 100 pbP50 Tryz.func17 rfl pbr50
theorem pbr54 : isSn pbP54 (callN (pbE [] pbI [(0,[(3,-1)]), (0,[(9,-1)]), (0,[(0,1),(4,-1)])]) 100 19 pbP54.args pbP54.h0) = true := by kernel_rfl
set_option maxRecDepth 100000 in
theorem pbs54 {G : Gh} (F : Facts G pbI [(0,[(3,-1)]), (0,[(9,-1)]), (0,[(0,1),(4,-1)])] []) (hm : ¬ G.mono) (hT : HooksOk Tryz.prog G (hkT pbT)) : SNOk Tryz.prog G pbP54 := by exact snap_ok progOk F (pbH F hm hT pbN) 100 pbP54 Tryz.func19 rfl pbr54
theorem pbr61 : isSn pbP61 (callN (pbE [] pbI [(0,[(3,-1)]), (0,[(9,-1)]), (0,[(0,1),(4,-1)])]) 100 19 pbP61.args pbP61.h0) = true := by kernel_rfl
set_option maxRecDepth 100000 in
theorem pbs61 {G : Gh} (F : Facts G pbI [(0,[(3,-1)]), (0,[(9,-1)]), (0,[(0,1),(4,-1)])] []) (hm : ¬ G.mono) (hT : HooksOk Tryz.prog G (hkT pbT)) : SNOk Tryz.prog G pbP61 := by exact snap_ok progOk F (pbH F hm hT pbN) 100 pbP61 Tryz.func19 rfl pbr61
theorem pbr56 : isSn pbP56 (callN (pbE [] pbI [(-1,[(3,1)]), (-1,[(9,1)]), (0,[(0,1),(5,-1)])]) 100 19 pbP56.args pbP56.h0) = true := by kernel_rfl
set_option maxRecDepth 100000 in
theorem pbs56 {G : Gh} (F : Facts G pbI [(-1,[(3,1)]), (-1,[(9,1)]), (0,[(0,1),(5,-1)])] []) (hm : ¬ G.mono) (hT : HooksOk Tryz.prog G (hkT pbT)) : SNOk Tryz.prog G pbP56 := by exact snap_ok progOk F (pbH F hm hT pbN) 100 pbP56 Tryz.func19 rfl pbr56
theorem pbr63 : isSn pbP63 (callN (pbE [] pbI [(-1,[(3,1)]), (-1,[(9,1)]), (0,[(0,1),(5,-1)])]) 100 19 pbP63.args pbP63.h0) = true := by kernel_rfl
set_option maxRecDepth 100000 in
theorem pbs63 {G : Gh} (F : Facts G pbI [(-1,[(3,1)]), (-1,[(9,1)]), (0,[(0,1),(5,-1)])] []) (hm : ¬ G.mono) (hT : HooksOk Tryz.prog G (hkT pbT)) : SNOk Tryz.prog G pbP63 := by exact snap_ok progOk F (pbH F hm hT pbN) 100 pbP63 Tryz.func19 rfl pbr63
theorem pbr57 : isSn pbP57 (callN (pbE [] pbI [(0,[(3,-1)]), (-1,[(9,1)]), (0,[(0,1),(5,-1)])]) 100 19 pbP57.args pbP57.h0) = true := by kernel_rfl
set_option maxRecDepth 100000 in
theorem pbs57 {G : Gh} (F : Facts G pbI [(0,[(3,-1)]), (-1,[(9,1)]), (0,[(0,1),(5,-1)])] []) (hm : ¬ G.mono) (hT : HooksOk Tryz.prog G (hkT pbT)) : SNOk Tryz.prog G pbP57 := by exact snap_ok progOk F (pbH F hm hT pbN) 100 pbP57 Tryz.func19 rfl pbr57
theorem pbr64 : isSn pbP64 (callN (pbE [] pbI [(0,[(3,-1)]), (-1,[(9,1)]), (0,[(0,1),(5,-1)])]) 100 19 pbP64.args pbP64.h0) = true := by kernel_rfl
set_option maxRecDepth 100000 in
theorem pbs64 {G : Gh} (F : Facts G pbI [(0,[(3,-1)]), (-1,[(9,1)]), (0,[(0,1),(5,-1)])] []) (hm : ¬ G.mono) (hT : HooksOk Tryz.prog G (hkT pbT)) : SNOk Tryz.prog G pbP64 := by exact snap_ok progOk F (pbH F hm hT pbN) 100 pbP64 Tryz.func19 rfl pbr64
theorem pbr58 : isSn pbP58 (callN (pbE [] pbI [(-1,[(3,1)]), (0,[(9,-1)]), (0,[(0,1),(5,-1)])]) 100 19 pbP58.args pbP58.h0) = true := by kernel_rfl
set_option maxRecDepth 100000 in
theorem pbs58 {G : Gh} (F : Facts G pbI [(-1,[(3,1)]), (0,[(9,-1)]), (0,[(0,1),(5,-1)])] []) (hm : ¬ G.mono) (hT : HooksOk Tryz.prog G (hkT pbT)) : SNOk Tryz.prog G pbP58 := by exact snap_ok progOk F (pbH F hm hT pbN) 100 pbP58 Tryz.func19 rfl pbr58
theorem pbr66 : isSn pbP66 (callN (pbE [] pbI [(-1,[(3,1)]), (0,[(9,-1)]), (0,[(0,1),(5,-1)])]) 100 19 pbP66.args pbP66.h0) = true := by kernel_rfl
set_option maxRecDepth 100000 in
theorem pbs66 {G : Gh} (F : Facts G pbI [(-1,[(3,1)]), (0,[(9,-1)]), (0,[(0,1),(5,-1)])] []) (hm : ¬ G.mono) (hT : HooksOk Tryz.prog G (hkT pbT)) : SNOk Tryz.prog G pbP66 := by exact snap_ok progOk F (pbH F hm hT pbN) 100 pbP66 Tryz.func19 rfl pbr66
theorem pbr59 : isSn pbP59 (callN (pbE [] pbI [(0,[(3,-1)]), (0,[(9,-1)]), (0,[(0,1),(5,-1)])]) 100 19 pbP59.args pbP59.h0) = true := by kernel_rfl
set_option maxRecDepth 100000 in
theorem pbs59 {G : Gh} (F : Facts G pbI [(0,[(3,-1)]), (0,[(9,-1)]), (0,[(0,1),(5,-1)])] []) (hm : ¬ G.mono) (hT : HooksOk Tryz.prog G (hkT pbT)) : SNOk Tryz.prog G pbP59 := by exact snap_ok progOk F (pbH F hm hT pbN) 100 pbP59 Tryz.func19 rfl pbr59
theorem pbr65 : isSn pbP65 (callN (pbE [] pbI [(0,[(3,-1)]), (0,[(9,-1)]), (0,[(0,1),(5,-1)])]) 100 19 pbP65.args pbP65.h0) = true := by kernel_rfl
set_option maxRecDepth 100000 in
theorem pbs65 {G : Gh} (F : Facts G pbI [(0,[(3,-1)]), (0,[(9,-1)]), (0,[(0,1),(5,-1)])] []) (hm : ¬ G.mono) (hT : HooksOk Tryz.prog G (hkT pbT)) : SNOk Tryz.prog G pbP65 := by exact snap_ok progOk F (pbH F hm hT pbN) 100 pbP65 Tryz.func19 rfl pbr65
theorem pbr55 : isSn pbP55 (callN (pbE [] pbI []) 100 17 pbP55.args pbP55.h0) = true := by kernel_rfl
set_option maxRecDepth 100000 in
theorem pbs55 {G : Gh} (F : Facts G pbI [] []) (hm : ¬ G.mono) (hT : HooksOk Tryz.prog G (hkT pbT)) : SNOk Tryz.prog G pbP55 := by exact snap_ok progOk F (pbH F hm hT pbN) 100 pbP55 Tryz.func17 rfl pbr55
end Go.Proofs.YtkhckfpflfkjmaaGreat
