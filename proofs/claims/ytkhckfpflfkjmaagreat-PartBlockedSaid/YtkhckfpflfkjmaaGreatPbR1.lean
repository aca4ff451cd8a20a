/- complinelaw23.PartBlocked: runs, part 1. -/
import Derived.Test.YtkhckfpflfkjmaaGreatPbQ
namespace Go.Proofs.YtkhckfpflfkjmaaGreat
open Go Go.RowKit Gv Gv.Lt
theorem pbr10 : isSn pbP10 (callN (pbE [] pbI [(-1,[(3,1)])]) 100 17 pbP10.args pbP10.h0) = true := by kernel_rfl
set_option maxRecDepth 100000 in
theorem pbs10 {G : Gh} (F : Facts G pbI [(-1,[(3,1)])] []) (hm : ¬ G.mono) (hT : HooksOk Tryz.prog G (hkT pbT)) : SNOk Tryz.prog G pbP10 := by exact snap_ok progOk F (pbH F hm hT pbN) 100 pbP10 Tryz.func17 rfl pbr10
theorem pbr14 : isSn pbP14 (callN (pbE [] pbI [(-1,[(3,1)]), (-1,[(2,1)]), (-1,[(3,1)]), (0,[(4,1),(2,-1)]), (0,[(8,1),(2,-1)]), (0,[(2,1),(8,-1)]), (0,[(0,1),(4,-1)])]) 100 19 pbP14.args pbP14.h0) = true := by kernel_rfl
set_option maxRecDepth 100000 in
theorem pbs14 {G : Gh} (F : Facts G pbI [(-1,[(3,1)]), (-1,[(2,1)]), (-1,[(3,1)]), (0,[(4,1),(2,-1)]), (0,[(8,1),(2,-1)]), (0,[(2,1),(8,-1)]), (0,[(0,1),(4,-1)])] []) (hm : ¬ G.mono) (hT : HooksOk Tryz.prog G (hkT pbT)) : SNOk Tryz.prog G pbP14 := by exact snap_ok progOk F (pbH F hm hT pbN) 100 pbP14 Tryz.func19 rfl pbr14
theorem pbr20 : isSn pbP20 (callN (pbE [] pbI [(-1,[(3,1)]), (-1,[(2,1)]), (-1,[(3,1)]), (0,[(4,1),(2,-1)]), (0,[(8,1),(2,-1)]), (0,[(2,1),(8,-1)]), (0,[(0,1),(4,-1)])]) 100 19 pbP20.args pbP20.h0) = true := by kernel_rfl
set_option maxRecDepth 100000 in
theorem pbs20 {G : Gh} (F : Facts G pbI [(-1,[(3,1)]), (-1,[(2,1)]), (-1,[(3,1)]), (0,[(4,1),(2,-1)]), (0,[(8,1),(2,-1)]), (0,[(2,1),(8,-1)]), (0,[(0,1),(4,-1)])] []) (hm : ¬ G.mono) (hT : HooksOk Tryz.prog G (hkT pbT)) : SNOk Tryz.prog G pbP20 := by exact snap_ok progOk F (pbH F hm hT pbN) 100 pbP20 Tryz.func19 rfl pbr20
theorem pbr7 : isSn pbP7 (callN (pbE [] pbI [(0,[(2,-1)])]) 100 17 pbP7.args pbP7.h0) = true := by kernel_rfl
set_option maxRecDepth 100000 in
theorem pbs7 {G : Gh} (F : Facts G pbI [(0,[(2,-1)])] []) (hm : ¬ G.mono) (hT : HooksOk Tryz.prog G (hkT pbT)) : SNOk Tryz.prog G pbP7 := by exact snap_ok progOk F (pbH F hm hT pbN) 100 pbP7 Tryz.func17 rfl pbr7
theorem pbr11 : isSn pbP11 (callN (pbE [] pbI [(-1,[(3,1)])]) 100 17 pbP11.args pbP11.h0) = true := by kernel_rfl
set_option maxRecDepth 100000 in
theorem pbs11 {G : Gh} (F : Facts G pbI [(-1,[(3,1)])] []) (hm : ¬ G.mono) (hT : HooksOk Tryz.prog G (hkT pbT)) : SNOk Tryz.prog G pbP11 := by exact snap_ok progOk F (pbH F hm hT pbN) 100 pbP11 Tryz.func17 rfl pbr11
theorem pbr15 : isSn pbP15 (callN (pbE [] pbI [(-1,[(3,1)]), (0,[(2,-1)]), (-1,[(3,1)]), (0,[(4,1),(2,-1)]), (0,[(8,1),(2,-1)]), (0,[(2,1),(8,-1)]), (0,[(0,1),(4,-1)])]) 100 19 pbP15.args pbP15.h0) = true := by kernel_rfl
set_option maxRecDepth 100000 in
theorem pbs15 {G : Gh} (F : Facts G pbI [(-1,[(3,1)]), (0,[(2,-1)]), (-1,[(3,1)]), (0,[(4,1),(2,-1)]), (0,[(8,1),(2,-1)]), (0,[(2,1),(8,-1)]), (0,[(0,1),(4,-1)])] []) (hm : ¬ G.mono) (hT : HooksOk Tryz.prog G (hkT pbT)) : SNOk Tryz.prog G pbP15 := by exact snap_ok progOk F (pbH F hm hT pbN) 100 pbP15 Tryz.func19 rfl pbr15
theorem pbr21 : isSn pbP21 (callN (pbE [] pbI [(-1,[(3,1)]), (0,[(2,-1)]), (-1,[(3,1)]), (0,[(4,1),(2,-1)]), (0,[(8,1),(2,-1)]), (0,[(2,1),(8,-1)]), (0,[(0,1),(4,-1)])]) 100 19 pbP21.args pbP21.h0) = true := by kernel_rfl
set_option maxRecDepth 100000 in
theorem pbs21 {G : Gh} (F : Facts G pbI [(-1,[(3,1)]), (0,[(2,-1)]), (-1,[(3,1)]), (0,[(4,1),(2,-1)]), (0,[(8,1),(2,-1)]), (0,[(2,1),(8,-1)]), (0,[(0,1),(4,-1)])] []) (hm : ¬ G.mono) (hT : HooksOk Tryz.prog G (hkT pbT)) : SNOk Tryz.prog G pbP21 := by exact snap_ok progOk F (pbH F hm hT pbN) 100 pbP21 Tryz.func19 rfl pbr21
theorem pbr24 : isSn pbP24 (callN (pbE [] pbI [(0,[(3,-1)])]) 100 17 pbP24.args pbP24.h0) = true := by kernel_rfl
set_option maxRecDepth 100000 in
theorem pbs24 {G : Gh} (F : Facts G pbI [(0,[(3,-1)])] []) (hm : ¬ G.mono) (hT : HooksOk Tryz.prog G (hkT pbT)) : SNOk Tryz.prog G pbP24 := by exact snap_ok progOk F (pbH F hm hT pbN) 100 pbP24 Tryz.func17 rfl pbr24
theorem pbr27 : isSn pbP27 (callN (pbE [] pbI [(0,[(2,-1),(5,1)]), (0,[(3,-1)]), (-1,[(2,1)]), (0,[(3,-1)]), (0,[(4,1),(5,-1)]), (0,[(5,1),(4,-1)]), (0,[(4,1),(2,-1)]), (0,[(8,1),(2,-1)]), (0,[(2,1),(8,-1)]), (0,[(0,1),(4,-1)])]) 100 19 pbP27.args pbP27.h0) = true := by kernel_rfl
set_option maxRecDepth 100000 in
theorem pbs27 {G : Gh} (F : Facts G pbI [(0,[(2,-1),(5,1)]), (0,[(3,-1)]), (-1,[(2,1)]), (0,[(3,-1)]), (0,[(4,1),(5,-1)]), (0,[(5,1),(4,-1)]), (0,[(4,1),(2,-1)]), (0,[(8,1),(2,-1)]), (0,[(2,1),(8,-1)]), (0,[(0,1),(4,-1)])] []) (hm : ¬ G.mono) (hT : HooksOk Tryz.prog G (hkT pbT)) : SNOk Tryz.prog G pbP27 := by exact snap_ok progOk F (pbH F hm hT pbN) 100 pbP27 Tryz.func19 rfl pbr27
theorem pbr31 : isSn pbP31 (callN (pbE [] pbI [(0,[(2,-1),(5,1)]), (0,[(3,-1)]), (-1,[(2,1)]), (0,[(3,-1)]), (0,[(4,1),(5,-1)]), (0,[(5,1),(4,-1)]), (0,[(4,1),(2,-1)]), (0,[(8,1),(2,-1)]), (0,[(2,1),(8,-1)]), (0,[(0,1),(4,-1)])]) 100 19 pbP31.args pbP31.h0) = true := by kernel_rfl
set_option maxRecDepth 100000 in
theorem pbs31 {G : Gh} (F : Facts G pbI [(0,[(2,-1),(5,1)]), (0,[(3,-1)]), (-1,[(2,1)]), (0,[(3,-1)]), (0,[(4,1),(5,-1)]), (0,[(5,1),(4,-1)]), (0,[(4,1),(2,-1)]), (0,[(8,1),(2,-1)]), (0,[(2,1),(8,-1)]), (0,[(0,1),(4,-1)])] []) (hm : ¬ G.mono) (hT : HooksOk Tryz.prog G (hkT pbT)) : SNOk Tryz.prog G pbP31 := by exact snap_ok progOk F (pbH F hm hT pbN) 100 pbP31 Tryz.func19 rfl pbr31
theorem pbr25 : isSn pbP25 (callN (pbE [] pbI [(0,[(3,-1)])]) 100 17 pbP25.args pbP25.h0) = true := by kernel_rfl
set_option maxRecDepth 100000 in
theorem pbs25 {G : Gh} (F : Facts G pbI [(0,[(3,-1)])] []) (hm : ¬ G.mono) (hT : HooksOk Tryz.prog G (hkT pbT)) : SNOk Tryz.prog G pbP25 := by exact snap_ok progOk F (pbH F hm hT pbN) 100 pbP25 Tryz.func17 rfl pbr25
theorem pbr26 : isSn pbP26 (callN (pbE [] pbI [(0,[(3,-1)]), (0,[(2,-1)]), (0,[(3,-1)]), (0,[(4,1),(5,-1)]), (0,[(5,1),(4,-1)]), (0,[(4,1),(2,-1)]), (0,[(8,1),(2,-1)]), (0,[(2,1),(8,-1)]), (0,[(0,1),(4,-1)])]) 100 19 pbP26.args pbP26.h0) = true := by kernel_rfl
set_option maxRecDepth 100000 in
theorem pbs26 {G : Gh} (F : Facts G pbI [(0,[(3,-1)]), (0,[(2,-1)]), (0,[(3,-1)]), (0,[(4,1),(5,-1)]), (0,[(5,1),(4,-1)]), (0,[(4,1),(2,-1)]), (0,[(8,1),(2,-1)]), (0,[(2,1),(8,-1)]), (0,[(0,1),(4,-1)])] []) (hm : ¬ G.mono) (hT : HooksOk Tryz.prog G (hkT pbT)) : SNOk Tryz.prog G pbP26 := by exact snap_ok progOk F (pbH F hm hT pbN) 100 pbP26 Tryz.func19 rfl pbr26
theorem pbr28 : isSn pbP28 (callN (pbE [] pbI [(0,[(3,-1)]), (0,[(2,-1)]), (0,[(3,-1)]), (0,[(4,1),(5,-1)]), (0,[(5,1),(4,-1)]), (0,[(4,1),(2,-1)]), (0,[(8,1),(2,-1)]), (0,[(2,1),(8,-1)]), (0,[(0,1),(4,-1)])]) 100 19 pbP28.args pbP28.h0) = true := by kernel_rfl
set_option maxRecDepth 100000 in
theorem pbs28 {G : Gh} (F : Facts G pbI [(0,[(3,-1)]), (0,[(2,-1)]), (0,[(3,-1)]), (0,[(4,1),(5,-1)]), (0,[(5,1),(4,-1)]), (0,[(4,1),(2,-1)]), (0,[(8,1),(2,-1)]), (0,[(2,1),(8,-1)]), (0,[(0,1),(4,-1)])] []) (hm : ¬ G.mono) (hT : HooksOk Tryz.prog G (hkT pbT)) : SNOk Tryz.prog G pbP28 := by exact snap_ok progOk F (pbH F hm hT pbN) 100 pbP28 Tryz.func19 rfl pbr28
theorem pbr29 : isSn pbP29 (callN (pbE [] pbI [(-1,[(5,1)]), (-1,[(3,1)]), (-1,[(9,1)]), (-1,[(9,1),(5,-1)]), (0,[(8,1),(5,-1)]), (0,[(5,1),(8,-1)]), (0,[(0,1),(5,-1)])]) 100 19 pbP29.args pbP29.h0) = true := by kernel_rfl
set_option maxRecDepth 100000 in
theorem pbs29 {G : Gh} (F : Facts G pbI [(-1,[(5,1)]), (-1,[(3,1)]), (-1,[(9,1)]), (-1,[(9,1),(5,-1)]), (0,[(8,1),(5,-1)]), (0,[(5,1),(8,-1)]), (0,[(0,1),(5,-1)])] []) (hm : ¬ G.mono) (hT : HooksOk Tryz.prog G (hkT pbT)) : SNOk Tryz.prog G pbP29 := by exact snap_ok progOk F (pbH F hm hT pbN) 100 pbP29 Tryz.func19 rfl pbr29
theorem pbr35 : isSn pbP35 (callN (pbE [] pbI [(-1,[(5,1)]), (-1,[(3,1)]), (-1,[(9,1)]), (-1,[(9,1),(5,-1)]), (0,[(8,1),(5,-1)]), (0,[(5,1),(8,-1)]), (0,[(0,1),(5,-1)])]) 100 19 pbP35.args pbP35.h0) = true := by kernel_rfl
set_option maxRecDepth 100000 in
theorem pbs35 {G : Gh} (F : Facts G pbI [(-1,[(5,1)]), (-1,[(3,1)]), (-1,[(9,1)]), (-1,[(9,1),(5,-1)]), (0,[(8,1),(5,-1)]), (0,[(5,1),(8,-1)]), (0,[(0,1),(5,-1)])] []) (hm : ¬ G.mono) (hT : HooksOk Tryz.prog G (hkT pbT)) : SNOk Tryz.prog G pbP35 := by exact snap_ok progOk F (pbH F hm hT pbN) 100 pbP35 Tryz.func19 rfl pbr35
theorem pbr30 : isSn pbP30 (callN (pbE [] pbI [(0,[(5,-1)]), (-1,[(3,1)]), (-1,[(9,1)]), (-1,[(9,1),(5,-1)]), (0,[(8,1),(5,-1)]), (0,[(5,1),(8,-1)]), (0,[(0,1),(5,-1)])]) 100 19 pbP30.args pbP30.h0) = true := by kernel_rfl
set_option maxRecDepth 100000 in
theorem pbs30 {G : Gh} (F : Facts G pbI [(0,[(5,-1)]), (-1,[(3,1)]), (-1,[(9,1)]), (-1,[(9,1),(5,-1)]), (0,[(8,1),(5,-1)]), (0,[(5,1),(8,-1)]), (0,[(0,1),(5,-1)])] []) (hm : ¬ G.mono) (hT : HooksOk Tryz.prog G (hkT pbT)) : SNOk Tryz.prog G pbP30 := by exact snap_ok progOk F (pbH F hm hT pbN) 100 pbP30 Tryz.func19 rfl pbr30
theorem pbr34 : isSn pbP34 (callN (pbE [] pbI [(0,[(5,-1)]), (-1,[(3,1)]), (-1,[(9,1)]), (-1,[(9,1),(5,-1)]), (0,[(8,1),(5,-1)]), (0,[(5,1),(8,-1)]), (0,[(0,1),(5,-1)])]) 100 19 pbP34.args pbP34.h0) = true := by kernel_rfl
set_option maxRecDepth 100000 in
theorem pbs34 {G : Gh} (F : Facts G pbI [(0,[(5,-1)]), (-1,[(3,1)]), (-1,[(9,1)]), (-1,[(9,1),(5,-1)]), (0,[(8,1),(5,-1)]), (0,[(5,1),(8,-1)]), (0,[(0,1),(5,-1)])] []) (hm : ¬ G.mono) (hT : HooksOk Tryz.prog G (hkT pbT)) : SNOk Tryz.prog G pbP34 := by exact snap_ok progOk F (pbH F hm hT pbN) 100 pbP34 Tryz.func19 rfl pbr34
theorem pbr32 : isSn pbP32 (callN (pbE [] pbI [(-1,[(5,1)]), (0,[(3,-1)]), (-1,[(9,1)]), (-1,[(9,1),(5,-1)]), (0,[(8,1),(5,-1)]), (0,[(5,1),(8,-1)]), (0,[(0,1),(5,-1)])]) 100 19 pbP32.args pbP32.h0) = true := by kernel_rfl
set_option maxRecDepth 100000 in
theorem pbs32 {G : Gh} (F : Facts G pbI [(-1,[(5,1)]), (0,[(3,-1)]), (-1,[(9,1)]), (-1,[(9,1),(5,-1)]), (0,[(8,1),(5,-1)]), (0,[(5,1),(8,-1)]), (0,[(0,1),(5,-1)])] []) (hm : ¬ G.mono) (hT : HooksOk Tryz.prog G (hkT pbT)) : SNOk Tryz.prog G pbP32 := by exact snap_ok progOk F (pbH F hm hT pbN) 100 pbP32 Tryz.func19 rfl pbr32
theorem pbr37 : isSn pbP37 (callN (pbE [] pbI [(-1,[(5,1)]), (0,[(3,-1)]), (-1,[(9,1)]), (-1,[(9,1),(5,-1)]), (0,[(8,1),(5,-1)]), (0,[(5,1),(8,-1)]), (0,[(0,1),(5,-1)])]) 100 19 pbP37.args pbP37.h0) = true := by kernel_rfl
set_option maxRecDepth 100000 in
theorem pbs37 {G : Gh} (F : Facts G pbI [(-1,[(5,1)]), (0,[(3,-1)]), (-1,[(9,1)]), (-1,[(9,1),(5,-1)]), (0,[(8,1),(5,-1)]), (0,[(5,1),(8,-1)]), (0,[(0,1),(5,-1)])] []) (hm : ¬ G.mono) (hT : HooksOk Tryz.prog G (hkT pbT)) : SNOk Tryz.prog G pbP37 := by exact snap_ok progOk F (pbH F hm hT pbN) 100 pbP37 Tryz.func19 rfl pbr37
theorem pbr33 : isSn pbP33 (callN (pbE [] pbI [(0,[(5,-1)]), (0,[(3,-1)]), (-1,[(9,1)]), (-1,[(9,1),(5,-1)]), (0,[(8,1),(5,-1)]), (0,[(5,1),(8,-1)]), (0,[(0,1),(5,-1)])]) 100 19 pbP33.args pbP33.h0) = true := by kernel_rfl
set_option maxRecDepth 100000 in
theorem pbs33 {G : Gh} (F : Facts G pbI [(0,[(5,-1)]), (0,[(3,-1)]), (-1,[(9,1)]), (-1,[(9,1),(5,-1)]), (0,[(8,1),(5,-1)]), (0,[(5,1),(8,-1)]), (0,[(0,1),(5,-1)])] []) (hm : ¬ G.mono) (hT : HooksOk Tryz.prog G (hkT pbT)) : SNOk Tryz.prog G pbP33 := by exact snap_ok progOk F (pbH F hm hT pbN) 100 pbP33 Tryz.func19 rfl pbr33
theorem pbr36 : isSn pbP36 (callN (pbE [] pbI [(0,[(5,-1)]), (0,[(3,-1)]), (-1,[(9,1)]), (-1,[(9,1),(5,-1)]), (0,[(8,1),(5,-1)]), (0,[(5,1),(8,-1)]), (0,[(0,1),(5,-1)])]) 100 19 pbP36.args pbP36.h0) = true := by kernel_rfl
set_option maxRecDepth 100000 in
theorem pbs36 {G : Gh} (F : Facts G pbI [(0,[(5,-1)]), (0,[(3,-1)]), (-1,[(9,1)]), (-1,[(9,1),(5,-1)]), (0,[(8,1),(5,-1)]), (0,[(5,1),(8,-1)]), (0,[(0,1),(5,-1)])] []) (hm : ¬ G.mono) (hT : HooksOk Tryz.prog G (hkT pbT)) : SNOk Tryz.prog G pbP36 := by exact snap_ok progOk F (pbH F hm hT pbN) 100 pbP36 Tryz.func19 rfl pbr36
theorem pbr39 : isSn pbP39 (callN (pbE [] pbI [(-1,[(3,1)]), (-1,[(2,1)]), (0,[(5,1),(2,-1)]), (0,[(8,1),(2,-1)]), (0,[(2,1),(8,-1)]), (0,[(0,1),(5,-1)])]) 100 19 pbP39.args pbP39.h0) = true := by kernel_rfl
set_option maxRecDepth 100000 in
theorem pbs39 {G : Gh} (F : Facts G pbI [(-1,[(3,1)]), (-1,[(2,1)]), (0,[(5,1),(2,-1)]), (0,[(8,1),(2,-1)]), (0,[(2,1),(8,-1)]), (0,[(0,1),(5,-1)])] []) (hm : ¬ G.mono) (hT : HooksOk Tryz.prog G (hkT pbT)) : SNOk Tryz.prog G pbP39 := by exact snap_ok progOk F (pbH F hm hT pbN) 100 pbP39 Tryz.func19 rfl pbr39
theorem pbr43 : isSn pbP43 (callN (pbE [] pbI [(-1,[(3,1)]), (-1,[(2,1)]), (0,[(5,1),(2,-1)]), (0,[(8,1),(2,-1)]), (0,[(2,1),(8,-1)]), (0,[(0,1),(5,-1)])]) 100 19 pbP43.args pbP43.h0) = true := by kernel_rfl
set_option maxRecDepth 100000 in
theorem pbs43 {G : Gh} (F : Facts G pbI [(-1,[(3,1)]), (-1,[(2,1)]), (0,[(5,1),(2,-1)]), (0,[(8,1),(2,-1)]), (0,[(2,1),(8,-1)]), (0,[(0,1),(5,-1)])] []) (hm : ¬ G.mono) (hT : HooksOk Tryz.prog G (hkT pbT)) : SNOk Tryz.prog G pbP43 := by exact snap_ok progOk F (pbH F hm hT pbN) 100 pbP43 Tryz.func19 rfl pbr43
theorem pbr38 : isSn pbP38 (callN (pbE [] pbI [(0,[(3,-1)]), (-1,[(2,1)]), (0,[(5,1),(2,-1)]), (0,[(8,1),(2,-1)]), (0,[(2,1),(8,-1)]), (0,[(0,1),(5,-1)])]) 100 19 pbP38.args pbP38.h0) = true := by kernel_rfl
set_option maxRecDepth 100000 in
theorem pbs38 {G : Gh} (F : Facts G pbI [(0,[(3,-1)]), (-1,[(2,1)]), (0,[(5,1),(2,-1)]), (0,[(8,1),(2,-1)]), (0,[(2,1),(8,-1)]), (0,[(0,1),(5,-1)])] []) (hm : ¬ G.mono) (hT : HooksOk Tryz.prog G (hkT pbT)) : SNOk Tryz.prog G pbP38 := by exact snap_ok progOk F (pbH F hm hT pbN) 100 pbP38 Tryz.func19 rfl pbr38
theorem pbr42 : isSn pbP42 (callN (pbE [] pbI [(0,[(3,-1)]), (-1,[(2,1)]), (0,[(5,1),(2,-1)]), (0,[(8,1),(2,-1)]), (0,[(2,1),(8,-1)]), (0,[(0,1),(5,-1)])]) 100 19 pbP42.args pbP42.h0) = true := by kernel_rfl
set_option maxRecDepth 100000 in
theorem pbs42 {G : Gh} (F : Facts G pbI [(0,[(3,-1)]), (-1,[(2,1)]), (0,[(5,1),(2,-1)]), (0,[(8,1),(2,-1)]), (0,[(2,1),(8,-1)]), (0,[(0,1),(5,-1)])] []) (hm : ¬ G.mono) (hT : HooksOk Tryz.prog G (hkT pbT)) : SNOk Tryz.prog G pbP42 := by exact snap_ok progOk F (pbH F hm hT pbN) 100 pbP42 Tryz.func19 rfl pbr42
end Go.Proofs.YtkhckfpflfkjmaaGreat
