/- complinelaw23.PartBlocked: runs, part 0. -/
import Derived.Test.YtkhckfpflfkjmaaGreatPbQ
namespace Go.Proofs.YtkhckfpflfkjmaaGreat
open Go Go.RowKit Gv Gv.Lt
theorem pbr0 : isSn pbP0 (callN (pbE [] pbI []) 100 12 pbP0.args pbP0.h0) = true := by kernel_rfl
set_option maxRecDepth 100000 in
theorem pbs0 {G : Gh} (F : Facts G pbI [] []) (hm : ¬ G.mono) (hT : HooksOk Tryz.prog G (hkT pbT)) : SNOk Tryz.prog G pbP0 := by exact snap_ok progOk F (pbH F hm hT pbN) 100 pbP0 Tryz.func12 rfl pbr0
theorem pbr1 : isSn pbP1 (callN (pbE [] pbI []) 100 17 pbP1.args pbP1.h0) = true := by kernel_rfl
set_option maxRecDepth 100000 in
theorem pbs1 {G : Gh} (F : Facts G pbI [] []) (hm : ¬ G.mono) (hT : HooksOk Tryz.prog G (hkT pbT)) : SNOk Tryz.prog G pbP1 := by exact snap_ok progOk F (pbH F hm hT pbN) 100 pbP1 Tryz.func17 rfl pbr1
theorem pbr3 : isSn pbP3 (callN (pbE [] pbI []) 100 17 pbP3.args pbP3.h0) = true := by kernel_rfl
set_option maxRecDepth 100000 in
theorem pbs3 {G : Gh} (F : Facts G pbI [] []) (hm : ¬ G.mono) (hT : HooksOk Tryz.prog G (hkT pbT)) : SNOk Tryz.prog G pbP3 := by exact snap_ok progOk F (pbH F hm hT pbN) 100 pbP3 Tryz.func17 rfl pbr3
theorem pbr5 : isSn pbP5 (callN (pbE [] pbI [(-1,[(9,1)])]) 100 17 pbP5.args pbP5.h0) = true := by kernel_rfl
set_option maxRecDepth 100000 in
theorem pbs5 {G : Gh} (F : Facts G pbI [(-1,[(9,1)])] []) (hm : ¬ G.mono) (hT : HooksOk Tryz.prog G (hkT pbT)) : SNOk Tryz.prog G pbP5 := by exact snap_ok progOk F (pbH F hm hT pbN) 100 pbP5 Tryz.func17 rfl pbr5
theorem pbr8 : isSn pbP8 (callN (pbE [] pbI [(-1,[(3,1)])]) 100 17 pbP8.args pbP8.h0) = true := by kernel_rfl
set_option maxRecDepth 100000 in
theorem pbs8 {G : Gh} (F : Facts G pbI [(-1,[(3,1)])] []) (hm : ¬ G.mono) (hT : HooksOk Tryz.prog G (hkT pbT)) : SNOk Tryz.prog G pbP8 := by exact snap_ok progOk F (pbH F hm hT pbN) 100 pbP8 Tryz.func17 rfl pbr8
theorem pbr12 : isSn pbP12 (callN (pbE [] pbI [(-1,[(4,1)]), (-1,[(3,1)]), (-1,[(9,1)]), (-1,[(3,1)]), (-1,[(9,1),(4,-1)]), (0,[(8,1),(4,-1)]), (0,[(4,1),(8,-1)]), (0,[(0,1),(4,-1)])]) 100 19 pbP12.args pbP12.h0) = true := by kernel_rfl
set_option maxRecDepth 100000 in
theorem pbs12 {G : Gh} (F : Facts G pbI [(-1,[(4,1)]), (-1,[(3,1)]), (-1,[(9,1)]), (-1,[(3,1)]), (-1,[(9,1),(4,-1)]), (0,[(8,1),(4,-1)]), (0,[(4,1),(8,-1)]), (0,[(0,1),(4,-1)])] []) (hm : ¬ G.mono) (hT : HooksOk Tryz.prog G (hkT pbT)) : SNOk Tryz.prog G pbP12 := by exact snap_ok progOk F (pbH F hm hT pbN) 100 pbP12 Tryz.func19 rfl pbr12
theorem pbr16 : isSn pbP16 (callN (pbE [] pbI [(-1,[(4,1)]), (-1,[(3,1)]), (-1,[(9,1)]), (-1,[(3,1)]), (-1,[(9,1),(4,-1)]), (0,[(8,1),(4,-1)]), (0,[(4,1),(8,-1)]), (0,[(0,1),(4,-1)])]) 100 19 pbP16.args pbP16.h0) = true := by kernel_rfl
set_option maxRecDepth 100000 in
theorem pbs16 {G : Gh} (F : Facts G pbI [(-1,[(4,1)]), (-1,[(3,1)]), (-1,[(9,1)]), (-1,[(3,1)]), (-1,[(9,1),(4,-1)]), (0,[(8,1),(4,-1)]), (0,[(4,1),(8,-1)]), (0,[(0,1),(4,-1)])] []) (hm : ¬ G.mono) (hT : HooksOk Tryz.prog G (hkT pbT)) : SNOk Tryz.prog G pbP16 := by exact snap_ok progOk F (pbH F hm hT pbN) 100 pbP16 Tryz.func19 rfl pbr16
theorem pbr13 : isSn pbP13 (callN (pbE [] pbI [(0,[(4,-1)]), (-1,[(3,1)]), (-1,[(9,1)]), (-1,[(3,1)]), (-1,[(9,1),(4,-1)]), (0,[(8,1),(4,-1)]), (0,[(4,1),(8,-1)]), (0,[(0,1),(4,-1)])]) 100 19 pbP13.args pbP13.h0) = true := by kernel_rfl
set_option maxRecDepth 100000 in
theorem pbs13 {G : Gh} (F : Facts G pbI [(0,[(4,-1)]), (-1,[(3,1)]), (-1,[(9,1)]), (-1,[(3,1)]), (-1,[(9,1),(4,-1)]), (0,[(8,1),(4,-1)]), (0,[(4,1),(8,-1)]), (0,[(0,1),(4,-1)])] []) (hm : ¬ G.mono) (hT : HooksOk Tryz.prog G (hkT pbT)) : SNOk Tryz.prog G pbP13 := by exact snap_ok progOk F (pbH F hm hT pbN) 100 pbP13 Tryz.func19 rfl pbr13
theorem pbr17 : isSn pbP17 (callN (pbE [] pbI [(0,[(4,-1)]), (-1,[(3,1)]), (-1,[(9,1)]), (-1,[(3,1)]), (-1,[(9,1),(4,-1)]), (0,[(8,1),(4,-1)]), (0,[(4,1),(8,-1)]), (0,[(0,1),(4,-1)])]) 100 19 pbP17.args pbP17.h0) = true := by kernel_rfl
set_option maxRecDepth 100000 in
theorem pbs17 {G : Gh} (F : Facts G pbI [(0,[(4,-1)]), (-1,[(3,1)]), (-1,[(9,1)]), (-1,[(3,1)]), (-1,[(9,1),(4,-1)]), (0,[(8,1),(4,-1)]), (0,[(4,1),(8,-1)]), (0,[(0,1),(4,-1)])] []) (hm : ¬ G.mono) (hT : HooksOk Tryz.prog G (hkT pbT)) : SNOk Tryz.prog G pbP17 := by exact snap_ok progOk F (pbH F hm hT pbN) 100 pbP17 Tryz.func19 rfl pbr17
theorem pbr9 : isSn pbP9 (callN (pbE [] pbI [(0,[(3,-1)])]) 100 17 pbP9.args pbP9.h0) = true := by kernel_rfl
set_option maxRecDepth 100000 in
theorem pbs9 {G : Gh} (F : Facts G pbI [(0,[(3,-1)])] []) (hm : ¬ G.mono) (hT : HooksOk Tryz.prog G (hkT pbT)) : SNOk Tryz.prog G pbP9 := by exact snap_ok progOk F (pbH F hm hT pbN) 100 pbP9 Tryz.func17 rfl pbr9
theorem pbr18 : isSn pbP18 (callN (pbE [] pbI [(-1,[(5,1)]), (-1,[(9,1),(5,-1)]), (0,[(3,-1)]), (-1,[(9,1)]), (0,[(3,-1)]), (0,[(4,1),(5,-1)]), (0,[(5,1),(4,-1)]), (-1,[(9,1),(4,-1)]), (0,[(8,1),(4,-1)]), (0,[(4,1),(8,-1)]), (0,[(0,1),(4,-1)])]) 100 19 pbP18.args pbP18.h0) = true := by kernel_rfl
set_option maxRecDepth 100000 in
theorem pbs18 {G : Gh} (F : Facts G pbI [(-1,[(5,1)]), (-1,[(9,1),(5,-1)]), (0,[(3,-1)]), (-1,[(9,1)]), (0,[(3,-1)]), (0,[(4,1),(5,-1)]), (0,[(5,1),(4,-1)]), (-1,[(9,1),(4,-1)]), (0,[(8,1),(4,-1)]), (0,[(4,1),(8,-1)]), (0,[(0,1),(4,-1)])] []) (hm : ¬ G.mono) (hT : HooksOk Tryz.prog G (hkT pbT)) : SNOk Tryz.prog G pbP18 := by exact snap_ok progOk F (pbH F hm hT pbN) 100 pbP18 Tryz.func19 rfl pbr18
theorem pbr22 : isSn pbP22 (callN (pbE [] pbI [(-1,[(5,1)]), (-1,[(9,1),(5,-1)]), (0,[(3,-1)]), (-1,[(9,1)]), (0,[(3,-1)]), (0,[(4,1),(5,-1)]), (0,[(5,1),(4,-1)]), (-1,[(9,1),(4,-1)]), (0,[(8,1),(4,-1)]), (0,[(4,1),(8,-1)]), (0,[(0,1),(4,-1)])]) 100 19 pbP22.args pbP22.h0) = true := by kernel_rfl
set_option maxRecDepth 100000 in
theorem pbs22 {G : Gh} (F : Facts G pbI [(-1,[(5,1)]), (-1,[(9,1),(5,-1)]), (0,[(3,-1)]), (-1,[(9,1)]), (0,[(3,-1)]), (0,[(4,1),(5,-1)]), (0,[(5,1),(4,-1)]), (-1,[(9,1),(4,-1)]), (0,[(8,1),(4,-1)]), (0,[(4,1),(8,-1)]), (0,[(0,1),(4,-1)])] []) (hm : ¬ G.mono) (hT : HooksOk Tryz.prog G (hkT pbT)) : SNOk Tryz.prog G pbP22 := by exact snap_ok progOk F (pbH F hm hT pbN) 100 pbP22 Tryz.func19 rfl pbr22
theorem pbr19 : isSn pbP19 (callN (pbE [] pbI [(0,[(5,-1)]), (-1,[(9,1),(5,-1)]), (0,[(3,-1)]), (-1,[(9,1)]), (0,[(3,-1)]), (0,[(4,1),(5,-1)]), (0,[(5,1),(4,-1)]), (-1,[(9,1),(4,-1)]), (0,[(8,1),(4,-1)]), (0,[(4,1),(8,-1)]), (0,[(0,1),(4,-1)])]) 100 19 pbP19.args pbP19.h0) = true := by kernel_rfl
set_option maxRecDepth 100000 in
theorem pbs19 {G : Gh} (F : Facts G pbI [(0,[(5,-1)]), (-1,[(9,1),(5,-1)]), (0,[(3,-1)]), (-1,[(9,1)]), (0,[(3,-1)]), (0,[(4,1),(5,-1)]), (0,[(5,1),(4,-1)]), (-1,[(9,1),(4,-1)]), (0,[(8,1),(4,-1)]), (0,[(4,1),(8,-1)]), (0,[(0,1),(4,-1)])] []) (hm : ¬ G.mono) (hT : HooksOk Tryz.prog G (hkT pbT)) : SNOk Tryz.prog G pbP19 := by exact snap_ok progOk F (pbH F hm hT pbN) 100 pbP19 Tryz.func19 rfl pbr19
theorem pbr23 : isSn pbP23 (callN (pbE [] pbI [(0,[(5,-1)]), (-1,[(9,1),(5,-1)]), (0,[(3,-1)]), (-1,[(9,1)]), (0,[(3,-1)]), (0,[(4,1),(5,-1)]), (0,[(5,1),(4,-1)]), (-1,[(9,1),(4,-1)]), (0,[(8,1),(4,-1)]), (0,[(4,1),(8,-1)]), (0,[(0,1),(4,-1)])]) 100 19 pbP23.args pbP23.h0) = true := by kernel_rfl
set_option maxRecDepth 100000 in
theorem pbs23 {G : Gh} (F : Facts G pbI [(0,[(5,-1)]), (-1,[(9,1),(5,-1)]), (0,[(3,-1)]), (-1,[(9,1)]), (0,[(3,-1)]), (0,[(4,1),(5,-1)]), (0,[(5,1),(4,-1)]), (-1,[(9,1),(4,-1)]), (0,[(8,1),(4,-1)]), (0,[(4,1),(8,-1)]), (0,[(0,1),(4,-1)])] []) (hm : ¬ G.mono) (hT : HooksOk Tryz.prog G (hkT pbT)) : SNOk Tryz.prog G pbP23 := by exact snap_ok progOk F (pbH F hm hT pbN) 100 pbP23 Tryz.func19 rfl pbr23
theorem pbr2 : isSn pbP2 (callN (pbE [] pbI []) 100 17 pbP2.args pbP2.h0) = true := by kernel_rfl
set_option maxRecDepth 100000 in
theorem pbs2 {G : Gh} (F : Facts G pbI [] []) (hm : ¬ G.mono) (hT : HooksOk Tryz.prog G (hkT pbT)) : SNOk Tryz.prog G pbP2 := by exact snap_ok progOk F (pbH F hm hT pbN) 100 pbP2 Tryz.func17 rfl pbr2
theorem pbr4 : isSn pbP4 (callN (pbE [] pbI []) 100 17 pbP4.args pbP4.h0) = true := by kernel_rfl
set_option maxRecDepth 100000 in
theorem pbs4 {G : Gh} (F : Facts G pbI [] []) (hm : ¬ G.mono) (hT : HooksOk Tryz.prog G (hkT pbT)) : SNOk Tryz.prog G pbP4 := by exact snap_ok progOk F (pbH F hm hT pbN) 100 pbP4 Tryz.func17 rfl pbr4
theorem pbr6 : isSn pbP6 (callN (pbE [] pbI [(-1,[(2,1)])]) 100 17 pbP6.args pbP6.h0) = true := by kernel_rfl
set_option maxRecDepth 100000 in
theorem pbs6 {G : Gh} (F : Facts G pbI [(-1,[(2,1)])] []) (hm : ¬ G.mono) (hT : HooksOk Tryz.prog G (hkT pbT)) : SNOk Tryz.prog G pbP6 := by exact snap_ok progOk F (pbH F hm hT pbN) 100 pbP6 Tryz.func17 rfl pbr6
end Go.Proofs.YtkhckfpflfkjmaaGreat
