/- complinelaw23.PartBlocked: runs, part 3. -/
import Derived.Test.YtkhckfpflfkjmaaGreatPbQ
namespace Go.Proofs.YtkhckfpflfkjmaaGreat
open Go Go.RowKit Gv Gv.Lt
theorem pbr62 : isSn pbP62 (callN (pbE [] pbI []) 100 17 pbP62.args pbP62.h0) = true := by kernel_rfl
set_option maxRecDepth 100000 in
theorem pbs62 {G : Gh} (F : Facts G pbI [] []) (hm : ¬ G.mono) (hT : HooksOk Tryz.prog G (hkT pbT)) : SNOk Tryz.prog G pbP62 := by exact snap_ok progOk F (pbH F hm hT pbN) 100 pbP62 Tryz.func17 rfl pbr62
theorem pbr67 : isSn pbP67 (callN (pbE [] pbI [(-1,[(9,1)])]) 100 17 pbP67.args pbP67.h0) = true := by kernel_rfl
set_option maxRecDepth 100000 in
theorem pbs67 {G : Gh} (F : Facts G pbI [(-1,[(9,1)])] []) (hm : ¬ G.mono) (hT : HooksOk Tryz.prog G (hkT pbT)) : SNOk Tryz.prog G pbP67 := by exact snap_ok progOk F (pbH F hm hT pbN) 100 pbP67 Tryz.func17 rfl pbr67
theorem pbr69 : isSn pbP69 (callN (pbE [] pbI [(-1,[(3,1)])]) 100 17 pbP69.args pbP69.h0) = true := by kernel_rfl
set_option maxRecDepth 100000 in
theorem pbs69 {G : Gh} (F : Facts G pbI [(-1,[(3,1)])] []) (hm : ¬ G.mono) (hT : HooksOk Tryz.prog G (hkT pbT)) : SNOk Tryz.prog G pbP69 := by exact snap_ok progOk F (pbH F hm hT pbN) 100 pbP69 Tryz.func17 rfl pbr69
theorem pbr74 : isSn pbP74 (callN (pbE [] pbI [(-1,[(3,1)]), (-1,[(9,1)])]) 100 19 pbP74.args pbP74.h0) = true := by kernel_rfl
set_option maxRecDepth 100000 in
theorem pbs74 {G : Gh} (F : Facts G pbI [(-1,[(3,1)]), (-1,[(9,1)])] []) (hm : ¬ G.mono) (hT : HooksOk Tryz.prog G (hkT pbT)) : SNOk Tryz.prog G pbP74 := by exact snap_ok progOk F (pbH F hm hT pbN) 100 pbP74 Tryz.func19 rfl pbr74
theorem pbr86 : isSn pbP86 (callN (pbE [] pbI [(-1,[(3,1)]), (-1,[(9,1)])]) 100 19 pbP86.args pbP86.h0) = true := by kernel_rfl
set_option maxRecDepth 100000 in
theorem pbs86 {G : Gh} (F : Facts G pbI [(-1,[(3,1)]), (-1,[(9,1)])] []) (hm : ¬ G.mono) (hT : HooksOk Tryz.prog G (hkT pbT)) : SNOk Tryz.prog G pbP86 := by exact snap_ok progOk F (pbH F hm hT pbN) 100 pbP86 Tryz.func19 rfl pbr86
theorem pbr70 : isSn pbP70 (callN (pbE [] pbI [(0,[(3,-1)])]) 100 17 pbP70.args pbP70.h0) = true := by kernel_rfl
set_option maxRecDepth 100000 in
theorem pbs70 {G : Gh} (F : Facts G pbI [(0,[(3,-1)])] []) (hm : ¬ G.mono) (hT : HooksOk Tryz.prog G (hkT pbT)) : SNOk Tryz.prog G pbP70 := by exact snap_ok progOk F (pbH F hm hT pbN) 100 pbP70 Tryz.func17 rfl pbr70
theorem pbr73 : isSn pbP73 (callN (pbE [] pbI [(0,[(3,-1)]), (-1,[(9,1)])]) 100 19 pbP73.args pbP73.h0) = true := by kernel_rfl
set_option maxRecDepth 100000 in
theorem pbs73 {G : Gh} (F : Facts G pbI [(0,[(3,-1)]), (-1,[(9,1)])] []) (hm : ¬ G.mono) (hT : HooksOk Tryz.prog G (hkT pbT)) : SNOk Tryz.prog G pbP73 := by exact snap_ok progOk F (pbH F hm hT pbN) 100 pbP73 Tryz.func19 rfl pbr73
theorem pbr85 : isSn pbP85 (callN (pbE [] pbI [(0,[(3,-1)]), (-1,[(9,1)])]) 100 19 pbP85.args pbP85.h0) = true := by kernel_rfl
set_option maxRecDepth 100000 in
theorem pbs85 {G : Gh} (F : Facts G pbI [(0,[(3,-1)]), (-1,[(9,1)])] []) (hm : ¬ G.mono) (hT : HooksOk Tryz.prog G (hkT pbT)) : SNOk Tryz.prog G pbP85 := by exact snap_ok progOk F (pbH F hm hT pbN) 100 pbP85 Tryz.func19 rfl pbr85
theorem pbr68 : isSn pbP68 (callN (pbE [] pbI [(0,[(9,-1)])]) 100 17 pbP68.args pbP68.h0) = true := by kernel_rfl
set_option maxRecDepth 100000 in
theorem pbs68 {G : Gh} (F : Facts G pbI [(0,[(9,-1)])] []) (hm : ¬ G.mono) (hT : HooksOk Tryz.prog G (hkT pbT)) : SNOk Tryz.prog G pbP68 := by exact snap_ok progOk F (pbH F hm hT pbN) 100 pbP68 Tryz.func17 rfl pbr68
theorem pbr71 : isSn pbP71 (callN (pbE [] pbI [(-1,[(3,1)])]) 100 17 pbP71.args pbP71.h0) = true := by kernel_rfl
set_option maxRecDepth 100000 in
theorem pbs71 {G : Gh} (F : Facts G pbI [(-1,[(3,1)])] []) (hm : ¬ G.mono) (hT : HooksOk Tryz.prog G (hkT pbT)) : SNOk Tryz.prog G pbP71 := by exact snap_ok progOk F (pbH F hm hT pbN) 100 pbP71 Tryz.func17 rfl pbr71
theorem pbr78 : isSn pbP78 (callN (pbE [] pbI [(-1,[(3,1)]), (0,[(9,-1)])]) 100 19 pbP78.args pbP78.h0) = true := by kernel_rfl
set_option maxRecDepth 100000 in
theorem pbs78 {G : Gh} (F : Facts G pbI [(-1,[(3,1)]), (0,[(9,-1)])] []) (hm : ¬ G.mono) (hT : HooksOk Tryz.prog G (hkT pbT)) : SNOk Tryz.prog G pbP78 := by exact snap_ok progOk F (pbH F hm hT pbN) 100 pbP78 Tryz.func19 rfl pbr78
theorem pbr90 : isSn pbP90 (callN (pbE [] pbI [(-1,[(3,1)]), (0,[(9,-1)])]) 100 19 pbP90.args pbP90.h0) = true := by kernel_rfl
set_option maxRecDepth 100000 in
theorem pbs90 {G : Gh} (F : Facts G pbI [(-1,[(3,1)]), (0,[(9,-1)])] []) (hm : ¬ G.mono) (hT : HooksOk Tryz.prog G (hkT pbT)) : SNOk Tryz.prog G pbP90 := by exact snap_ok progOk F (pbH F hm hT pbN) 100 pbP90 Tryz.func19 rfl pbr90
theorem pbr72 : isSn pbP72 (callN (pbE [] pbI [(0,[(3,-1)])]) 100 17 pbP72.args pbP72.h0) = true := by kernel_rfl
set_option maxRecDepth 100000 in
theorem pbs72 {G : Gh} (F : Facts G pbI [(0,[(3,-1)])] []) (hm : ¬ G.mono) (hT : HooksOk Tryz.prog G (hkT pbT)) : SNOk Tryz.prog G pbP72 := by exact snap_ok progOk F (pbH F hm hT pbN) 100 pbP72 Tryz.func17 rfl pbr72
theorem pbr79 : isSn pbP79 (callN (pbE [] pbI [(0,[(3,-1)]), (0,[(9,-1)])]) 100 19 pbP79.args pbP79.h0) = true := by kernel_rfl
set_option maxRecDepth 100000 in
theorem pbs79 {G : Gh} (F : Facts G pbI [(0,[(3,-1)]), (0,[(9,-1)])] []) (hm : ¬ G.mono) (hT : HooksOk Tryz.prog G (hkT pbT)) : SNOk Tryz.prog G pbP79 := by exact snap_ok progOk F (pbH F hm hT pbN) 100 pbP79 Tryz.func19 rfl pbr79
theorem pbr91 : isSn pbP91 (callN (pbE [] pbI [(0,[(3,-1)]), (0,[(9,-1)])]) 100 19 pbP91.args pbP91.h0) = true := by kernel_rfl
set_option maxRecDepth 100000 in
theorem pbs91 {G : Gh} (F : Facts G pbI [(0,[(3,-1)]), (0,[(9,-1)])] []) (hm : ¬ G.mono) (hT : HooksOk Tryz.prog G (hkT pbT)) : SNOk Tryz.prog G pbP91 := by exact snap_ok progOk F (pbH F hm hT pbN) 100 pbP91 Tryz.func19 rfl pbr91
theorem pbr76 : isSn pbP76 (callN (pbE [] pbI [(-1,[(3,1)]), (-1,[(9,1)])]) 100 19 pbP76.args pbP76.h0) = true := by kernel_rfl
set_option maxRecDepth 100000 in
theorem pbs76 {G : Gh} (F : Facts G pbI [(-1,[(3,1)]), (-1,[(9,1)])] []) (hm : ¬ G.mono) (hT : HooksOk Tryz.prog G (hkT pbT)) : SNOk Tryz.prog G pbP76 := by exact snap_ok progOk F (pbH F hm hT pbN) 100 pbP76 Tryz.func19 rfl pbr76
theorem pbr88 : isSn pbP88 (callN (pbE [] pbI [(-1,[(3,1)]), (-1,[(9,1)])]) 100 19 pbP88.args pbP88.h0) = true := by kernel_rfl
set_option maxRecDepth 100000 in
theorem pbs88 {G : Gh} (F : Facts G pbI [(-1,[(3,1)]), (-1,[(9,1)])] []) (hm : ¬ G.mono) (hT : HooksOk Tryz.prog G (hkT pbT)) : SNOk Tryz.prog G pbP88 := by exact snap_ok progOk F (pbH F hm hT pbN) 100 pbP88 Tryz.func19 rfl pbr88
theorem pbr75 : isSn pbP75 (callN (pbE [] pbI [(0,[(3,-1)]), (-1,[(9,1)])]) 100 19 pbP75.args pbP75.h0) = true := by kernel_rfl
set_option maxRecDepth 100000 in
theorem pbs75 {G : Gh} (F : Facts G pbI [(0,[(3,-1)]), (-1,[(9,1)])] []) (hm : ¬ G.mono) (hT : HooksOk Tryz.prog G (hkT pbT)) : SNOk Tryz.prog G pbP75 := by exact snap_ok progOk F (pbH F hm hT pbN) 100 pbP75 Tryz.func19 rfl pbr75
theorem pbr87 : isSn pbP87 (callN (pbE [] pbI [(0,[(3,-1)]), (-1,[(9,1)])]) 100 19 pbP87.args pbP87.h0) = true := by kernel_rfl
set_option maxRecDepth 100000 in
theorem pbs87 {G : Gh} (F : Facts G pbI [(0,[(3,-1)]), (-1,[(9,1)])] []) (hm : ¬ G.mono) (hT : HooksOk Tryz.prog G (hkT pbT)) : SNOk Tryz.prog G pbP87 := by exact snap_ok progOk F (pbH F hm hT pbN) 100 pbP87 Tryz.func19 rfl pbr87
theorem pbr77 : isSn pbP77 (callN (pbE [] pbI [(-1,[(3,1)]), (0,[(9,-1)])]) 100 19 pbP77.args pbP77.h0) = true := by kernel_rfl
set_option maxRecDepth 100000 in
theorem pbs77 {G : Gh} (F : Facts G pbI [(-1,[(3,1)]), (0,[(9,-1)])] []) (hm : ¬ G.mono) (hT : HooksOk Tryz.prog G (hkT pbT)) : SNOk Tryz.prog G pbP77 := by exact snap_ok progOk F (pbH F hm hT pbN) 100 pbP77 Tryz.func19 rfl pbr77
theorem pbr89 : isSn pbP89 (callN (pbE [] pbI [(-1,[(3,1)]), (0,[(9,-1)])]) 100 19 pbP89.args pbP89.h0) = true := by kernel_rfl
set_option maxRecDepth 100000 in
theorem pbs89 {G : Gh} (F : Facts G pbI [(-1,[(3,1)]), (0,[(9,-1)])] []) (hm : ¬ G.mono) (hT : HooksOk Tryz.prog G (hkT pbT)) : SNOk Tryz.prog G pbP89 := by exact snap_ok progOk F (pbH F hm hT pbN) 100 pbP89 Tryz.func19 rfl pbr89
theorem pbr80 : isSn pbP80 (callN (pbE [] pbI [(0,[(3,-1)]), (0,[(9,-1)])]) 100 19 pbP80.args pbP80.h0) = true := by kernel_rfl
set_option maxRecDepth 100000 in
theorem pbs80 {G : Gh} (F : Facts G pbI [(0,[(3,-1)]), (0,[(9,-1)])] []) (hm : ¬ G.mono) (hT : HooksOk Tryz.prog G (hkT pbT)) : SNOk Tryz.prog G pbP80 := by exact snap_ok progOk F (pbH F hm hT pbN) 100 pbP80 Tryz.func19 rfl pbr80
theorem pbr92 : isSn pbP92 (callN (pbE [] pbI [(0,[(3,-1)]), (0,[(9,-1)])]) 100 19 pbP92.args pbP92.h0) = true := by kernel_rfl
set_option maxRecDepth 100000 in
theorem pbs92 {G : Gh} (F : Facts G pbI [(0,[(3,-1)]), (0,[(9,-1)])] []) (hm : ¬ G.mono) (hT : HooksOk Tryz.prog G (hkT pbT)) : SNOk Tryz.prog G pbP92 := by exact snap_ok progOk F (pbH F hm hT pbN) 100 pbP92 Tryz.func19 rfl pbr92
theorem pbr81 : isSn pbP81 (callN (pbE [] pbI [(-1,[(3,1)]), (-1,[(9,1)])]) 100 19 pbP81.args pbP81.h0) = true := by kernel_rfl
set_option maxRecDepth 100000 in
theorem pbs81 {G : Gh} (F : Facts G pbI [(-1,[(3,1)]), (-1,[(9,1)])] []) (hm : ¬ G.mono) (hT : HooksOk Tryz.prog G (hkT pbT)) : SNOk Tryz.prog G pbP81 := by exact snap_ok progOk F (pbH F hm hT pbN) 100 pbP81 Tryz.func19 rfl pbr81
theorem pbr93 : isSn pbP93 (callN (pbE [] pbI [(-1,[(3,1)]), (-1,[(9,1)])]) 100 19 pbP93.args pbP93.h0) = true := by kernel_rfl
set_option maxRecDepth 100000 in
theorem pbs93 {G : Gh} (F : Facts G pbI [(-1,[(3,1)]), (-1,[(9,1)])] []) (hm : ¬ G.mono) (hT : HooksOk Tryz.prog G (hkT pbT)) : SNOk Tryz.prog G pbP93 := by exact snap_ok progOk F (pbH F hm hT pbN) 100 pbP93 Tryz.func19 rfl pbr93
theorem pbr82 : isSn pbP82 (callN (pbE [] pbI [(0,[(3,-1)]), (-1,[(9,1)])]) 100 19 pbP82.args pbP82.h0) = true := by kernel_rfl
set_option maxRecDepth 100000 in
theorem pbs82 {G : Gh} (F : Facts G pbI [(0,[(3,-1)]), (-1,[(9,1)])] []) (hm : ¬ G.mono) (hT : HooksOk Tryz.prog G (hkT pbT)) : SNOk Tryz.prog G pbP82 := by exact snap_ok progOk F (pbH F hm hT pbN) 100 pbP82 Tryz.func19 rfl pbr82
theorem pbr94 : isSn pbP94 (callN (pbE [] pbI [(0,[(3,-1)]), (-1,[(9,1)])]) 100 19 pbP94.args pbP94.h0) = true := by kernel_rfl
set_option maxRecDepth 100000 in
theorem pbs94 {G : Gh} (F : Facts G pbI [(0,[(3,-1)]), (-1,[(9,1)])] []) (hm : ¬ G.mono) (hT : HooksOk Tryz.prog G (hkT pbT)) : SNOk Tryz.prog G pbP94 := by exact snap_ok progOk F (pbH F hm hT pbN) 100 pbP94 Tryz.func19 rfl pbr94
theorem pbr83 : isSn pbP83 (callN (pbE [] pbI [(-1,[(3,1)]), (0,[(9,-1)])]) 100 19 pbP83.args pbP83.h0) = true := by kernel_rfl
set_option maxRecDepth 100000 in
theorem pbs83 {G : Gh} (F : Facts G pbI [(-1,[(3,1)]), (0,[(9,-1)])] []) (hm : ¬ G.mono) (hT : HooksOk Tryz.prog G (hkT pbT)) : SNOk Tryz.prog G pbP83 := by exact snap_ok progOk F (pbH F hm hT pbN) 100 pbP83 Tryz.func19 rfl pbr83
theorem pbr95 : isSn pbP95 (callN (pbE [] pbI [(-1,[(3,1)]), (0,[(9,-1)])]) 100 19 pbP95.args pbP95.h0) = true := by kernel_rfl
set_option maxRecDepth 100000 in
theorem pbs95 {G : Gh} (F : Facts G pbI [(-1,[(3,1)]), (0,[(9,-1)])] []) (hm : ¬ G.mono) (hT : HooksOk Tryz.prog G (hkT pbT)) : SNOk Tryz.prog G pbP95 := by exact snap_ok progOk F (pbH F hm hT pbN) 100 pbP95 Tryz.func19 rfl pbr95
end Go.Proofs.YtkhckfpflfkjmaaGreat
