/- complinelaw24.CheckReasons: runs, part 9. -/
import Derived.Test.YtaajobcfbgpfoaaGreatCrQ
namespace Go.Proofs.YtaajobcfbgpfoaaGreat
open Go Go.RowKit Gv Gv.Lt
theorem crr138 : isSn crP138 (callN (crE [] crI [(-1,[(1,1)]), (0,[(0,1),(2,-1)]), (0,[(1,1),(3,-1)])]) 100 8 crP138.args crP138.h0) = true := by kernel_rfl
set_option maxRecDepth 100000 in
theorem crs138 {G : Gh} (F : Facts G crI [(-1,[(1,1)]), (0,[(0,1),(2,-1)]), (0,[(1,1),(3,-1)])] []) (hm : ¬ G.mono) (hT : HooksOk Tryz.prog G (hkT crT)) : SNOk Tryz.prog G crP138 := snap_ok progOk F (crH F hm hT crN) 100 crP138 Tryz.func8 rfl crr138
theorem crr135 : isSn crP135 (callN (crE [] crI [(0,[(1,-1)]), (0,[(0,1),(2,-1)]), (0,[(1,1),(3,-1)])]) 100 13 crP135.args crP135.h0) = true := by kernel_rfl
set_option maxRecDepth 100000 in
theorem crs135 {G : Gh} (F : Facts G crI [(0,[(1,-1)]), (0,[(0,1),(2,-1)]), (0,[(1,1),(3,-1)])] []) (hm : ¬ G.mono) (hT : HooksOk Tryz.prog G (hkT crT)) : SNOk Tryz.prog G crP135 := snap_ok progOk F (crH F hm hT crN) 100 crP135 Tryz.func13 rfl crr135
theorem crr139 : isSn crP139 (callN (crE [] crI [(0,[(1,-1)]), (0,[(0,1),(2,-1)]), (0,[(1,1),(3,-1)])]) 100 8 crP139.args crP139.h0) = true := by kernel_rfl
set_option maxRecDepth 100000 in
theorem crs139 {G : Gh} (F : Facts G crI [(0,[(1,-1)]), (0,[(0,1),(2,-1)]), (0,[(1,1),(3,-1)])] []) (hm : ¬ G.mono) (hT : HooksOk Tryz.prog G (hkT crT)) : SNOk Tryz.prog G crP139 := snap_ok progOk F (crH F hm hT crN) 100 crP139 Tryz.func8 rfl crr139
theorem crr136 : isSn crP136 (callN (crE [] crI [(-1,[(1,1)]), (0,[(0,1),(2,-1)]), (0,[(1,1),(3,-1)])]) 100 13 crP136.args crP136.h0) = true := by kernel_rfl
set_option maxRecDepth 100000 in
theorem crs136 {G : Gh} (F : Facts G crI [(-1,[(1,1)]), (0,[(0,1),(2,-1)]), (0,[(1,1),(3,-1)])] []) (hm : ¬ G.mono) (hT : HooksOk Tryz.prog G (hkT crT)) : SNOk Tryz.prog G crP136 := snap_ok progOk F (crH F hm hT crN) 100 crP136 Tryz.func13 rfl crr136
theorem crr140 : isSn crP140 (callN (crE [] crI [(-1,[(1,1)]), (0,[(0,1),(2,-1)]), (0,[(1,1),(3,-1)])]) 100 8 crP140.args crP140.h0) = true := by kernel_rfl
set_option maxRecDepth 100000 in
theorem crs140 {G : Gh} (F : Facts G crI [(-1,[(1,1)]), (0,[(0,1),(2,-1)]), (0,[(1,1),(3,-1)])] []) (hm : ¬ G.mono) (hT : HooksOk Tryz.prog G (hkT crT)) : SNOk Tryz.prog G crP140 := snap_ok progOk F (crH F hm hT crN) 100 crP140 Tryz.func8 rfl crr140
theorem crr137 : isSn crP137 (callN (crE [] crI [(0,[(1,-1)]), (0,[(0,1),(2,-1)]), (0,[(1,1),(3,-1)])]) 100 13 crP137.args crP137.h0) = true := by kernel_rfl
set_option maxRecDepth 100000 in
theorem crs137 {G : Gh} (F : Facts G crI [(0,[(1,-1)]), (0,[(0,1),(2,-1)]), (0,[(1,1),(3,-1)])] []) (hm : ¬ G.mono) (hT : HooksOk Tryz.prog G (hkT crT)) : SNOk Tryz.prog G crP137 := snap_ok progOk F (crH F hm hT crN) 100 crP137 Tryz.func13 rfl crr137
theorem crr141 : isSn crP141 (callN (crE [] crI [(0,[(1,-1)]), (0,[(0,1),(2,-1)]), (0,[(1,1),(3,-1)])]) 100 8 crP141.args crP141.h0) = true := by kernel_rfl
set_option maxRecDepth 100000 in
theorem crs141 {G : Gh} (F : Facts G crI [(0,[(1,-1)]), (0,[(0,1),(2,-1)]), (0,[(1,1),(3,-1)])] []) (hm : ¬ G.mono) (hT : HooksOk Tryz.prog G (hkT crT)) : SNOk Tryz.prog G crP141 := snap_ok progOk F (crH F hm hT crN) 100 crP141 Tryz.func8 rfl crr141
theorem crr143 : isSn crP143 (callN (crE [] crI [(-1,[(1,1)]), (0,[(0,1),(2,-1)]), (0,[(1,1),(3,-1)])]) 100 13 crP143.args crP143.h0) = true := by kernel_rfl
set_option maxRecDepth 100000 in
theorem crs143 {G : Gh} (F : Facts G crI [(-1,[(1,1)]), (0,[(0,1),(2,-1)]), (0,[(1,1),(3,-1)])] []) (hm : ¬ G.mono) (hT : HooksOk Tryz.prog G (hkT crT)) : SNOk Tryz.prog G crP143 := snap_ok progOk F (crH F hm hT crN) 100 crP143 Tryz.func13 rfl crr143
theorem crr147 : isSn crP147 (callN (crE [] crI [(-1,[(1,1)]), (0,[(0,1),(2,-1)]), (0,[(1,1),(3,-1)])]) 100 8 crP147.args crP147.h0) = true := by kernel_rfl
set_option maxRecDepth 100000 in
theorem crs147 {G : Gh} (F : Facts G crI [(-1,[(1,1)]), (0,[(0,1),(2,-1)]), (0,[(1,1),(3,-1)])] []) (hm : ¬ G.mono) (hT : HooksOk Tryz.prog G (hkT crT)) : SNOk Tryz.prog G crP147 := snap_ok progOk F (crH F hm hT crN) 100 crP147 Tryz.func8 rfl crr147
theorem crr142 : isSn crP142 (callN (crE [] crI [(0,[(1,-1)]), (0,[(0,1),(2,-1)]), (0,[(1,1),(3,-1)])]) 100 13 crP142.args crP142.h0) = true := by kernel_rfl
set_option maxRecDepth 100000 in
theorem crs142 {G : Gh} (F : Facts G crI [(0,[(1,-1)]), (0,[(0,1),(2,-1)]), (0,[(1,1),(3,-1)])] []) (hm : ¬ G.mono) (hT : HooksOk Tryz.prog G (hkT crT)) : SNOk Tryz.prog G crP142 := snap_ok progOk F (crH F hm hT crN) 100 crP142 Tryz.func13 rfl crr142
theorem crr146 : isSn crP146 (callN (crE [] crI [(0,[(1,-1)]), (0,[(0,1),(2,-1)]), (0,[(1,1),(3,-1)])]) 100 8 crP146.args crP146.h0) = true := by kernel_rfl
set_option maxRecDepth 100000 in
theorem crs146 {G : Gh} (F : Facts G crI [(0,[(1,-1)]), (0,[(0,1),(2,-1)]), (0,[(1,1),(3,-1)])] []) (hm : ¬ G.mono) (hT : HooksOk Tryz.prog G (hkT crT)) : SNOk Tryz.prog G crP146 := snap_ok progOk F (crH F hm hT crN) 100 crP146 Tryz.func8 rfl crr146
theorem crr144 : isSn crP144 (callN (crE [] crI [(-1,[(1,1)]), (0,[(0,1),(2,-1)]), (0,[(1,1),(3,-1)])]) 100 13 crP144.args crP144.h0) = true := by kernel_rfl
set_option maxRecDepth 100000 in
theorem crs144 {G : Gh} (F : Facts G crI [(-1,[(1,1)]), (0,[(0,1),(2,-1)]), (0,[(1,1),(3,-1)])] []) (hm : ¬ G.mono) (hT : HooksOk Tryz.prog G (hkT crT)) : SNOk Tryz.prog G crP144 := snap_ok progOk F (crH F hm hT crN) 100 crP144 Tryz.func13 rfl crr144
theorem crr148 : isSn crP148 (callN (crE [] crI [(-1,[(1,1)]), (0,[(0,1),(2,-1)]), (0,[(1,1),(3,-1)])]) 100 8 crP148.args crP148.h0) = true := by kernel_rfl
set_option maxRecDepth 100000 in
theorem crs148 {G : Gh} (F : Facts G crI [(-1,[(1,1)]), (0,[(0,1),(2,-1)]), (0,[(1,1),(3,-1)])] []) (hm : ¬ G.mono) (hT : HooksOk Tryz.prog G (hkT crT)) : SNOk Tryz.prog G crP148 := snap_ok progOk F (crH F hm hT crN) 100 crP148 Tryz.func8 rfl crr148
theorem crr145 : isSn crP145 (callN (crE [] crI [(0,[(1,-1)]), (0,[(0,1),(2,-1)]), (0,[(1,1),(3,-1)])]) 100 13 crP145.args crP145.h0) = true := by kernel_rfl
set_option maxRecDepth 100000 in
theorem crs145 {G : Gh} (F : Facts G crI [(0,[(1,-1)]), (0,[(0,1),(2,-1)]), (0,[(1,1),(3,-1)])] []) (hm : ¬ G.mono) (hT : HooksOk Tryz.prog G (hkT crT)) : SNOk Tryz.prog G crP145 := snap_ok progOk F (crH F hm hT crN) 100 crP145 Tryz.func13 rfl crr145
theorem crr149 : isSn crP149 (callN (crE [] crI [(0,[(1,-1)]), (0,[(0,1),(2,-1)]), (0,[(1,1),(3,-1)])]) 100 8 crP149.args crP149.h0) = true := by kernel_rfl
set_option maxRecDepth 100000 in
theorem crs149 {G : Gh} (F : Facts G crI [(0,[(1,-1)]), (0,[(0,1),(2,-1)]), (0,[(1,1),(3,-1)])] []) (hm : ¬ G.mono) (hT : HooksOk Tryz.prog G (hkT crT)) : SNOk Tryz.prog G crP149 := snap_ok progOk F (crH F hm hT crN) 100 crP149 Tryz.func8 rfl crr149
theorem crr150 : isSn crP150 (callN (crE [] crI [(-1,[(1,1)]), (0,[(0,1),(2,-1)]), (0,[(1,1),(3,-1)])]) 100 13 crP150.args crP150.h0) = true := by kernel_rfl
set_option maxRecDepth 100000 in
theorem crs150 {G : Gh} (F : Facts G crI [(-1,[(1,1)]), (0,[(0,1),(2,-1)]), (0,[(1,1),(3,-1)])] []) (hm : ¬ G.mono) (hT : HooksOk Tryz.prog G (hkT crT)) : SNOk Tryz.prog G crP150 := snap_ok progOk F (crH F hm hT crN) 100 crP150 Tryz.func13 rfl crr150
theorem crr154 : isSn crP154 (callN (crE [] crI [(-1,[(1,1)]), (0,[(0,1),(2,-1)]), (0,[(1,1),(3,-1)])]) 100 8 crP154.args crP154.h0) = true := by kernel_rfl
set_option maxRecDepth 100000 in
theorem crs154 {G : Gh} (F : Facts G crI [(-1,[(1,1)]), (0,[(0,1),(2,-1)]), (0,[(1,1),(3,-1)])] []) (hm : ¬ G.mono) (hT : HooksOk Tryz.prog G (hkT crT)) : SNOk Tryz.prog G crP154 := snap_ok progOk F (crH F hm hT crN) 100 crP154 Tryz.func8 rfl crr154
theorem crr151 : isSn crP151 (callN (crE [] crI [(0,[(1,-1)]), (0,[(0,1),(2,-1)]), (0,[(1,1),(3,-1)])]) 100 13 crP151.args crP151.h0) = true := by kernel_rfl
set_option maxRecDepth 100000 in
theorem crs151 {G : Gh} (F : Facts G crI [(0,[(1,-1)]), (0,[(0,1),(2,-1)]), (0,[(1,1),(3,-1)])] []) (hm : ¬ G.mono) (hT : HooksOk Tryz.prog G (hkT crT)) : SNOk Tryz.prog G crP151 := snap_ok progOk F (crH F hm hT crN) 100 crP151 Tryz.func13 rfl crr151
theorem crr155 : isSn crP155 (callN (crE [] crI [(0,[(1,-1)]), (0,[(0,1),(2,-1)]), (0,[(1,1),(3,-1)])]) 100 8 crP155.args crP155.h0) = true := by kernel_rfl
set_option maxRecDepth 100000 in
theorem crs155 {G : Gh} (F : Facts G crI [(0,[(1,-1)]), (0,[(0,1),(2,-1)]), (0,[(1,1),(3,-1)])] []) (hm : ¬ G.mono) (hT : HooksOk Tryz.prog G (hkT crT)) : SNOk Tryz.prog G crP155 := snap_ok progOk F (crH F hm hT crN) 100 crP155 Tryz.func8 rfl crr155
theorem crr152 : isSn crP152 (callN (crE [] crI [(-1,[(1,1)]), (0,[(0,1),(2,-1)]), (0,[(1,1),(3,-1)])]) 100 13 crP152.args crP152.h0) = true := by kernel_rfl
set_option maxRecDepth 100000 in
theorem crs152 {G : Gh} (F : Facts G crI [(-1,[(1,1)]), (0,[(0,1),(2,-1)]), (0,[(1,1),(3,-1)])] []) (hm : ¬ G.mono) (hT : HooksOk Tryz.prog G (hkT crT)) : SNOk Tryz.prog G crP152 := snap_ok progOk F (crH F hm hT crN) 100 crP152 Tryz.func13 rfl crr152
theorem crr156 : isSn crP156 (callN (crE [] crI [(-1,[(1,1)]), (0,[(0,1),(2,-1)]), (0,[(1,1),(3,-1)])]) 100 8 crP156.args crP156.h0) = true := by kernel_rfl
set_option maxRecDepth 100000 in
theorem crs156 {G : Gh} (F : Facts G crI [(-1,[(1,1)]), (0,[(0,1),(2,-1)]), (0,[(1,1),(3,-1)])] []) (hm : ¬ G.mono) (hT : HooksOk Tryz.prog G (hkT crT)) : SNOk Tryz.prog G crP156 := snap_ok progOk F (crH F hm hT crN) 100 crP156 Tryz.func8 rfl crr156
theorem crr153 : isSn crP153 (callN (crE [] crI [(0,[(1,-1)]), (0,[(0,1),(2,-1)]), (0,[(1,1),(3,-1)])]) 100 13 crP153.args crP153.h0) = true := by kernel_rfl
set_option maxRecDepth 100000 in
theorem crs153 {G : Gh} (F : Facts G crI [(0,[(1,-1)]), (0,[(0,1),(2,-1)]), (0,[(1,1),(3,-1)])] []) (hm : ¬ G.mono) (hT : HooksOk Tryz.prog G (hkT crT)) : SNOk Tryz.prog G crP153 := snap_ok progOk F (crH F hm hT crN) 100 crP153 Tryz.func13 rfl crr153
theorem crr157 : isSn crP157 (callN (crE [] crI [(0,[(1,-1)]), (0,[(0,1),(2,-1)]), (0,[(1,1),(3,-1)])]) 100 8 crP157.args crP157.h0) = true := by kernel_rfl
set_option maxRecDepth 100000 in
theorem crs157 {G : Gh} (F : Facts G crI [(0,[(1,-1)]), (0,[(0,1),(2,-1)]), (0,[(1,1),(3,-1)])] []) (hm : ¬ G.mono) (hT : HooksOk Tryz.prog G (hkT crT)) : SNOk Tryz.prog G crP157 := snap_ok progOk F (crH F hm hT crN) 100 crP157 Tryz.func8 rfl crr157
theorem crr158 : isSn crP158 (callN (crE [] crI [(-1,[(1,1)]), (0,[(0,1),(2,-1)]), (0,[(1,1),(3,-1)])]) 100 13 crP158.args crP158.h0) = true := by kernel_rfl
set_option maxRecDepth 100000 in
theorem crs158 {G : Gh} (F : Facts G crI [(-1,[(1,1)]), (0,[(0,1),(2,-1)]), (0,[(1,1),(3,-1)])] []) (hm : ¬ G.mono) (hT : HooksOk Tryz.prog G (hkT crT)) : SNOk Tryz.prog G crP158 := snap_ok progOk F (crH F hm hT crN) 100 crP158 Tryz.func13 rfl crr158
theorem crr162 : isSn crP162 (callN (crE [] crI [(-1,[(1,1)]), (0,[(0,1),(2,-1)]), (0,[(1,1),(3,-1)])]) 100 8 crP162.args crP162.h0) = true := by kernel_rfl
set_option maxRecDepth 100000 in
theorem crs162 {G : Gh} (F : Facts G crI [(-1,[(1,1)]), (0,[(0,1),(2,-1)]), (0,[(1,1),(3,-1)])] []) (hm : ¬ G.mono) (hT : HooksOk Tryz.prog G (hkT crT)) : SNOk Tryz.prog G crP162 := snap_ok progOk F (crH F hm hT crN) 100 crP162 Tryz.func8 rfl crr162
theorem crr159 : isSn crP159 (callN (crE [] crI [(0,[(1,-1)]), (0,[(0,1),(2,-1)]), (0,[(1,1),(3,-1)])]) 100 13 crP159.args crP159.h0) = true := by kernel_rfl
set_option maxRecDepth 100000 in
theorem crs159 {G : Gh} (F : Facts G crI [(0,[(1,-1)]), (0,[(0,1),(2,-1)]), (0,[(1,1),(3,-1)])] []) (hm : ¬ G.mono) (hT : HooksOk Tryz.prog G (hkT crT)) : SNOk Tryz.prog G crP159 := snap_ok progOk F (crH F hm hT crN) 100 crP159 Tryz.func13 rfl crr159
theorem crr163 : isSn crP163 (callN (crE [] crI [(0,[(1,-1)]), (0,[(0,1),(2,-1)]), (0,[(1,1),(3,-1)])]) 100 8 crP163.args crP163.h0) = true := by kernel_rfl
set_option maxRecDepth 100000 in
theorem crs163 {G : Gh} (F : Facts G crI [(0,[(1,-1)]), (0,[(0,1),(2,-1)]), (0,[(1,1),(3,-1)])] []) (hm : ¬ G.mono) (hT : HooksOk Tryz.prog G (hkT crT)) : SNOk Tryz.prog G crP163 := snap_ok progOk F (crH F hm hT crN) 100 crP163 Tryz.func8 rfl crr163
theorem crr160 : isSn crP160 (callN (crE [] crI [(-1,[(1,1)]), (0,[(0,1),(2,-1)]), (0,[(1,1),(3,-1)])]) 100 13 crP160.args crP160.h0) = true := by kernel_rfl
set_option maxRecDepth 100000 in
theorem crs160 {G : Gh} (F : Facts G crI [(-1,[(1,1)]), (0,[(0,1),(2,-1)]), (0,[(1,1),(3,-1)])] []) (hm : ¬ G.mono) (hT : HooksOk Tryz.prog G (hkT crT)) : SNOk Tryz.prog G crP160 := snap_ok progOk F (crH F hm hT crN) 100 crP160 Tryz.func13 rfl crr160
theorem crr164 : isSn crP164 (callN (crE [] crI [(-1,[(1,1)]), (0,[(0,1),(2,-1)]), (0,[(1,1),(3,-1)])]) 100 8 crP164.args crP164.h0) = true := by kernel_rfl
set_option maxRecDepth 100000 in
theorem crs164 {G : Gh} (F : Facts G crI [(-1,[(1,1)]), (0,[(0,1),(2,-1)]), (0,[(1,1),(3,-1)])] []) (hm : ¬ G.mono) (hT : HooksOk Tryz.prog G (hkT crT)) : SNOk Tryz.prog G crP164 := snap_ok progOk F (crH F hm hT crN) 100 crP164 Tryz.func8 rfl crr164
theorem crr161 : isSn crP161 (callN (crE [] crI [(0,[(1,-1)]), (0,[(0,1),(2,-1)]), (0,[(1,1),(3,-1)])]) 100 13 crP161.args crP161.h0) = true := by kernel_rfl
set_option maxRecDepth 100000 in
theorem crs161 {G : Gh} (F : Facts G crI [(0,[(1,-1)]), (0,[(0,1),(2,-1)]), (0,[(1,1),(3,-1)])] []) (hm : ¬ G.mono) (hT : HooksOk Tryz.prog G (hkT crT)) : SNOk Tryz.prog G crP161 := snap_ok progOk F (crH F hm hT crN) 100 crP161 Tryz.func13 rfl crr161
end Go.Proofs.YtaajobcfbgpfoaaGreat
