/- complinelaw28.CmdIssues: runs, and within its bounds. -/
import Derived.Test.YtkhckfpflfkjmaaGreatIsFTQ
namespace Go.Proofs.YtkhckfpflfkjmaaGreat
open Go Go.RowKit Gv Gv.Lt
theorem isftr0 : isSn isftP0 (callN (isftE [] isftI []) 100 12 isftP0.args isftP0.h0) = true := by kernel_rfl
set_option maxRecDepth 100000 in
theorem isfts0 {G : Gh} (F : Facts G isftI [] isftNL) (hS : KS G) (hm : ¬ G.mono) (hT : HooksOk Tryz.prog G (hkT isT)) : SNOk Tryz.prog G isftP0 := by have _hS := hS; exact snap_ok progOk F (isftH F hm hT isftN) 100 isftP0 Tryz.func12 rfl isftr0
theorem isftr1 : isSn isftP1 (callN (isftE [] isftI []) 100 352 isftP1.args isftP1.h0) = true := by kernel_rfl
set_option maxRecDepth 100000 in
theorem isfts1 {G : Gh} (F : Facts G isftI [] isftNL) (hS : KS G) (hm : ¬ G.mono) (hT : HooksOk Tryz.prog G (hkT isT)) : SNOk Tryz.prog G isftP1 := by have _hS := hS; exact snap_ok progOk F (isftH F hm hT isftN) 100 isftP1 Tryz.func352 rfl isftr1
theorem isftr2_0 : isftC [] [] 95 isftP2_0 := by unfold isftC; kernel_rfl
theorem isftr2_1 : isftC [] [] 95 isftP2_1 := by unfold isftC; kernel_rfl
theorem isftr2_2 : isftC [] [] 95 isftP2_2 := by unfold isftC; kernel_rfl
theorem isftr2_3 : isftC [] [] 95 isftP2_3 := by unfold isftC; kernel_rfl
theorem isftr2_4 : isftC [] [] 95 isftP2_4 := by unfold isftC; kernel_rfl
set_option maxRecDepth 100000 in
theorem isfts2 {G : Gh} (F : Facts G isftI [] isftNL) (hS : KS G) (hm : ¬ G.mono) (hT : HooksOk Tryz.prog G (hkT isT)) : SNOk Tryz.prog G isftP2 := by
  have _hS := hS; rcases hS with ⟨e0, e1, e2, e3, e4, e5, e6, e7, e8⟩ | ⟨e0, e1, e2, e3, e4, e5, e6, e7, e8⟩ | ⟨e0, e1, e2, e3, e4, e5, e6, e7, e8⟩ | ⟨e0, e1, e2, e3, e4, e5, e6, e7, e8⟩ | ⟨e0, e1, e2, e3, e4, e5, e6, e7, e8⟩
  · exact isft_sc (snap_ok progOk F (isftH F hm hT isftN) 100 isftP2_0 Tryz.func95 rfl isftr2_0) (isft_c0 e0) (isft_d1 e1 e2 e3 e4 e5 e6 e7 e8)
  · exact isft_sc (snap_ok progOk F (isftH F hm hT isftN) 100 isftP2_1 Tryz.func95 rfl isftr2_1) (isft_c2 e0) (isft_d3 e1 e2 e3 e4 e5 e6 e7 e8)
  · exact isft_sc (snap_ok progOk F (isftH F hm hT isftN) 100 isftP2_2 Tryz.func95 rfl isftr2_2) (isft_c4 e0) (isft_d5 e1 e2 e3 e4 e5 e6 e7 e8)
  · exact isft_sc (snap_ok progOk F (isftH F hm hT isftN) 100 isftP2_3 Tryz.func95 rfl isftr2_3) (isft_c6 e0) (isft_d7 e1 e2 e3 e4 e5 e6 e7 e8)
  · exact isft_sc (snap_ok progOk F (isftH F hm hT isftN) 100 isftP2_4 Tryz.func95 rfl isftr2_4) (isft_c8 e0) (isft_d9 e1 e2 e3 e4 e5 e6 e7 e8)
theorem isftr3 : isSn isftP3 (callN (isftE [isftP1, isftP2] isftI []) 100 10 isftP3.args isftP3.h0) = true := by kernel_rfl
set_option maxRecDepth 100000 in
theorem isfts3 {G : Gh} (F : Facts G isftI [] isftNL) (hS : KS G) (hm : ¬ G.mono) (hT : HooksOk Tryz.prog G (hkT isT)) : SNOk Tryz.prog G isftP3 := by have _hS := hS; exact snap_ok progOk F (isftH F hm hT (List.forall_mem_cons.2 ⟨isfts1 F hS hm hT, (List.forall_mem_cons.2 ⟨isfts2 F hS hm hT, isftN⟩)⟩)) 100 isftP3 Tryz.func10 rfl isftr3
theorem isftr4 : isSn isftP4 (callN (isftE [] isftI []) 100 352 isftP4.args isftP4.h0) = true := by kernel_rfl
set_option maxRecDepth 100000 in
theorem isfts4 {G : Gh} (F : Facts G isftI [] isftNL) (hS : KS G) (hm : ¬ G.mono) (hT : HooksOk Tryz.prog G (hkT isT)) : SNOk Tryz.prog G isftP4 := by have _hS := hS; exact snap_ok progOk F (isftH F hm hT isftN) 100 isftP4 Tryz.func352 rfl isftr4
theorem isftr5_0 : isftC [] [] 95 isftP5_0 := by unfold isftC; kernel_rfl
theorem isftr5_1 : isftC [] [] 95 isftP5_1 := by unfold isftC; kernel_rfl
theorem isftr5_2 : isftC [] [] 95 isftP5_2 := by unfold isftC; kernel_rfl
theorem isftr5_3 : isftC [] [] 95 isftP5_3 := by unfold isftC; kernel_rfl
theorem isftr5_4 : isftC [] [] 95 isftP5_4 := by unfold isftC; kernel_rfl
set_option maxRecDepth 100000 in
theorem isfts5 {G : Gh} (F : Facts G isftI [] isftNL) (hS : KS G) (hm : ¬ G.mono) (hT : HooksOk Tryz.prog G (hkT isT)) : SNOk Tryz.prog G isftP5 := by
  have _hS := hS; rcases hS with ⟨e0, e1, e2, e3, e4, e5, e6, e7, e8⟩ | ⟨e0, e1, e2, e3, e4, e5, e6, e7, e8⟩ | ⟨e0, e1, e2, e3, e4, e5, e6, e7, e8⟩ | ⟨e0, e1, e2, e3, e4, e5, e6, e7, e8⟩ | ⟨e0, e1, e2, e3, e4, e5, e6, e7, e8⟩
  · exact isft_sc (snap_ok progOk F (isftH F hm hT isftN) 100 isftP5_0 Tryz.func95 rfl isftr5_0) (isft_c0 e0) (isft_d1 e1 e2 e3 e4 e5 e6 e7 e8)
  · exact isft_sc (snap_ok progOk F (isftH F hm hT isftN) 100 isftP5_1 Tryz.func95 rfl isftr5_1) (isft_c2 e0) (isft_d3 e1 e2 e3 e4 e5 e6 e7 e8)
  · exact isft_sc (snap_ok progOk F (isftH F hm hT isftN) 100 isftP5_2 Tryz.func95 rfl isftr5_2) (isft_c4 e0) (isft_d5 e1 e2 e3 e4 e5 e6 e7 e8)
  · exact isft_sc (snap_ok progOk F (isftH F hm hT isftN) 100 isftP5_3 Tryz.func95 rfl isftr5_3) (isft_c6 e0) (isft_d7 e1 e2 e3 e4 e5 e6 e7 e8)
  · exact isft_sc (snap_ok progOk F (isftH F hm hT isftN) 100 isftP5_4 Tryz.func95 rfl isftr5_4) (isft_c8 e0) (isft_d9 e1 e2 e3 e4 e5 e6 e7 e8)
theorem isftr6 : isSn isftP6 (callN (isftE [isftP4, isftP5] isftI []) 100 10 isftP6.args isftP6.h0) = true := by kernel_rfl
set_option maxRecDepth 100000 in
theorem isfts6 {G : Gh} (F : Facts G isftI [] isftNL) (hS : KS G) (hm : ¬ G.mono) (hT : HooksOk Tryz.prog G (hkT isT)) : SNOk Tryz.prog G isftP6 := by have _hS := hS; exact snap_ok progOk F (isftH F hm hT (List.forall_mem_cons.2 ⟨isfts4 F hS hm hT, (List.forall_mem_cons.2 ⟨isfts5 F hS hm hT, isftN⟩)⟩)) 100 isftP6 Tryz.func10 rfl isftr6
theorem isftr7 : isSn isftP7 (callN (isftE [] isftI []) 100 10 isftP7.args isftP7.h0) = true := by kernel_rfl
set_option maxRecDepth 100000 in
theorem isfts7 {G : Gh} (F : Facts G isftI [] isftNL) (hS : KS G) (hm : ¬ G.mono) (hT : HooksOk Tryz.prog G (hkT isT)) : SNOk Tryz.prog G isftP7 := by have _hS := hS; exact snap_ok progOk F (isftH F hm hT isftN) 100 isftP7 Tryz.func10 rfl isftr7
theorem isftr8 : isSn isftP8 (callN (isftE [] isftI []) 100 13 isftP8.args isftP8.h0) = true := by kernel_rfl
set_option maxRecDepth 100000 in
theorem isfts8 {G : Gh} (F : Facts G isftI [] isftNL) (hS : KS G) (hm : ¬ G.mono) (hT : HooksOk Tryz.prog G (hkT isT)) : SNOk Tryz.prog G isftP8 := by have _hS := hS; exact snap_ok progOk F (isftH F hm hT isftN) 100 isftP8 Tryz.func13 rfl isftr8
theorem isftr9_0 : isftC [] [] 14 isftP9_0 := by unfold isftC; kernel_rfl
theorem isftr9_1 : isftC [] [] 14 isftP9_1 := by unfold isftC; kernel_rfl
theorem isftr9_2 : isftC [] [] 14 isftP9_2 := by unfold isftC; kernel_rfl
theorem isftr9_3 : isftC [] [] 14 isftP9_3 := by unfold isftC; kernel_rfl
theorem isftr9_4 : isftC [] [] 14 isftP9_4 := by unfold isftC; kernel_rfl
set_option maxRecDepth 100000 in
theorem isfts9 {G : Gh} (F : Facts G isftI [] isftNL) (hS : KS G) (hm : ¬ G.mono) (hT : HooksOk Tryz.prog G (hkT isT)) : SNOk Tryz.prog G isftP9 := by
  have _hS := hS; rcases hS with ⟨e0, e1, e2, e3, e4, e5, e6, e7, e8⟩ | ⟨e0, e1, e2, e3, e4, e5, e6, e7, e8⟩ | ⟨e0, e1, e2, e3, e4, e5, e6, e7, e8⟩ | ⟨e0, e1, e2, e3, e4, e5, e6, e7, e8⟩ | ⟨e0, e1, e2, e3, e4, e5, e6, e7, e8⟩
  · exact isft_sc (snap_ok progOk F (isftH F hm hT isftN) 100 isftP9_0 Tryz.func14 rfl isftr9_0) (isft_c10 e0) (isft_d1 e1 e2 e3 e4 e5 e6 e7 e8)
  · exact isft_sc (snap_ok progOk F (isftH F hm hT isftN) 100 isftP9_1 Tryz.func14 rfl isftr9_1) (isft_c11 e0) (isft_d3 e1 e2 e3 e4 e5 e6 e7 e8)
  · exact isft_sc (snap_ok progOk F (isftH F hm hT isftN) 100 isftP9_2 Tryz.func14 rfl isftr9_2) (isft_c12 e0) (isft_d5 e1 e2 e3 e4 e5 e6 e7 e8)
  · exact isft_sc (snap_ok progOk F (isftH F hm hT isftN) 100 isftP9_3 Tryz.func14 rfl isftr9_3) (isft_c13 e0) (isft_d7 e1 e2 e3 e4 e5 e6 e7 e8)
  · exact isft_sc (snap_ok progOk F (isftH F hm hT isftN) 100 isftP9_4 Tryz.func14 rfl isftr9_4) (isft_c14 e0) (isft_d9 e1 e2 e3 e4 e5 e6 e7 e8)
theorem isftt0 : (callN (isftE [isftP0, isftP3, isftP6, isftP7, isftP8, isftP9] isftI []) 100 4 isftArgs H0).isTrue = true := by kernel_rfl
set_option maxRecDepth 100000 in
theorem isftu0 {G : Gh} (F : Facts G isftI [] isftNL) (hS : KS G) (hm : ¬ G.mono) (hT : HooksOk Tryz.prog G (hkT isT)) {ul : List Value} (hl : concL G (fun _ => none) isftArgs = some ul) (w : World) : Calls Tryz.prog 4 ul.toArray w (TrueBelow w) := by have _hS := hS; exact run_true (nl := [⟨30, .i64, (0,[(2,1)]), (0,[]), 0⟩, ⟨30, .i64, (0,[(3,1)]), (0,[]), 1⟩, ⟨31, .i64, (4,[]), (1263419714,[]), 0⟩, ⟨31, .i64, (2,[]), (16720,[]), 0⟩, ⟨31, .i64, (2,[]), (16976,[]), 0⟩, ⟨31, .i64, (2,[]), (16721,[]), 0⟩, ⟨31, .i64, (2,[]), (16977,[]), 0⟩, ⟨31, .i64, (2,[]), (16722,[]), 0⟩, ⟨31, .i64, (2,[]), (16978,[]), 0⟩]) progOk F (isftH F hm hT (List.forall_mem_cons.2 ⟨isfts0 F hS hm hT, (List.forall_mem_cons.2 ⟨isfts3 F hS hm hT, (List.forall_mem_cons.2 ⟨isfts6 F hS hm hT, (List.forall_mem_cons.2 ⟨isfts7 F hS hm hT, (List.forall_mem_cons.2 ⟨isfts8 F hS hm hT, (List.forall_mem_cons.2 ⟨isfts9 F hS hm hT, isftN⟩)⟩)⟩)⟩)⟩)⟩)) Tryz.func4 rfl hl isftt0 w
theorem isft_split {σ : Nat → Int} {ge : List LF} {C : Prop} (x y : LF) (e : LF.neg x = y) (ha : geOk σ (x :: ge) → C) (hb : geOk σ (y :: ge) → C) (h : geOk σ ge) : C := split_at x ha (by rw [e]; exact hb) h
set_option maxRecDepth 100000 in
theorem isft_in (n m la ls : Int) (sa ss a1 a2 s12 : ByteArray) (b13 b14 : Bool) (i15 i16 i17 i18 i19 : Int) (w : World) (hnl : nlOk (mkGh [.string sa, .string ss, .bool false, .bool false, .bool false, .bool false, .bool false, .bool false, .bool false, .bool false, .string a1, .string a2, .string s12, .bool b13, .bool b14, .int .i64 i15, .int .i64 i16, .int .i64 i17, .int .i64 i18, .int .i64 i19] [n, m, la, ls] rfl) [⟨30, .i64, (0,[(2,1)]), (0,[]), 0⟩, ⟨30, .i64, (0,[(3,1)]), (0,[]), 1⟩, ⟨31, .i64, (4,[]), (1263419714,[]), 0⟩, ⟨31, .i64, (2,[]), (16720,[]), 0⟩, ⟨31, .i64, (2,[]), (16976,[]), 0⟩, ⟨31, .i64, (2,[]), (16721,[]), 0⟩, ⟨31, .i64, (2,[]), (16977,[]), 0⟩, ⟨31, .i64, (2,[]), (16722,[]), 0⟩, ⟨31, .i64, (2,[]), (16978,[]), 0⟩]) (hS : KS (mkGh [.string sa, .string ss, .bool false, .bool false, .bool false, .bool false, .bool false, .bool false, .bool false, .bool false, .string a1, .string a2, .string s12, .bool b13, .bool b14, .int .i64 i15, .int .i64 i16, .int .i64 i17, .int .i64 i18, .int .i64 i19] [n, m, la, ls] rfl)) (hT : HooksOk Tryz.prog (mkGh [.string sa, .string ss, .bool false, .bool false, .bool false, .bool false, .bool false, .bool false, .bool false, .bool false, .string a1, .string a2, .string s12, .bool b13, .bool b14, .int .i64 i15, .int .i64 i16, .int .i64 i17, .int .i64 i18, .int .i64 i19] [n, m, la, ls] rfl) (hkT isT)) (hI : bdOk (mkGh [.string sa, .string ss, .bool false, .bool false, .bool false, .bool false, .bool false, .bool false, .bool false, .bool false, .string a1, .string a2, .string s12, .bool b13, .bool b14, .int .i64 i15, .int .i64 i16, .int .i64 i17, .int .i64 i18, .int .i64 i19] [n, m, la, ls] rfl).σ isftI 0) : geOk (mkGh [.string sa, .string ss, .bool false, .bool false, .bool false, .bool false, .bool false, .bool false, .bool false, .bool false, .string a1, .string a2, .string s12, .bool b13, .bool b14, .int .i64 i15, .int .i64 i16, .int .i64 i17, .int .i64 i18, .int .i64 i19] [n, m, la, ls] rfl).σ [] → Calls Tryz.prog 4 #[.int .i64 n, .int .i64 m, .string sa, .string ss] w (TrueBelow w) := by
  have hm : ¬ ((mkGh [.string sa, .string ss, .bool false, .bool false, .bool false, .bool false, .bool false, .bool false, .bool false, .bool false, .string a1, .string a2, .string s12, .bool b13, .bool b14, .int .i64 i15, .int .i64 i16, .int .i64 i17, .int .i64 i18, .int .i64 i19] [n, m, la, ls] rfl)).mono := fun h => h
  have hl : concL (mkGh [.string sa, .string ss, .bool false, .bool false, .bool false, .bool false, .bool false, .bool false, .bool false, .bool false, .string a1, .string a2, .string s12, .bool b13, .bool b14, .int .i64 i15, .int .i64 i16, .int .i64 i17, .int .i64 i18, .int .i64 i19] [n, m, la, ls] rfl) (fun _ => none) isftArgs = some [.int .i64 n, .int .i64 m, .string sa, .string ss] := by simp [isftArgs, concL, conc, den, mkGh]
  exact (fun hg => isftu0 ⟨hI, hg, hnl⟩ hS hm hT hl w)
end Go.Proofs.YtkhckfpflfkjmaaGreat
