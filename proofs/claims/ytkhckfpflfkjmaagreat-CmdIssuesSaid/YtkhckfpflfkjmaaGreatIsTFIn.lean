/- complinelaw28.CmdIssues: runs, and within its bounds. -/
import Derived.Test.YtkhckfpflfkjmaaGreatIsTFQ
namespace Go.Proofs.YtkhckfpflfkjmaaGreat
open Go Go.RowKit Gv Gv.Lt
theorem istfr0 : isSn istfP0 (callN (istfE [] istfI []) 100 12 istfP0.args istfP0.h0) = true := by kernel_rfl
set_option maxRecDepth 100000 in
theorem istfs0 {G : Gh} (F : Facts G istfI [] istfNL) (hA : KA G) (hm : ¬ G.mono) (hT : HooksOk Tryz.prog G (hkT isT)) : SNOk Tryz.prog G istfP0 := by have _hA := hA; exact snap_ok progOk F (istfH F hm hT istfN) 100 istfP0 Tryz.func12 rfl istfr0
theorem istfr1_0 : istfC [] [] 352 istfP1_0 := by unfold istfC; kernel_rfl
theorem istfr1_1 : istfC [] [] 352 istfP1_1 := by unfold istfC; kernel_rfl
theorem istfr1_2 : istfC [] [] 352 istfP1_2 := by unfold istfC; kernel_rfl
theorem istfr1_3 : istfC [] [] 352 istfP1_3 := by unfold istfC; kernel_rfl
theorem istfr1_4 : istfC [] [] 352 istfP1_4 := by unfold istfC; kernel_rfl
theorem istfr1_5 : istfC [] [] 352 istfP1_5 := by unfold istfC; kernel_rfl
theorem istfr1_6 : istfC [] [] 352 istfP1_6 := by unfold istfC; kernel_rfl
set_option maxRecDepth 100000 in
theorem istfs1 {G : Gh} (F : Facts G istfI [] istfNL) (hA : KA G) (hm : ¬ G.mono) (hT : HooksOk Tryz.prog G (hkT isT)) : SNOk Tryz.prog G istfP1 := by
  have _hA := hA; rcases hA with ⟨e0, e1, e2⟩ | ⟨e0, e1, e2⟩ | ⟨e0, e1, e2⟩ | ⟨e0, e1, e2⟩ | ⟨e0, e1, e2⟩ | ⟨e0, e1, e2⟩ | ⟨e0, e1, e2⟩
  · exact istf_sc (snap_ok progOk F (istfH F hm hT istfN) 100 istfP1_0 Tryz.func352 rfl istfr1_0) (istf_c0 e0) (istf_d1 e1 e2)
  · exact istf_sc (snap_ok progOk F (istfH F hm hT istfN) 100 istfP1_1 Tryz.func352 rfl istfr1_1) (istf_c2 e0) (istf_d3 e1 e2)
  · exact istf_sc (snap_ok progOk F (istfH F hm hT istfN) 100 istfP1_2 Tryz.func352 rfl istfr1_2) (istf_c4 e0) (istf_d5 e1 e2)
  · exact istf_sc (snap_ok progOk F (istfH F hm hT istfN) 100 istfP1_3 Tryz.func352 rfl istfr1_3) (istf_c6 e0) (istf_d7 e1 e2)
  · exact istf_sc (snap_ok progOk F (istfH F hm hT istfN) 100 istfP1_4 Tryz.func352 rfl istfr1_4) (istf_c8 e0) (istf_d9 e1 e2)
  · exact istf_sc (snap_ok progOk F (istfH F hm hT istfN) 100 istfP1_5 Tryz.func352 rfl istfr1_5) (istf_c10 e0) (istf_d11 e1 e2)
  · exact istf_sc (snap_ok progOk F (istfH F hm hT istfN) 100 istfP1_6 Tryz.func352 rfl istfr1_6) (istf_c12 e0) (istf_d13 e1 e2)
theorem istfr2 : isSn istfP2 (callN (istfE [] istfI []) 100 95 istfP2.args istfP2.h0) = true := by kernel_rfl
set_option maxRecDepth 100000 in
theorem istfs2 {G : Gh} (F : Facts G istfI [] istfNL) (hA : KA G) (hm : ¬ G.mono) (hT : HooksOk Tryz.prog G (hkT isT)) : SNOk Tryz.prog G istfP2 := by have _hA := hA; exact snap_ok progOk F (istfH F hm hT istfN) 100 istfP2 Tryz.func95 rfl istfr2
theorem istfr3 : isSn istfP3 (callN (istfE [istfP1, istfP2] istfI []) 100 10 istfP3.args istfP3.h0) = true := by kernel_rfl
set_option maxRecDepth 100000 in
theorem istfs3 {G : Gh} (F : Facts G istfI [] istfNL) (hA : KA G) (hm : ¬ G.mono) (hT : HooksOk Tryz.prog G (hkT isT)) : SNOk Tryz.prog G istfP3 := by have _hA := hA; exact snap_ok progOk F (istfH F hm hT (List.forall_mem_cons.2 ⟨istfs1 F hA hm hT, (List.forall_mem_cons.2 ⟨istfs2 F hA hm hT, istfN⟩)⟩)) 100 istfP3 Tryz.func10 rfl istfr3
theorem istfr4_0 : istfC [] [] 352 istfP4_0 := by unfold istfC; kernel_rfl
theorem istfr4_1 : istfC [] [] 352 istfP4_1 := by unfold istfC; kernel_rfl
theorem istfr4_2 : istfC [] [] 352 istfP4_2 := by unfold istfC; kernel_rfl
theorem istfr4_3 : istfC [] [] 352 istfP4_3 := by unfold istfC; kernel_rfl
theorem istfr4_4 : istfC [] [] 352 istfP4_4 := by unfold istfC; kernel_rfl
theorem istfr4_5 : istfC [] [] 352 istfP4_5 := by unfold istfC; kernel_rfl
theorem istfr4_6 : istfC [] [] 352 istfP4_6 := by unfold istfC; kernel_rfl
set_option maxRecDepth 100000 in
theorem istfs4 {G : Gh} (F : Facts G istfI [] istfNL) (hA : KA G) (hm : ¬ G.mono) (hT : HooksOk Tryz.prog G (hkT isT)) : SNOk Tryz.prog G istfP4 := by
  have _hA := hA; rcases hA with ⟨e0, e1, e2⟩ | ⟨e0, e1, e2⟩ | ⟨e0, e1, e2⟩ | ⟨e0, e1, e2⟩ | ⟨e0, e1, e2⟩ | ⟨e0, e1, e2⟩ | ⟨e0, e1, e2⟩
  · exact istf_sc (snap_ok progOk F (istfH F hm hT istfN) 100 istfP4_0 Tryz.func352 rfl istfr4_0) (istf_c0 e0) (istf_d1 e1 e2)
  · exact istf_sc (snap_ok progOk F (istfH F hm hT istfN) 100 istfP4_1 Tryz.func352 rfl istfr4_1) (istf_c2 e0) (istf_d3 e1 e2)
  · exact istf_sc (snap_ok progOk F (istfH F hm hT istfN) 100 istfP4_2 Tryz.func352 rfl istfr4_2) (istf_c4 e0) (istf_d5 e1 e2)
  · exact istf_sc (snap_ok progOk F (istfH F hm hT istfN) 100 istfP4_3 Tryz.func352 rfl istfr4_3) (istf_c6 e0) (istf_d7 e1 e2)
  · exact istf_sc (snap_ok progOk F (istfH F hm hT istfN) 100 istfP4_4 Tryz.func352 rfl istfr4_4) (istf_c8 e0) (istf_d9 e1 e2)
  · exact istf_sc (snap_ok progOk F (istfH F hm hT istfN) 100 istfP4_5 Tryz.func352 rfl istfr4_5) (istf_c10 e0) (istf_d11 e1 e2)
  · exact istf_sc (snap_ok progOk F (istfH F hm hT istfN) 100 istfP4_6 Tryz.func352 rfl istfr4_6) (istf_c12 e0) (istf_d13 e1 e2)
theorem istfr5 : isSn istfP5 (callN (istfE [] istfI []) 100 95 istfP5.args istfP5.h0) = true := by kernel_rfl
set_option maxRecDepth 100000 in
theorem istfs5 {G : Gh} (F : Facts G istfI [] istfNL) (hA : KA G) (hm : ¬ G.mono) (hT : HooksOk Tryz.prog G (hkT isT)) : SNOk Tryz.prog G istfP5 := by have _hA := hA; exact snap_ok progOk F (istfH F hm hT istfN) 100 istfP5 Tryz.func95 rfl istfr5
theorem istfr6 : isSn istfP6 (callN (istfE [istfP4, istfP5] istfI []) 100 10 istfP6.args istfP6.h0) = true := by kernel_rfl
set_option maxRecDepth 100000 in
theorem istfs6 {G : Gh} (F : Facts G istfI [] istfNL) (hA : KA G) (hm : ¬ G.mono) (hT : HooksOk Tryz.prog G (hkT isT)) : SNOk Tryz.prog G istfP6 := by have _hA := hA; exact snap_ok progOk F (istfH F hm hT (List.forall_mem_cons.2 ⟨istfs4 F hA hm hT, (List.forall_mem_cons.2 ⟨istfs5 F hA hm hT, istfN⟩)⟩)) 100 istfP6 Tryz.func10 rfl istfr6
theorem istfr7 : isSn istfP7 (callN (istfE [] istfI []) 100 10 istfP7.args istfP7.h0) = true := by kernel_rfl
set_option maxRecDepth 100000 in
theorem istfs7 {G : Gh} (F : Facts G istfI [] istfNL) (hA : KA G) (hm : ¬ G.mono) (hT : HooksOk Tryz.prog G (hkT isT)) : SNOk Tryz.prog G istfP7 := by have _hA := hA; exact snap_ok progOk F (istfH F hm hT istfN) 100 istfP7 Tryz.func10 rfl istfr7
theorem istfr8_0 : istfC [] [] 13 istfP8_0 := by unfold istfC; kernel_rfl
theorem istfr8_1 : istfC [] [] 13 istfP8_1 := by unfold istfC; kernel_rfl
theorem istfr8_2 : istfC [] [] 13 istfP8_2 := by unfold istfC; kernel_rfl
theorem istfr8_3 : istfC [] [] 13 istfP8_3 := by unfold istfC; kernel_rfl
theorem istfr8_4 : istfC [] [] 13 istfP8_4 := by unfold istfC; kernel_rfl
theorem istfr8_5 : istfC [] [] 13 istfP8_5 := by unfold istfC; kernel_rfl
theorem istfr8_6 : istfC [] [] 13 istfP8_6 := by unfold istfC; kernel_rfl
set_option maxRecDepth 100000 in
theorem istfs8 {G : Gh} (F : Facts G istfI [] istfNL) (hA : KA G) (hm : ¬ G.mono) (hT : HooksOk Tryz.prog G (hkT isT)) : SNOk Tryz.prog G istfP8 := by
  have _hA := hA; rcases hA with ⟨e0, e1, e2⟩ | ⟨e0, e1, e2⟩ | ⟨e0, e1, e2⟩ | ⟨e0, e1, e2⟩ | ⟨e0, e1, e2⟩ | ⟨e0, e1, e2⟩ | ⟨e0, e1, e2⟩
  · exact istf_sc (snap_ok progOk F (istfH F hm hT istfN) 100 istfP8_0 Tryz.func13 rfl istfr8_0) (istf_c14 e0) (istf_d1 e1 e2)
  · exact istf_sc (snap_ok progOk F (istfH F hm hT istfN) 100 istfP8_1 Tryz.func13 rfl istfr8_1) (istf_c15 e0) (istf_d3 e1 e2)
  · exact istf_sc (snap_ok progOk F (istfH F hm hT istfN) 100 istfP8_2 Tryz.func13 rfl istfr8_2) (istf_c16 e0) (istf_d5 e1 e2)
  · exact istf_sc (snap_ok progOk F (istfH F hm hT istfN) 100 istfP8_3 Tryz.func13 rfl istfr8_3) (istf_c17 e0) (istf_d7 e1 e2)
  · exact istf_sc (snap_ok progOk F (istfH F hm hT istfN) 100 istfP8_4 Tryz.func13 rfl istfr8_4) (istf_c18 e0) (istf_d9 e1 e2)
  · exact istf_sc (snap_ok progOk F (istfH F hm hT istfN) 100 istfP8_5 Tryz.func13 rfl istfr8_5) (istf_c19 e0) (istf_d11 e1 e2)
  · exact istf_sc (snap_ok progOk F (istfH F hm hT istfN) 100 istfP8_6 Tryz.func13 rfl istfr8_6) (istf_c20 e0) (istf_d13 e1 e2)
theorem istfr9 : isSn istfP9 (callN (istfE [] istfI []) 100 14 istfP9.args istfP9.h0) = true := by kernel_rfl
set_option maxRecDepth 100000 in
theorem istfs9 {G : Gh} (F : Facts G istfI [] istfNL) (hA : KA G) (hm : ¬ G.mono) (hT : HooksOk Tryz.prog G (hkT isT)) : SNOk Tryz.prog G istfP9 := by have _hA := hA; exact snap_ok progOk F (istfH F hm hT istfN) 100 istfP9 Tryz.func14 rfl istfr9
theorem istft0 : (callN (istfE [istfP0, istfP3, istfP6, istfP7, istfP8, istfP9] istfI []) 100 4 istfArgs H0).isTrue = true := by kernel_rfl
set_option maxRecDepth 100000 in
theorem istfu0 {G : Gh} (F : Facts G istfI [] istfNL) (hA : KA G) (hm : ¬ G.mono) (hT : HooksOk Tryz.prog G (hkT isT)) {ul : List Value} (hl : concL G (fun _ => none) istfArgs = some ul) (w : World) : Calls Tryz.prog 4 ul.toArray w (TrueBelow w) := by have _hA := hA; exact run_true (nl := [⟨30, .i64, (0,[(2,1)]), (0,[]), 0⟩, ⟨30, .i64, (0,[(3,1)]), (0,[]), 1⟩, ⟨31, .i64, (1,[]), (88,[]), 1⟩, ⟨31, .i64, (1,[]), (89,[]), 1⟩, ⟨31, .i64, (1,[]), (90,[]), 1⟩, ⟨31, .i64, (3,[]), (5395781,[]), 1⟩, ⟨31, .i64, (3,[]), (4477781,[]), 1⟩]) progOk F (istfH F hm hT (List.forall_mem_cons.2 ⟨istfs0 F hA hm hT, (List.forall_mem_cons.2 ⟨istfs3 F hA hm hT, (List.forall_mem_cons.2 ⟨istfs6 F hA hm hT, (List.forall_mem_cons.2 ⟨istfs7 F hA hm hT, (List.forall_mem_cons.2 ⟨istfs8 F hA hm hT, (List.forall_mem_cons.2 ⟨istfs9 F hA hm hT, istfN⟩)⟩)⟩)⟩)⟩)⟩)) Tryz.func4 rfl hl istft0 w
theorem istf_split {σ : Nat → Int} {ge : List LF} {C : Prop} (x y : LF) (e : LF.neg x = y) (ha : geOk σ (x :: ge) → C) (hb : geOk σ (y :: ge) → C) (h : geOk σ ge) : C := split_at x ha (by rw [e]; exact hb) h
set_option maxRecDepth 100000 in
theorem istf_in (n m la ls : Int) (sa ss a1 a2 s12 : ByteArray) (b13 b14 : Bool) (i15 i16 i17 i18 i19 : Int) (w : World) (hnl : nlOk (mkGh [.string sa, .string ss, .bool false, .bool false, .bool false, .bool false, .bool false, .bool false, .bool false, .bool false, .string a1, .string a2, .string s12, .bool b13, .bool b14, .int .i64 i15, .int .i64 i16, .int .i64 i17, .int .i64 i18, .int .i64 i19] [n, m, la, ls] rfl) [⟨30, .i64, (0,[(2,1)]), (0,[]), 0⟩, ⟨30, .i64, (0,[(3,1)]), (0,[]), 1⟩, ⟨31, .i64, (1,[]), (88,[]), 1⟩, ⟨31, .i64, (1,[]), (89,[]), 1⟩, ⟨31, .i64, (1,[]), (90,[]), 1⟩, ⟨31, .i64, (3,[]), (5395781,[]), 1⟩, ⟨31, .i64, (3,[]), (4477781,[]), 1⟩]) (hA : KA (mkGh [.string sa, .string ss, .bool false, .bool false, .bool false, .bool false, .bool false, .bool false, .bool false, .bool false, .string a1, .string a2, .string s12, .bool b13, .bool b14, .int .i64 i15, .int .i64 i16, .int .i64 i17, .int .i64 i18, .int .i64 i19] [n, m, la, ls] rfl)) (hT : HooksOk Tryz.prog (mkGh [.string sa, .string ss, .bool false, .bool false, .bool false, .bool false, .bool false, .bool false, .bool false, .bool false, .string a1, .string a2, .string s12, .bool b13, .bool b14, .int .i64 i15, .int .i64 i16, .int .i64 i17, .int .i64 i18, .int .i64 i19] [n, m, la, ls] rfl) (hkT isT)) (hI : bdOk (mkGh [.string sa, .string ss, .bool false, .bool false, .bool false, .bool false, .bool false, .bool false, .bool false, .bool false, .string a1, .string a2, .string s12, .bool b13, .bool b14, .int .i64 i15, .int .i64 i16, .int .i64 i17, .int .i64 i18, .int .i64 i19] [n, m, la, ls] rfl).σ istfI 0) : geOk (mkGh [.string sa, .string ss, .bool false, .bool false, .bool false, .bool false, .bool false, .bool false, .bool false, .bool false, .string a1, .string a2, .string s12, .bool b13, .bool b14, .int .i64 i15, .int .i64 i16, .int .i64 i17, .int .i64 i18, .int .i64 i19] [n, m, la, ls] rfl).σ [] → Calls Tryz.prog 4 #[.int .i64 n, .int .i64 m, .string sa, .string ss] w (TrueBelow w) := by
  have hm : ¬ ((mkGh [.string sa, .string ss, .bool false, .bool false, .bool false, .bool false, .bool false, .bool false, .bool false, .bool false, .string a1, .string a2, .string s12, .bool b13, .bool b14, .int .i64 i15, .int .i64 i16, .int .i64 i17, .int .i64 i18, .int .i64 i19] [n, m, la, ls] rfl)).mono := fun h => h
  have hl : concL (mkGh [.string sa, .string ss, .bool false, .bool false, .bool false, .bool false, .bool false, .bool false, .bool false, .bool false, .string a1, .string a2, .string s12, .bool b13, .bool b14, .int .i64 i15, .int .i64 i16, .int .i64 i17, .int .i64 i18, .int .i64 i19] [n, m, la, ls] rfl) (fun _ => none) istfArgs = some [.int .i64 n, .int .i64 m, .string sa, .string ss] := by simp [istfArgs, concL, conc, den, mkGh]
  exact (fun hg => istfu0 ⟨hI, hg, hnl⟩ hA hm hT hl w)
end Go.Proofs.YtkhckfpflfkjmaaGreat
