/- complinelaw28.CmdIssues: runs, and within its bounds. -/
import Derived.Test.YtkhckfpflfkjmaaGreatIsFFQ
namespace Go.Proofs.YtkhckfpflfkjmaaGreat
open Go Go.RowKit Gv Gv.Lt
theorem isffr0 : isSn isffP0 (callN (isffE [] isffI []) 100 12 isffP0.args isffP0.h0) = true := by kernel_rfl
set_option maxRecDepth 100000 in
theorem isffs0 {G : Gh} (F : Facts G isffI [] isffNL) (hm : ¬ G.mono) (hT : HooksOk Tryz.prog G (hkT isT)) : SNOk Tryz.prog G isffP0 := by exact snap_ok progOk F (isffH F hm hT isffN) 100 isffP0 Tryz.func12 rfl isffr0
theorem isffr1 : isSn isffP1 (callN (isffE [] isffI []) 100 352 isffP1.args isffP1.h0) = true := by kernel_rfl
set_option maxRecDepth 100000 in
theorem isffs1 {G : Gh} (F : Facts G isffI [] isffNL) (hm : ¬ G.mono) (hT : HooksOk Tryz.prog G (hkT isT)) : SNOk Tryz.prog G isffP1 := by exact snap_ok progOk F (isffH F hm hT isffN) 100 isffP1 Tryz.func352 rfl isffr1
theorem isffr2 : isSn isffP2 (callN (isffE [] isffI []) 100 95 isffP2.args isffP2.h0) = true := by kernel_rfl
set_option maxRecDepth 100000 in
theorem isffs2 {G : Gh} (F : Facts G isffI [] isffNL) (hm : ¬ G.mono) (hT : HooksOk Tryz.prog G (hkT isT)) : SNOk Tryz.prog G isffP2 := by exact snap_ok progOk F (isffH F hm hT isffN) 100 isffP2 Tryz.func95 rfl isffr2
theorem isffr3 : isSn isffP3 (callN (isffE [isffP1, isffP2] isffI []) 100 10 isffP3.args isffP3.h0) = true := by kernel_rfl
set_option maxRecDepth 100000 in
theorem isffs3 {G : Gh} (F : Facts G isffI [] isffNL) (hm : ¬ G.mono) (hT : HooksOk Tryz.prog G (hkT isT)) : SNOk Tryz.prog G isffP3 := by exact snap_ok progOk F (isffH F hm hT (List.forall_mem_cons.2 ⟨isffs1 F hm hT, (List.forall_mem_cons.2 ⟨isffs2 F hm hT, isffN⟩)⟩)) 100 isffP3 Tryz.func10 rfl isffr3
theorem isffr4 : isSn isffP4 (callN (isffE [] isffI []) 100 352 isffP4.args isffP4.h0) = true := by kernel_rfl
set_option maxRecDepth 100000 in
theorem isffs4 {G : Gh} (F : Facts G isffI [] isffNL) (hm : ¬ G.mono) (hT : HooksOk Tryz.prog G (hkT isT)) : SNOk Tryz.prog G isffP4 := by exact snap_ok progOk F (isffH F hm hT isffN) 100 isffP4 Tryz.func352 rfl isffr4
theorem isffr5 : isSn isffP5 (callN (isffE [] isffI []) 100 95 isffP5.args isffP5.h0) = true := by kernel_rfl
set_option maxRecDepth 100000 in
theorem isffs5 {G : Gh} (F : Facts G isffI [] isffNL) (hm : ¬ G.mono) (hT : HooksOk Tryz.prog G (hkT isT)) : SNOk Tryz.prog G isffP5 := by exact snap_ok progOk F (isffH F hm hT isffN) 100 isffP5 Tryz.func95 rfl isffr5
theorem isffr6 : isSn isffP6 (callN (isffE [isffP4, isffP5] isffI []) 100 10 isffP6.args isffP6.h0) = true := by kernel_rfl
set_option maxRecDepth 100000 in
theorem isffs6 {G : Gh} (F : Facts G isffI [] isffNL) (hm : ¬ G.mono) (hT : HooksOk Tryz.prog G (hkT isT)) : SNOk Tryz.prog G isffP6 := by exact snap_ok progOk F (isffH F hm hT (List.forall_mem_cons.2 ⟨isffs4 F hm hT, (List.forall_mem_cons.2 ⟨isffs5 F hm hT, isffN⟩)⟩)) 100 isffP6 Tryz.func10 rfl isffr6
theorem isffr7 : isSn isffP7 (callN (isffE [] isffI []) 100 10 isffP7.args isffP7.h0) = true := by kernel_rfl
set_option maxRecDepth 100000 in
theorem isffs7 {G : Gh} (F : Facts G isffI [] isffNL) (hm : ¬ G.mono) (hT : HooksOk Tryz.prog G (hkT isT)) : SNOk Tryz.prog G isffP7 := by exact snap_ok progOk F (isffH F hm hT isffN) 100 isffP7 Tryz.func10 rfl isffr7
theorem isffr8 : isSn isffP8 (callN (isffE [] isffI []) 100 13 isffP8.args isffP8.h0) = true := by kernel_rfl
set_option maxRecDepth 100000 in
theorem isffs8 {G : Gh} (F : Facts G isffI [] isffNL) (hm : ¬ G.mono) (hT : HooksOk Tryz.prog G (hkT isT)) : SNOk Tryz.prog G isffP8 := by exact snap_ok progOk F (isffH F hm hT isffN) 100 isffP8 Tryz.func13 rfl isffr8
theorem isffr9 : isSn isffP9 (callN (isffE [] isffI []) 100 14 isffP9.args isffP9.h0) = true := by kernel_rfl
set_option maxRecDepth 100000 in
theorem isffs9 {G : Gh} (F : Facts G isffI [] isffNL) (hm : ¬ G.mono) (hT : HooksOk Tryz.prog G (hkT isT)) : SNOk Tryz.prog G isffP9 := by exact snap_ok progOk F (isffH F hm hT isffN) 100 isffP9 Tryz.func14 rfl isffr9
theorem isfft0 : (callN (isffE [isffP0, isffP3, isffP6, isffP7, isffP8, isffP9] isffI []) 100 4 isffArgs H0).isTrue = true := by kernel_rfl
set_option maxRecDepth 100000 in
theorem isffu0 {G : Gh} (F : Facts G isffI [] isffNL) (hm : ¬ G.mono) (hT : HooksOk Tryz.prog G (hkT isT)) {ul : List Value} (hl : concL G (fun _ => none) isffArgs = some ul) (w : World) : Calls Tryz.prog 4 ul.toArray w (TrueBelow w) := by exact run_true (nl := [⟨30, .i64, (0,[(2,1)]), (0,[]), 0⟩, ⟨30, .i64, (0,[(3,1)]), (0,[]), 1⟩, ⟨31, .i64, (4,[]), (1263419714,[]), 0⟩, ⟨31, .i64, (2,[]), (16720,[]), 0⟩, ⟨31, .i64, (2,[]), (16976,[]), 0⟩, ⟨31, .i64, (2,[]), (16721,[]), 0⟩, ⟨31, .i64, (2,[]), (16977,[]), 0⟩, ⟨31, .i64, (2,[]), (16722,[]), 0⟩, ⟨31, .i64, (2,[]), (16978,[]), 0⟩, ⟨31, .i64, (1,[]), (88,[]), 1⟩, ⟨31, .i64, (1,[]), (89,[]), 1⟩, ⟨31, .i64, (1,[]), (90,[]), 1⟩, ⟨31, .i64, (3,[]), (5395781,[]), 1⟩, ⟨31, .i64, (3,[]), (4477781,[]), 1⟩]) progOk F (isffH F hm hT (List.forall_mem_cons.2 ⟨isffs0 F hm hT, (List.forall_mem_cons.2 ⟨isffs3 F hm hT, (List.forall_mem_cons.2 ⟨isffs6 F hm hT, (List.forall_mem_cons.2 ⟨isffs7 F hm hT, (List.forall_mem_cons.2 ⟨isffs8 F hm hT, (List.forall_mem_cons.2 ⟨isffs9 F hm hT, isffN⟩)⟩)⟩)⟩)⟩)⟩)) Tryz.func4 rfl hl isfft0 w
theorem isff_split {σ : Nat → Int} {ge : List LF} {C : Prop} (x y : LF) (e : LF.neg x = y) (ha : geOk σ (x :: ge) → C) (hb : geOk σ (y :: ge) → C) (h : geOk σ ge) : C := split_at x ha (by rw [e]; exact hb) h
set_option maxRecDepth 100000 in
theorem isff_in (n m la ls : Int) (sa ss a1 a2 s12 : ByteArray) (b13 b14 : Bool) (i15 i16 i17 i18 i19 : Int) (w : World) (hnl : nlOk (mkGh [.string sa, .string ss, .bool false, .bool false, .bool false, .bool false, .bool false, .bool false, .bool false, .bool false, .string a1, .string a2, .string s12, .bool b13, .bool b14, .int .i64 i15, .int .i64 i16, .int .i64 i17, .int .i64 i18, .int .i64 i19] [n, m, la, ls] rfl) [⟨30, .i64, (0,[(2,1)]), (0,[]), 0⟩, ⟨30, .i64, (0,[(3,1)]), (0,[]), 1⟩, ⟨31, .i64, (4,[]), (1263419714,[]), 0⟩, ⟨31, .i64, (2,[]), (16720,[]), 0⟩, ⟨31, .i64, (2,[]), (16976,[]), 0⟩, ⟨31, .i64, (2,[]), (16721,[]), 0⟩, ⟨31, .i64, (2,[]), (16977,[]), 0⟩, ⟨31, .i64, (2,[]), (16722,[]), 0⟩, ⟨31, .i64, (2,[]), (16978,[]), 0⟩, ⟨31, .i64, (1,[]), (88,[]), 1⟩, ⟨31, .i64, (1,[]), (89,[]), 1⟩, ⟨31, .i64, (1,[]), (90,[]), 1⟩, ⟨31, .i64, (3,[]), (5395781,[]), 1⟩, ⟨31, .i64, (3,[]), (4477781,[]), 1⟩]) (hT : HooksOk Tryz.prog (mkGh [.string sa, .string ss, .bool false, .bool false, .bool false, .bool false, .bool false, .bool false, .bool false, .bool false, .string a1, .string a2, .string s12, .bool b13, .bool b14, .int .i64 i15, .int .i64 i16, .int .i64 i17, .int .i64 i18, .int .i64 i19] [n, m, la, ls] rfl) (hkT isT)) (hI : bdOk (mkGh [.string sa, .string ss, .bool false, .bool false, .bool false, .bool false, .bool false, .bool false, .bool false, .bool false, .string a1, .string a2, .string s12, .bool b13, .bool b14, .int .i64 i15, .int .i64 i16, .int .i64 i17, .int .i64 i18, .int .i64 i19] [n, m, la, ls] rfl).σ isffI 0) : geOk (mkGh [.string sa, .string ss, .bool false, .bool false, .bool false, .bool false, .bool false, .bool false, .bool false, .bool false, .string a1, .string a2, .string s12, .bool b13, .bool b14, .int .i64 i15, .int .i64 i16, .int .i64 i17, .int .i64 i18, .int .i64 i19] [n, m, la, ls] rfl).σ [] → Calls Tryz.prog 4 #[.int .i64 n, .int .i64 m, .string sa, .string ss] w (TrueBelow w) := by
  have hm : ¬ ((mkGh [.string sa, .string ss, .bool false, .bool false, .bool false, .bool false, .bool false, .bool false, .bool false, .bool false, .string a1, .string a2, .string s12, .bool b13, .bool b14, .int .i64 i15, .int .i64 i16, .int .i64 i17, .int .i64 i18, .int .i64 i19] [n, m, la, ls] rfl)).mono := fun h => h
  have hl : concL (mkGh [.string sa, .string ss, .bool false, .bool false, .bool false, .bool false, .bool false, .bool false, .bool false, .bool false, .string a1, .string a2, .string s12, .bool b13, .bool b14, .int .i64 i15, .int .i64 i16, .int .i64 i17, .int .i64 i18, .int .i64 i19] [n, m, la, ls] rfl) (fun _ => none) isffArgs = some [.int .i64 n, .int .i64 m, .string sa, .string ss] := by simp [isffArgs, concL, conc, den, mkGh]
  exact (fun hg => isffu0 ⟨hI, hg, hnl⟩ hm hT hl w)
end Go.Proofs.YtkhckfpflfkjmaaGreat
