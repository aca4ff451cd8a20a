/- One operation's run, of whatever kind. -/
import Derived.Test.YtjpkfdmjhgnmbaaGreatGvStep
namespace Go.Proofs.YtjpkfdmjhgnmbaaGreat.Gv
open Go

section
variable {E : Env} {P : Program} {G : Gh} {φ : Mp} {h h' : H} {w : World} {s : Fr} {a : Act} {v : V} {o : Oper}
theorem optOk {x : Option Operand} (h : x.toArray.toList.all okOpn = true) : ∀ y, x = some y → okOpn y = true := by
  intro y hy
  subst hy
  simpa using h
theorem opF_ok (ok : EnvOk E P G) (hc : o.op.operands.toList.all okOpn = true) (T : TRel G φ s a.tmps) (r : HRel G φ h w) (hf : Free φ h.next h'.next)
    (e : (opF E o).v s h = .ok v h') : Did G φ h w v h' ((execOp a.eval o).run P w) := by
  cases ho : o.op with
  | move x =>
    rw [ho] at hc
    refine move_ok (.inl ho) (by simpa [Op.operands] using hc) T r ?_
    unfold opF at e; rw [ho] at e; exact e
  | assign x =>
    rw [ho] at hc
    refine move_ok (.inr ho) (by simpa [Op.operands] using hc) T r ?_
    unfold opF at e; rw [ho] at e; exact e
  | pick c x y =>
    rw [ho] at hc
    simp [Op.operands] at hc
    exact pick_ok ho hc.1 hc.2.1 hc.2.2 T r e
  | alloc t => exact alloc_ok ok ho r hf e
  | box t x =>
    rw [ho] at hc
    exact box_ok ok ho (by simpa [Op.operands] using hc) T r hf e
  | build t ps =>
    rw [ho] at hc
    refine build_ok ok ho (fun p hp => ?_) T r e
    refine List.all_eq_true.1 hc p.2 ?_
    simp only [Op.operands, List.mem_map]
    exact ⟨p, hp, rfl⟩
  | buildSlice t n ps =>
    rw [ho] at hc
    refine buildSlice_ok ok ho (fun p hp => ?_) T r hf e
    refine List.all_eq_true.1 hc p.2 ?_
    simp only [Op.operands, List.mem_map]
    exact ⟨p, hp, rfl⟩
  | load t x =>
    rw [ho] at hc
    exact load_ok ok ho (by simpa [Op.operands] using hc) T r e
  | store t x y =>
    rw [ho] at hc
    simp [Op.operands] at hc
    exact store_ok ok ho hc.1 hc.2 T r e
  | nilCheck x =>
    rw [ho] at hc
    exact nilCheck_ok ho (by simpa [Op.operands] using hc) T r e
  | binOp op t x y yt =>
    rw [ho] at hc
    simp [Op.operands] at hc
    exact binOp_ok ok ho hc.1 hc.2 T r e
  | unOp op t x =>
    rw [ho] at hc
    cases op with
    | not => exact not_ok ho (by simpa [Op.operands] using hc) T r e
    | neg => exact neg_ok ok ho (by simpa [Op.operands] using hc) T r e
    | _ => unfold opF at e; rw [ho] at e; cases e
  | convert src dst x =>
    rw [ho] at hc
    exact conv_ok ok ho (by simpa [Op.operands] using hc) T r e
  | makeInterface t x =>
    rw [ho] at hc
    exact makeInterface_ok ok ho (by simpa [Op.operands] using hc) T r e
  | makeFunc fn f c =>
    rw [ho] at hc
    simp only [Op.operands, Array.toList_append, List.all_append, Bool.and_eq_true] at hc
    exact makeFunc_ok ho hc.1 hc.2 T r e
  | makeMap t x =>
    cases x with
    | none => exact makeMap_ok ho r hf e
    | some x => unfold opF at e; rw [ho] at e; cases e
  | makeSlice t x y =>
    rw [ho] at hc
    simp [Op.operands] at hc
    exact makeSlice_ok ok ho hc.1 hc.2 T r hf e
  | slice t x lo hi mx =>
    rw [ho] at hc
    simp only [Op.operands, Array.toList_append, List.all_append, Bool.and_eq_true] at hc
    exact slice_ok ok ho (by simpa using hc.1.1.1) (optOk hc.1.1.2) (optOk hc.1.2) (optOk hc.2) T r hf e
  | fieldAddr t x f =>
    rw [ho] at hc
    exact fieldAddr_ok ok ho (by simpa [Op.operands] using hc) T r e
  | field t x f =>
    rw [ho] at hc
    exact field_ok ok ho (by simpa [Op.operands] using hc) T r e
  | indexAddr t x y =>
    rw [ho] at hc
    simp [Op.operands] at hc
    exact indexAddr_ok ok ho hc.1 hc.2 T r e
  | index t x y =>
    rw [ho] at hc
    simp [Op.operands] at hc
    exact index_ok ok ho hc.1 hc.2 T r e
  | lookup t x k c =>
    rw [ho] at hc
    simp [Op.operands] at hc
    obtain ⟨rfl, u, h1, h2⟩ := lookup_ok ok ho hc.1 hc.2 T r e
    exact ⟨φ, u, w, .inl h1, h2, r, Frame.refl _ _ _, Ext.refl _ _ _⟩
  | mapUpdate t m k x =>
    rw [ho] at hc
    simp [Op.operands] at hc
    refine upd_ok ok (.inl ho) hc.1 hc.2.1 hc.2.2 T r ?_
    unfold opF at e; rw [ho] at e; exact e
  | insert t m k x =>
    rw [ho] at hc
    simp [Op.operands] at hc
    refine upd_ok ok (.inr ho) hc.1 hc.2.1 hc.2.2 T r ?_
    unfold opF at e; rw [ho] at e; exact e
  | range t x =>
    rw [ho] at hc
    exact range_ok ok ho (by simpa [Op.operands] using hc) T r hf e
  | next it b =>
    rw [ho] at hc
    cases b with
    | false => exact next_ok ho (by simpa [Op.operands] using hc) T r e
    | true => unfold opF at e; rw [ho] at e; cases e
  | typeAssert x t u b =>
    rw [ho] at hc
    exact typeAssert_ok ok ho (by simpa [Op.operands] using hc) T r e
  | extract x i =>
    rw [ho] at hc
    exact extract_ok ho (by simpa [Op.operands] using hc) T r e
  | _ => unfold opF at e; rw [ho] at e; cases e

theorem step_ok (ok : EnvOk E P G) {call : Call} (ck : CallOk P G call) (T : TRel G φ s a.tmps) (r : HRel G φ h w) (hf : Free φ h.next h'.next)
    (e : (stepF E o).v call s h = .ok v h') : Gives P (Post G φ h w v h') ((execOp a.eval o).run P w) := by
  unfold stepF at e
  cases hc : o.op.operands.toList.all okOpn with
  | false => rw [hc] at e; cases e
  | true =>
    rw [hc, cond_true] at e
    cases ho : o.op with
    | call c => rw [ho] at hc; exact call_ok ok ck ho hc T r hf e
    | _ =>
      refine (opF_ok ok hc T r hf ?_).gives
      unfold stepG at e
      rw [ho] at e
      simp only [Box.use_v] at e
      exact e
end
end Go.Proofs.YtjpkfdmjhgnmbaaGreat.Gv
