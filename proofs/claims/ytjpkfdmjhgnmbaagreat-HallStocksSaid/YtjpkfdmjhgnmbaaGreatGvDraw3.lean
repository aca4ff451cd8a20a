/- Regions that draw their order, third part: one operation on the frame of its own operands. -/
import Derived.Test.YtjpkfdmjhgnmbaaGreatGvDraw2
namespace Go.Proofs.YtjpkfdmjhgnmbaaGreat.Gv
open Go
section
variable {E : Env} {P : Program} {G : Gh} {φ : Mp} {h h' : H} {w : World} {s : Fr} {a : Act} {v : V} {o : Oper}

theorem pickF_cons (t : Nat) (ts : List Nat) : (pickF (t :: ts)).v s = (Fr.set t).v ((Fr.get t).v s) ((pickF ts).v s) := by
  show ((pickF ts).use fun k => (Fr.get t).use fun g => (Fr.set t).use fun p => (⟨fun s => p (g s) (k s)⟩ : Box (Fr → Fr))).v s = _
  simp only [Box.use_v]
theorem pickF_get {t : Nat} (ht : t < 4096) : ∀ (ts : List Nat), (∀ x ∈ ts, x < 4096) → (Fr.get t).v ((pickF ts).v s) = if t ∈ ts then (Fr.get t).v s else .undef
  | [], _ => by rw [if_neg (by simp)]; exact Fr.get_new t ht
  | x :: ts, hts => by
    rw [pickF_cons, Fr.get_set _ _ (hts x (by simp)) ht]
    by_cases hx : t = x
    · subst hx; rw [if_pos rfl, if_pos (by simp)]
    · rw [if_neg hx, pickF_get ht ts (fun y hy => hts y (by simp [hy]))]
      by_cases hm : t ∈ ts
      · rw [if_pos hm, if_pos (by simp [hm])]
      · rw [if_neg hm, if_neg (by simp [hm, hx])]
/-- The looked-at temporaries stand for what they should. -/
def Looks (G : Gh) (φ : Mp) (s : Fr) (a : Act) (ts : List Nat) : Prop := ∀ t ∈ ts, t < 4096 → conc G φ ((Fr.get t).v s) = some (a.tmps.getD t undef)
theorem ofFn_get (m : Nat) (f : Nat → Value) {t : Nat} (ht : t < m) : (Array.ofFn (n := m) fun t => f t.1).getD t undef = f t := by
  simp [ht]
theorem pick_rel {ts : List Nat} (hts : ∀ x ∈ ts, x < 4096) (L : Looks G φ s a ts) : ∃ a' : Act, TRel G φ ((pickF ts).v s) a'.tmps ∧ ∀ t ∈ ts, a'.tmps.getD t undef = a.tmps.getD t undef := by
  obtain ⟨A, hget⟩ : ∃ A : Array Value, ∀ t, t < 4096 → A.getD t undef = if t ∈ ts then a.tmps.getD t undef else undef := ⟨_, fun t ht => ofFn_get 4096 _ ht⟩
  refine ⟨⟨A, []⟩, fun t ht => ?_, fun t hm => ?_⟩
  · rw [pickF_get ht ts hts]
    by_cases hm : t ∈ ts
    · rw [if_pos hm, (hget t ht).trans (if_pos hm)]; exact L t hm ht
    · rw [if_neg hm, (hget t ht).trans (if_neg hm), conc]; rfl
  · exact (hget t (hts t hm)).trans (if_pos hm)
theorem looks_tmp {all : List Oper} {t : Nat} (h : .tmp t ∈ o.op.operands) : t ∈ looksL all o := by
  refine List.mem_append_left _ (List.mem_filterMap.2 ⟨.tmp t, by simpa using h, rfl⟩)
theorem looks_lt {all : List Oper} (hc : o.op.operands.toList.all okOpn = true) : ∀ t ∈ looksL all o, t < 4096 := by
  intro t ht
  unfold looksL at ht
  rw [List.mem_append] at ht
  rcases ht with ht | ht
  · obtain ⟨x, hx, hxt⟩ := List.mem_filterMap.1 ht
    have := List.all_eq_true.1 hc x hx
    cases x with
    | tmp u =>
      simp at hxt
      subst hxt
      rw [okOpn, nblt, decide_eq_true_eq] at this
      exact this
    | _ => cases hxt
  · cases hg : o.guard with
    | none => rw [hg] at ht; cases ht
    | some gw =>
      rw [hg] at ht
      dsimp only at ht
      cases hd : dstOf all gw.1 with
      | none => rw [hd] at ht; cases ht
      | some d =>
        rw [hd] at ht
        simp at ht
        subst ht
        exact (dstOf_ok hd).1
theorem exec_pick {all : List Oper} (hs : notSel o = true) {a' : Act} (hc : ∀ t ∈ looksL all o, a'.tmps.getD t undef = a.tmps.getD t undef) : execOp a'.eval o = execOp a.eval o := by
  refine execOp_congr (ρ := a'.eval) (ρ' := a.eval) o (fun cs b e => ?_) (fun x hx => ?_)
  · unfold notSel at hs; rw [e] at hs; cases hs
  · cases x with
    | tmp t => exact hc t (looks_tmp hx)
    | _ => rfl
theorem stepF_opn {call : Call} (e : (stepF E o).v call s h = .ok v h') : o.op.operands.toList.all okOpn = true := by
  unfold stepF at e
  cases hc : o.op.operands.toList.all okOpn with
  | false => rw [hc] at e; cases e
  | true => rfl

theorem read_ok (ok : EnvOk E P G) {call : Call} (hr : isRead o = true) (T : TRel G φ s a.tmps) (r : HRel G φ h w) (e : (stepF E o).v call s h = .ok v h') :
    h' = h ∧ ∃ u, (execOp a.eval o).run P w = .ok (.value u) w ∧ conc G φ v = some u := by
  have hc := stepF_opn e
  unfold stepF at e
  rw [hc, cond_true] at e
  have e2 : (opF E o).v s h = .ok v h' := by
    unfold stepG at e
    cases ho : o.op with
    | call c => unfold isRead at hr; rw [ho] at hr; cases hr
    | _ => rw [ho] at e; simp only [Box.use_v] at e; exact e
  cases ho : o.op with
  | load t x =>
    rw [ho] at hc
    have hx : okOpn x = true := by simpa [Op.operands] using hc
    unfold opF at e2
    rw [ho] at e2
    simp only [ok.ty] at e2
    cases ht : (mkTI P t).has with
    | false => rw [ht] at e2; cases e2
    | true =>
      rw [ht] at e2
      simp only [Bool.not_true, cond_false, Box.use_v] at e2
      obtain ⟨b, p, hp, e3⟩ := onPtr_ok e2
      have hT := opn_ok T hx
      rw [hp] at hT
      obtain ⟨l, hl, hu⟩ := conc_ptr hT
      obtain ⟨h1, u, h2, h3⟩ := loadF_ok r ht hl e3
      refine ⟨h1, u, ?_, h3⟩
      simp [execOp, ho, Instr.loadAt, Instr.sureAddr, hu, h2]
  | lookup t x k c =>
    rw [ho] at hc
    simp [Op.operands] at hc
    exact lookup_ok ok ho hc.1 hc.2 T r e2
  | _ => unfold isRead at hr; rw [ho] at hr; cases hr

theorem body_loud (ok : EnvOk E P G) {call : Call} (ck : CallOk P G call) {all : List Oper} {ms : List Nat} {j : Nat} (hs : notSel o = true) (hl : isLoud o = true) (L : Looks G φ s a (looksL all o)) (r : HRel G φ h w) (hf : Free φ h.next h'.next)
    (e : (bodyD E all ms j o).v call s h = .ok v h') : Gives P (Post G φ h w v h') ((execOp a.eval o).run P w) := by
  unfold bodyD at e
  rw [hl] at e
  simp only [Box.use_v] at e
  have hc := stepF_opn e
  obtain ⟨a', T, ha⟩ := pick_rel (looks_lt hc) L
  have := step_ok ok ck T r hf e
  rwa [exec_pick hs ha] at this
theorem body_read (ok : EnvOk E P G) {call : Call} {all : List Oper} {ms : List Nat} {j : Nat} (hs : notSel o = true) (hl : isLoud o = false) (hr : isRead o = true) (L : Looks G φ s a (looksL all o)) (r : HRel G φ h w)
    (e : (bodyD E all ms j o).v call s h = .ok v h') : h' = h ∧ ∃ u, (execOp a.eval o).run P w = .ok (.value u) w ∧ conc G φ v = some u := by
  unfold bodyD at e
  rw [hl, hr] at e
  simp only [Box.use_v] at e
  unfold readD at e
  split at e
  · rename_i v1 h1 e1
    cases e
    have hc := stepF_opn e1
    obtain ⟨a', T, ha⟩ := pick_rel (looks_lt hc) L
    obtain ⟨_, u, h2, h3⟩ := read_ok ok hr T r e1
    rw [exec_pick hs ha] at h2
    exact ⟨rfl, u, h2, h3⟩
  · cases e
/-- What a quiet operation makes of the memory of the text. -/
def Quiet (all : List Oper) (ms : List Nat) (j : Nat) (h h' : H) (h1 : H) : Prop :=
  (h1.next = h.next ∧ h' = h) ∨ (h1.next = h.next + 1 ∧ late all ms j = true ∧ h' = h.more h1)
theorem body_det (ok : EnvOk E P G) {call : Call} (ck : CallOk P G call) {all : List Oper} {ms : List Nat} {j : Nat} (hs : notSel o = true) (hl : isLoud o = false) (hr : isRead o = false) (e : (bodyD E all ms j o).v call s h = .ok v h') :
    ∃ h1, Quiet all ms j h h' h1 ∧ ∀ (φ : Mp) (a : Act) (w : World), Looks G φ s a (looksL all o) → Free φ h.next h1.next → Gives P (Post G φ ⟨.lf, h.next⟩ w v h1) ((execOp a.eval o).run P w) := by
  unfold bodyD at e
  rw [hl, hr] at e
  simp only [Box.use_v] at e
  have key : ∀ v1 h1, (stepF E o).v call ((pickF (looksL all o)).v s) ⟨.lf, h.next⟩ = .ok v1 h1 → ∀ (φ : Mp) (a : Act) (w : World), Looks G φ s a (looksL all o) → Free φ h.next h1.next → Gives P (Post G φ ⟨.lf, h.next⟩ w v1 h1) ((execOp a.eval o).run P w) := by
    intro v1 h1 e1 φ a w L hf
    have hc := stepF_opn e1
    have r0 : HRel G φ ⟨.lf, h.next⟩ w := ⟨fun b x l hb => (nomatch hb), fun b b' x x' l l' hb => (nomatch hb), fun b _ => rfl⟩
    obtain ⟨a', T, ha⟩ := pick_rel (looks_lt hc) L
    have := step_ok ok ck T r0 hf e1
    rwa [exec_pick hs ha] at this
  unfold detD at e
  split at e
  · rename_i v1 h1 e1
    have hk := key _ _ e1
    simp only [nbeq] at e
    by_cases h2 : h1.next = h.next
    · rw [decide_eq_true h2, cond_true] at e
      cases e
      exact ⟨h1, .inl ⟨h2, rfl⟩, hk⟩
    · rw [decide_eq_false h2, cond_false] at e
      cases hc : (late all ms j && decide (h1.next = h.next + 1)) with
      | false => rw [hc] at e; cases e
      | true =>
        rw [hc, cond_true] at e
        cases e
        rw [Bool.and_eq_true, decide_eq_true_eq] at hc
        exact ⟨h1, .inr ⟨hc.2, hc.1, rfl⟩, hk⟩
  · cases e
theorem drawOp_ok {call : Call} {all : List Oper} {ms : List Nat} {j : Nat} (L : Looks G φ s a (looksL all o)) (e : (drawOp E all ms j o).v call s h = .ok v h') :
    (Region.wanted o (yielded all.toArray a.tmps) = true ∧ (bodyD E all ms j o).v call s h = .ok v h') ∨ (Region.wanted o (yielded all.toArray a.tmps) = false ∧ v = .undef ∧ h' = h) := by
  unfold drawOp at e
  rw [Box.use_v] at e
  split at e
  · rename_i hg
    exact .inl ⟨by unfold Region.wanted; simp only [hg], e⟩
  · rename_i i want hg
    split at e
    · cases e
    · rename_i d hd
      rw [Box.use_v] at e
      dsimp only at e
      have hm : d ∈ looksL all o := by
        unfold looksL
        rw [hg]
        simp [hd]
      obtain ⟨w1, w2⟩ := wanted_at (a := a) hg hd (L d hm (dstOf_ok hd).1)
      split at e
      · rename_i b hb
        split at e
        · rename_i hbw
          exact .inl ⟨(w1 b hb).trans hbw, e⟩
        · rename_i hbw
          cases e
          exact .inr ⟨(w1 b hb).trans hbw, rfl, rfl⟩
      · rename_i hb
        cases e
        exact .inr ⟨w2 hb, rfl, rfl⟩
      · cases e
end
end Go.Proofs.YtjpkfdmjhgnmbaaGreat.Gv
