/- Operations, sixth part: slices. -/
import Derived.Test.YtjpkfdmjhgnmbaaGreatGvOps5
namespace Go.Proofs.YtjpkfdmjhgnmbaaGreat.Gv
open Go

theorem strL_slice (n x l u : Nat) (h1 : l ≤ u) (h2 : u ≤ n) :
    (⟨(strL n x).toArray⟩ : ByteArray).extract l u = ⟨(strL (u - l) (x / 256 ^ l % 256 ^ (u - l))).toArray⟩ := by
  apply ByteArray.ext
  rw [ByteArray.data_extract]
  rw [← strL_take (n - l) _ (u - l) (by omega), ← strL_drop]
  simp
theorem strL_size (n x : Nat) : (⟨(strL n x).toArray⟩ : ByteArray).size = n := by
  show (strL n x).toArray.size = n
  simp [strL_length]

section
variable {E : Env} {P : Program} {G : Gh} {φ : Mp} {h h' : H} {w : World} {s : Fr} {a : Act} {v : V} {o : Oper}

theorem HRel.skip (r : HRel G φ h w) (hf : φ h.next = none) (l : Loc) :
    HRel G (φ.put h.next l) { t := h.t, next := h.next + 1 } w ∧ Ext φ (φ.put h.next l) h { t := h.t, next := h.next + 1 } w := by
  have hlive : ∀ b x m, h.t.get b = some x → (φ.put h.next l) b = some m → φ b = some m := by
    intro b x m hb hm
    by_cases hn : b = h.next
    · subst hn; rw [r.fresh _ (Nat.le_refl _)] at hb; cases hb
    · rwa [Mp.put_other hn] at hm
  have r' := r.frame (Mp.le_put hf) hlive (fun _ _ => rfl)
  refine ⟨⟨r'.blk, r'.inj, fun b hb => r.fresh b (by have : h.next + 1 ≤ b := hb; omega)⟩, ⟨Mp.le_put hf, ?_, by simp, ?_⟩⟩
  · intro b hb hr
    rw [Mp.put_other (by simp only at hr; omega)]; exact hb
  · intro k ⟨b, x, m, h1, h2, h3⟩ _
    exact ⟨b, x, m, h1, hlive b x m h1 h2, h3⟩

theorem slice_ok (ok : EnvOk E P G) {t : Nat} {x : Operand} {lo hi mx : Option Operand} (ho : o.op = .slice t x lo hi mx) (hx : okOpn x = true)
    (hlo : ∀ y, lo = some y → okOpn y = true) (hhi : ∀ y, hi = some y → okOpn y = true) (hmx : ∀ y, mx = some y → okOpn y = true) (T : TRel G φ s a.tmps) (r : HRel G φ h w) (hf : Free φ h.next h'.next)
    (e : (opF E o).v s h = .ok v h') : Did G φ h w v h' ((execOp a.eval o).run P w) := by
  unfold opF at e
  simp only [ho, Box.use_v] at e
  have h1 := opn_ok T hx
  have fin : ∀ u, (Instr.sliceAt t (a.eval x) (lo.map a.eval) (hi.map a.eval) (mx.map a.eval)).run P w = .ok u w → conc G φ v = some u → h' = h → Did G φ h w v h' ((execOp a.eval o).run P w) := by
    intro u hr hc hh
    subst hh
    refine ⟨φ, u, w, .inl ?_, hc, r, Frame.refl _ _ _, Ext.refl _ _ _⟩
    simp [execOp, ho, hr]
  unfold sliceF at e
  simp only [ok.ty] at e
  split at e
  · -- a string
    rename_i hk
    have hu := k_string hk
    cases mx with
    | some m => cases e
    | none =>
      simp only [Option.isSome_none, cond_false, Box.use_v] at e
      generalize (opn x).v s = y at e h1
      cases y with
      | str n z =>
        have e2 := optN_ok hlo T e
        clear e
        obtain ⟨l, e, hl⟩ := e2
        have e2 := optN_ok hhi T e
        clear e
        obtain ⟨u, e, hu'⟩ := e2
        have e2 := bif_ok e
        clear e
        obtain ⟨hb, e⟩ := e2
        simp only [Bool.and_eq_true, nble, decide_eq_true_eq] at hb
        cases e
        rw [conc] at h1
        have h2 := (Option.some.inj h1).symm
        have hbd := bounds_ok (P := P) (w := w) (isS := false) (m := n) (mx := none) hl hu' (.inl ⟨rfl, rfl⟩) (fun hh => absurd rfl hh) hb.1 hb.2 (Nat.le_refl n)
        simp only [Option.map_none] at hbd
        refine fin (.string ((⟨(strL n z).toArray⟩ : ByteArray).extract l u)) ?_ ?_ rfl
        · rw [h2]
          simp [Instr.sliceAt, Instr.slice, run_underlying hu, strL_size, hbd]
        · rw [conc, strL_slice n z l u hb.1 hb.2]
      | _ => cases e
  · rename_i el hk
    have hu := k_slice hk
    cases hc : ((mkTI P el).has && (hi.isSome || mx.isNone)) with
    | false => rw [hc] at e; cases e
    | true =>
      rw [hc, Bool.not_true, cond_false] at e
      rw [Bool.and_eq_true] at hc
      obtain ⟨inf, hinf, hsz, _⟩ := has_ok hc.1
      have hmh : mx ≠ none → hi ≠ none := by
        intro h1 h2; rw [h2] at hc; cases mx with
        | none => exact h1 rfl
        | some m => simp at hc
      simp only [Box.use_v] at e
      generalize (opn x).v s = y at e h1
      cases y with
      | slice b off len cap xx =>
        have e2 := optN_ok hlo T e
        clear e
        obtain ⟨l, e, hl⟩ := e2
        have e2 := optN_ok hhi T e
        clear e
        obtain ⟨u, e, hu'⟩ := e2
        have e2 := optN_ok hmx T e
        clear e
        obtain ⟨m, e, hm'⟩ := e2
        have e2 := bif_ok e
        clear e
        obtain ⟨hb, e⟩ := e2
        simp only [Bool.and_eq_true, nble, decide_eq_true_eq] at hb
        obtain ⟨⟨hb1, hb2⟩, hb3⟩ := hb
        obtain ⟨lc, hlc, h2⟩ := conc_slice h1
        -- the true bound
        have hreal : ∃ M, ((mx = none ∧ M = (bif xx then cap + lc.slack else cap)) ∨ (∃ y kd, mx = some y ∧ a.eval y = .int kd (Int.ofNat M))) ∧
            M = (bif (bif mx.isNone then xx else false) then m + lc.slack else m) ∧ M ≤ (bif xx then cap + lc.slack else cap) := by
          rcases hm' with ⟨hm0, rfl⟩ | ⟨y3, k3, hm0, hm1⟩
          · exact ⟨_, .inl ⟨hm0, rfl⟩, by rw [hm0]; rfl, Nat.le_refl _⟩
          · refine ⟨m, .inr ⟨y3, k3, hm0, hm1⟩, by rw [hm0]; rfl, ?_⟩
            cases xx
            · exact hb3
            · exact Nat.le_trans hb3 (Nat.le_add_right _ _)
        obtain ⟨M, hM1, hM2, hM3⟩ := hreal
        have hmM : m ≤ M := by rw [hM2]; cases (bif mx.isNone then xx else false) <;> simp
        have hbd := bounds_ok (P := P) (w := w) (isS := true) (len := len) hl hu' hM1 hmh hb1 (Nat.le_trans hb2 hmM) hM3
        have hrun : (Instr.sliceAt t (a.eval x) (lo.map a.eval) (hi.map a.eval) (mx.map a.eval)).run P w =
            .ok (.slice (if M = l then some ⟨lc.blk, off, none⟩ else some ⟨lc.blk, off + l * (mkTI P el).size, none⟩) (u - l) (M - l)) w := by
          rw [h2]
          simp [Instr.sliceAt, Instr.slice, run_underlying hu, hbd, sizeOf, typeInfo, hinf, hsz, Addr.add_lit]
        cases hl0 : Nat.beq l 0 with
        | true =>
          rw [hl0, cond_true] at e
          cases e
          rw [nbeq, decide_eq_true_eq] at hl0
          subst hl0
          refine fin _ hrun ?_ rfl
          rw [conc, hlc]
          simp only [hM2, Nat.zero_mul, Nat.add_zero, Nat.sub_zero]
          split <;> rfl
        | false =>
          rw [hl0, cond_false] at e
          cases hlm : Nat.beq l m with
          | true =>
            rw [hlm, cond_true] at e
            rw [nbeq, decide_eq_true_eq] at hlm
            subst hlm
            have hul : u = l := by omega
            subst hul
            cases hn : (mx.isNone && xx) with
            | true =>
              rw [hn, cond_true] at e
              rw [Bool.and_eq_true] at hn
              rw [hn.1, hn.2] at hM2
              simp only [cond_true] at hM2
              cases e
              have hfn : φ h.next = none := hf _ (Nat.le_refl _) (by simp)
              obtain ⟨r', hx'⟩ := r.skip hfn ⟨lc.blk, if M = u then off else off + u * (mkTI P el).size, lc.slack⟩
              refine ⟨_, _, w, .inl (by simp only [execOp, ho, Sem.run_bind, hrun, Result.andThen_ok]; rfl), ?_, r', Frame.refl _ _ _, hx'⟩
              rw [conc, Mp.put_self]
              simp only [Nat.sub_self]
              rw [show M - u = lc.slack by omega]
              split <;> rfl
            | false =>
              rw [hn, cond_false] at e
              cases e
              have hMl : M = u := by
                rw [hM2]
                cases hmn : mx.isNone with
                | false => rfl
                | true =>
                  rw [hmn, Bool.true_and] at hn
                  rw [hn]; rfl
              refine fin _ hrun ?_ rfl
              rw [conc, hlc, if_pos hMl, hMl]
              simp
          | false =>
            rw [hlm, cond_false] at e
            cases e
            have hne : M ≠ l := by
              have := hlm
              rw [nbeq, decide_eq_false_iff_not] at this
              omega
            refine fin _ hrun ?_ rfl
            rw [conc, hlc, if_neg hne, hM2]
            rw [nbeq, decide_eq_false_iff_not] at hlm
            have hcap : (bif (bif mx.isNone then xx else false) then m - l + lc.slack else m - l) = (bif (bif mx.isNone then xx else false) then m + lc.slack else m) - l := by
              cases (bif mx.isNone then xx else false)
              · rfl
              · simp only [cond_true]; omega
            exact congrArg (fun c => some (Value.slice (some ⟨lc.blk, off + l * (mkTI P el).size, none⟩) (u - l) c)) hcap
      | emp i =>
        have e2 := optN_ok hlo T e
        clear e
        obtain ⟨l, e, hl⟩ := e2
        have e2 := optN_ok hhi T e
        clear e
        obtain ⟨u, e, hu'⟩ := e2
        have e2 := bif_ok e
        clear e
        obtain ⟨hb, e⟩ := e2
        simp only [Bool.and_eq_true, nbeq, decide_eq_true_eq] at hb
        obtain ⟨⟨hb1, rfl⟩, rfl⟩ := hb
        cases e
        cases mx with
        | some m => cases hb1
        | none =>
          have h1' := h1
          rw [conc] at h1'
          cases hi' : φ i with
          | none => rw [hi'] at h1'; cases h1'
          | some lc =>
            rw [hi'] at h1'
            have h2 := (Option.some.inj h1').symm
            have hbd := bounds_ok (P := P) (w := w) (isS := true) (len := 0) (cap := lc.slack) (m := lc.slack) (mx := none) hl hu' (.inl ⟨rfl, rfl⟩) (fun hh => absurd rfl hh) (Nat.le_refl 0) (Nat.zero_le _) (Nat.le_refl _)
            simp only [Option.map_none] at hbd
            refine fin (a.eval x) ?_ h1 rfl
            rw [h2]
            simp [Instr.sliceAt, Instr.slice, run_underlying hu, hbd, sizeOf, typeInfo, hinf, Addr.add_lit]
      | nilslice =>
        have e2 := optN_ok hlo T e
        clear e
        obtain ⟨l, e, hl⟩ := e2
        have e2 := optN_ok hhi T e
        clear e
        obtain ⟨u, e, hu'⟩ := e2
        have e2 := optN_ok hmx T e
        clear e
        obtain ⟨m, e, hm'⟩ := e2
        have e2 := bif_ok e
        clear e
        obtain ⟨hb, e⟩ := e2
        simp only [Bool.and_eq_true, nbeq, decide_eq_true_eq] at hb
        obtain ⟨⟨rfl, rfl⟩, rfl⟩ := hb
        cases e
        have h1' := h1
        rw [conc] at h1'
        have h2 := (Option.some.inj h1').symm
        have hbd := bounds_ok (P := P) (w := w) (isS := true) (len := 0) (cap := 0) hl hu' hm' hmh (Nat.le_refl 0) (Nat.zero_le _) (Nat.le_refl _)
        refine fin (a.eval x) ?_ h1 rfl
        rw [h2]
        simp [Instr.sliceAt, Instr.slice, run_underlying hu, hbd, sizeOf, typeInfo, hinf]
      | _ => cases e
  · rename_i n el hk
    have hu := k_array hk
    cases hc : ((mkTI P el).has && (hi.isSome || mx.isNone)) with
    | false => rw [hc] at e; cases e
    | true =>
      rw [hc, Bool.not_true, cond_false] at e
      rw [Bool.and_eq_true] at hc
      obtain ⟨inf, hinf, hsz, _⟩ := has_ok hc.1
      have hmh : mx ≠ none → hi ≠ none := by
        intro h1 h2; rw [h2] at hc; cases mx with
        | none => exact h1 rfl
        | some m => simp at hc
      simp only [Box.use_v] at e
      obtain ⟨b, off, hy, e⟩ := onPtr_ok e
      rw [hy] at h1
      obtain ⟨lc, hlc, h2⟩ := conc_ptr h1
      have e2 := optN_ok hlo T e
      clear e
      obtain ⟨l, e, hl⟩ := e2
      have e2 := optN_ok hhi T e
      clear e
      obtain ⟨u, e, hu'⟩ := e2
      have e2 := optN_ok hmx T e
      clear e
      obtain ⟨m, e, hm'⟩ := e2
      have e2 := bif_ok e
      clear e
      obtain ⟨hb, e⟩ := e2
      simp only [Bool.and_eq_true, nble, decide_eq_true_eq] at hb
      obtain ⟨⟨hb1, hb2⟩, hb3⟩ := hb
      have hbd := bounds_ok (P := P) (w := w) (isS := false) (len := n) (cap := n) hl hu' hm' hmh hb1 hb2 hb3
      have hrun : (Instr.sliceAt t (a.eval x) (lo.map a.eval) (hi.map a.eval) (mx.map a.eval)).run P w =
          .ok (.slice (if m = l then some ⟨lc.blk, off, none⟩ else some ⟨lc.blk, off + l * (mkTI P el).size, none⟩) (u - l) (m - l)) w := by
        rw [h2]
        simp [Instr.sliceAt, Instr.sureAddr, run_underlying hu, hbd, sizeOf, typeInfo, hinf, hsz, Addr.add_lit]
        split <;> rfl
      cases hlm : Nat.beq l m with
      | true =>
        rw [hlm, cond_true] at e
        rw [nbeq, decide_eq_true_eq] at hlm
        cases e
        refine fin _ hrun ?_ rfl
        rw [conc, hlc, if_pos hlm.symm]
        simp only [cond_false]
        rw [show u - l = 0 by omega, show m - l = 0 by omega]
      | false =>
        rw [hlm, cond_false] at e
        rw [nbeq, decide_eq_false_iff_not] at hlm
        cases e
        refine fin _ hrun ?_ rfl
        rw [conc, hlc, if_neg (fun hh => hlm hh.symm)]
        rfl
  · cases e
end
end Go.Proofs.YtjpkfdmjhgnmbaaGreat.Gv
