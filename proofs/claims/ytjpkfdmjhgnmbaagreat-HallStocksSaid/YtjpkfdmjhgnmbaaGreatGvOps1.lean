/- Operations, first part: moves, memory, addresses. -/
import Derived.Test.YtjpkfdmjhgnmbaaGreatGvMem
namespace Go.Proofs.YtjpkfdmjhgnmbaaGreat.Gv
open Go

theorem okAll {x : Operand} {l : Array Operand} (h : l.toList.all okOpn = true) (hx : x ∈ l.toList) : okOpn x = true := List.all_eq_true.1 h x hx

section
variable {E : Env} {P : Program} {G : Gh} {φ : Mp} {h h' : H} {w : World} {s : Fr} {a : Act} {v : V} {o : Oper}

theorem move_ok {x : Operand} (ho : o.op = .move x ∨ o.op = .assign x) (hx : okOpn x = true) (T : TRel G φ s a.tmps) (r : HRel G φ h w)
    (e : ((opn x).use fun f => (⟨fun s h => .ok (f s) h⟩ : Box OpF)).v s h = .ok v h') : Did G φ h w v h' ((execOp a.eval o).run P w) := by
  rw [Box.use_v] at e
  cases e
  refine ⟨φ, a.eval x, w, .inl ?_, opn_ok T hx, r, Frame.refl _ _ _, Ext.refl _ _ _⟩
  rcases ho with ho | ho <;> simp [execOp, ho]

theorem pick_ok {c x y : Operand} (ho : o.op = .pick c x y) (hc : okOpn c = true) (hx : okOpn x = true) (hy : okOpn y = true) (T : TRel G φ s a.tmps) (r : HRel G φ h w)
    (e : (opF E o).v s h = .ok v h') : Did G φ h w v h' ((execOp a.eval o).run P w) := by
  unfold opF at e
  simp only [ho, Box.use_v] at e
  obtain ⟨b, hb, e⟩ := onBool_ok e
  cases e
  have h1 := opn_ok T hc
  rw [hb, conc] at h1
  have h1' : a.eval c = .bool b := (Option.some.inj h1).symm
  refine ⟨φ, (bif b then a.eval x else a.eval y), w, .inl ?_, ?_, r, Frame.refl _ _ _, Ext.refl _ _ _⟩
  · cases b <;> simp [execOp, ho, h1', asBool]
  · cases b
    · exact opn_ok T hy
    · exact opn_ok T hx

theorem load_ok (ok : EnvOk E P G) {t : Nat} {x : Operand} (ho : o.op = .load t x) (hx : okOpn x = true) (T : TRel G φ s a.tmps) (r : HRel G φ h w)
    (e : (opF E o).v s h = .ok v h') : Did G φ h w v h' ((execOp a.eval o).run P w) := by
  unfold opF at e
  simp only [ho, ok.ty] at e
  cases hh : (mkTI P t).has with
  | false => rw [hh] at e; cases e
  | true =>
    rw [hh] at e
    simp only [Bool.not_true, cond_false, Box.use_v] at e
    obtain ⟨b, off, hb, e⟩ := onPtr_ok e
    have h1 := opn_ok T hx
    rw [hb] at h1
    obtain ⟨l, hl, hp⟩ := conc_ptr h1
    obtain ⟨rfl, u, hrun, hu⟩ := loadF_ok r hh hl e
    refine ⟨φ, u, w, .inl ?_, hu, r, Frame.refl _ _ _, Ext.refl _ _ _⟩
    simp [execOp, ho, hp, Instr.loadAt, Instr.sureAddr, hrun]

theorem store_ok (ok : EnvOk E P G) {t : Nat} {x y : Operand} (ho : o.op = .store t x y) (hx : okOpn x = true) (hy : okOpn y = true) (T : TRel G φ s a.tmps) (r : HRel G φ h w)
    (e : (opF E o).v s h = .ok v h') : Did G φ h w v h' ((execOp a.eval o).run P w) := by
  unfold opF at e
  simp only [ho, ok.ty] at e
  cases hh : (mkTI P t).has with
  | false => rw [hh] at e; cases e
  | true =>
    obtain ⟨i, hi, hsz, _⟩ := has_ok hh
    rw [hh] at e
    simp only [Bool.not_true, cond_false, Box.use_v] at e
    obtain ⟨b, off, hb, e⟩ := onPtr_ok e
    obtain ⟨hlen, e⟩ := bif_ok e
    rw [nbeq, decide_eq_true_eq] at hlen
    have h1 := opn_ok T hx
    rw [hb] at h1
    obtain ⟨l, hl, hp⟩ := conc_ptr h1
    obtain ⟨cs, n, sz, ex, hg, hm, hc, e⟩ := storeV_ok e
    cases e
    have hv := opn_ok T hy
    have hcv := cells_conc hc hv
    obtain ⟨w', hrun, r', hf, hx'⟩ := r.store (P := P) hg hl hm hc hcv
    refine ⟨φ, undef, w', .inr ⟨?_, rfl⟩, by rw [conc]; rfl, r', hf, hx'⟩
    have hcs : (a.eval y).cells.size = i.size := by
      have := concL_length hcv
      simp only [Array.length_toList] at this
      omega
    simp [execOp, ho, hp, Instr.storeAt, Instr.sureAddr, storeVar, sizeOf, typeInfo, hi, hcs, hrun]

theorem nilCheck_ok {x : Operand} (ho : o.op = .nilCheck x) (hx : okOpn x = true) (T : TRel G φ s a.tmps) (r : HRel G φ h w)
    (e : (opF E o).v s h = .ok v h') : Did G φ h w v h' ((execOp a.eval o).run P w) := by
  unfold opF at e
  simp only [ho, Box.use_v] at e
  have h1 := opn_ok T hx
  have key : ∀ u, a.eval x = u → (execOp a.eval o).run P w = .ok (.value u) w → conc G φ v = some u → h' = h → Did G φ h w v h' ((execOp a.eval o).run P w) := by
    intro u _ h2 h3 h4
    subst h4
    exact ⟨φ, u, w, .inl h2, h3, r, Frame.refl _ _ _, Ext.refl _ _ _⟩
  generalize hv : (opn x).v s = y at e h1
  cases y with
  | func fn f c =>
    cases fn with
    | method m => cases e
    | _ =>
      cases e
      have h1' := h1
      rw [conc] at h1'
      cases hf : concL G φ f with
      | none => rw [hf] at h1'; cases h1'
      | some f' =>
        cases hc : concL G φ c with
        | none => rw [hf, hc] at h1'; cases h1'
        | some c' =>
          rw [hf, hc] at h1'
          have h2 := (Option.some.inj h1').symm
          exact key _ h2 (by simp [execOp, ho, h2]) (by rw [h1, h2]) rfl
  | nilptr => cases e
  | nilif => cases e
  | nilfunc => cases e
  | opq i => cases e
  | ptr b off =>
    cases e
    obtain ⟨l, _, h2⟩ := conc_ptr h1
    exact key _ h2 (by simp [execOp, ho, h2]) (by rw [h1, h2]) rfl
  | slice b off n c xx =>
    cases e
    obtain ⟨l, _, h2⟩ := conc_slice h1
    exact key _ h2 (by simp [execOp, ho, h2]) (by rw [h1, h2]) rfl
  | map b =>
    cases e
    obtain ⟨l, _, h2⟩ := conc_map h1
    exact key _ h2 (by simp [execOp, ho, h2]) (by rw [h1, h2]) rfl
  | agg l =>
    cases e
    obtain ⟨m, _, h2⟩ := conc_agg h1
    exact key _ h2 (by simp [execOp, ho, h2]) (by rw [h1, h2]) rfl
  | tuple l =>
    cases e
    obtain ⟨m, _, h2⟩ := conc_tuple h1
    exact key _ h2 (by simp [execOp, ho, h2]) (by rw [h1, h2]) rfl
  | emp i =>
    cases e
    have h1' := h1
    rw [conc] at h1'
    cases hb : φ i with
    | none => rw [hb] at h1'; cases h1'
    | some l =>
      rw [hb] at h1'
      have h2 := (Option.some.inj h1').symm
      exact key _ h2 (by simp [execOp, ho, h2]) (by rw [h1, h2]) rfl
  | yld i =>
    cases e
    have h1' := h1
    rw [conc] at h1'
    cases hb : φ i with
    | none => rw [hb] at h1'; cases h1'
    | some l =>
      rw [hb] at h1'
      have h2 := (Option.some.inj h1').symm
      exact key _ h2 (by simp [execOp, ho, h2]) (by rw [h1, h2]) rfl
  | iface t z =>
    cases e
    have h1' := h1
    rw [conc] at h1'
    cases hb : conc G φ z with
    | none => rw [hb] at h1'; cases h1'
    | some l =>
      rw [hb] at h1'
      have h2 := (Option.some.inj h1').symm
      exact key _ h2 (by simp [execOp, ho, h2]) (by rw [h1, h2]) rfl
  | _ =>
    cases e
    have h1' := h1
    rw [conc] at h1'
    have h2 := (Option.some.inj h1').symm
    exact key _ h2 (by simp [execOp, ho, h2]) (by rw [h1, h2]) rfl

theorem alloc_ok (ok : EnvOk E P G) {t : Nat} (ho : o.op = .alloc t) (r : HRel G φ h w) (hf : Free φ h.next h'.next)
    (e : (opF E o).v s h = .ok v h') : Did G φ h w v h' ((execOp a.eval o).run P w) := by
  unfold opF at e
  simp only [ho, ok.ty] at e
  cases hz : (mkTI P t).zero with
  | none => rw [hz] at e; cases e
  | some z =>
    obtain ⟨i, zv, hi, hz', habs, hsz, _⟩ := zero_ok hz
    rw [hz] at e
    simp only [Box.use_v] at e
    obtain ⟨hc, hlen, e⟩ := newRow_ok e
    cases e
    have hfn : φ h.next = none := hf _ (Nat.le_refl _) (by simp [H.new])
    have hcv := cells_conc (φ := φ) hc (absV_ok G φ 4 _ _ habs)
    have hl := concL_length hcv
    obtain ⟨r', hfr, hx⟩ := r.newRow hfn (C := zv.cells) (sl := 0) (ex := true) (n := (mkTI P t).size) (sz := (mkTI P t).size) t hcv (by simp only [Array.length_toList] at hl; omega) (fun j _ => by simp) (fun _ => rfl)
    refine ⟨_, .pointer (some ⟨w.heap.size, 0, none⟩), _, .inl ?_, ?_, r', hfr, hx⟩
    · simp [execOp, ho, Instr.alloc, zeroValue, typeInfo, hi, hz', newVar, Go.newRow]
    · rw [conc, Mp.put_self]
theorem box_ok (ok : EnvOk E P G) {t : Nat} {x : Operand} (ho : o.op = .box t x) (hx : okOpn x = true) (T : TRel G φ s a.tmps) (r : HRel G φ h w) (hf : Free φ h.next h'.next)
    (e : (opF E o).v s h = .ok v h') : Did G φ h w v h' ((execOp a.eval o).run P w) := by
  unfold opF at e
  simp only [ho, ok.ty] at e
  cases hh : (mkTI P t).has with
  | false => rw [hh] at e; cases e
  | true =>
    rw [hh] at e
    simp only [Bool.not_true, cond_false, Box.use_v] at e
    obtain ⟨_, e⟩ := bif_ok e
    obtain ⟨hc, hlen, e⟩ := newRow_ok e
    cases e
    have hfn : φ h.next = none := hf _ (Nat.le_refl _) (by simp [H.new])
    have hcv := cells_conc hc (opn_ok T hx)
    have hl := concL_length hcv
    obtain ⟨r', hfr, hx⟩ := r.newRow hfn (C := (a.eval x).cells) (sl := 0) (ex := true) (n := (mkTI P t).size) (sz := (mkTI P t).size) t hcv (by simp only [Array.length_toList] at hl; omega) (fun j _ => by simp) (fun _ => rfl)
    refine ⟨_, .pointer (some ⟨w.heap.size, 0, none⟩), _, .inl ?_, ?_, r', hfr, hx⟩
    · simp [execOp, ho, Instr.box, newVar, Go.newRow]
    · rw [conc, Mp.put_self]
theorem makeInterface_ok (ok : EnvOk E P G) {t : Nat} {x : Operand} (ho : o.op = .makeInterface t x) (hx : okOpn x = true) (T : TRel G φ s a.tmps) (r : HRel G φ h w)
    (e : (opF E o).v s h = .ok v h') : Did G φ h w v h' ((execOp a.eval o).run P w) := by
  unfold opF at e
  simp only [ho, ok.ty] at e
  have key : (mkTI P t).k ≠ .iface → (mkTI P t).k ≠ .other → v = .iface t ((opn x).v s) → h' = h → Did G φ h w v h' ((execOp a.eval o).run P w) := by
    intro h1 h2 h3 h4
    subst h3; subst h4
    obtain ⟨d, hd, hni⟩ := k_plain h1 h2
    refine ⟨φ, .iface t (a.eval x), w, .inl ?_, ?_, r, Frame.refl _ _ _, Ext.refl _ _ _⟩
    · simp only [execOp, ho, Instr.makeInterface]
      cases d <;> simp [run_underlying hd]
      exact absurd rfl (hni _)
    · rw [conc, opn_ok T hx]
  split at e
  · cases e
  · cases e
  · rename_i h1 h2
    simp only [Box.use_v] at e
    cases e
    exact key (fun e => h1 e) (fun e => h2 e) rfl rfl
theorem makeFunc_ok {fn : Fn} {f c : Array Operand} (ho : o.op = .makeFunc fn f c) (hf : f.toList.all okOpn = true) (hc : c.toList.all okOpn = true) (T : TRel G φ s a.tmps) (r : HRel G φ h w)
    (e : (opF E o).v s h = .ok v h') : Did G φ h w v h' ((execOp a.eval o).run P w) := by
  unfold opF at e
  simp only [ho, Box.use_v] at e
  cases e
  refine ⟨φ, .func fn (f.map a.eval) (c.map a.eval), w, .inl ?_, ?_, r, Frame.refl _ _ _, Ext.refl _ _ _⟩
  · simp [execOp, ho, Instr.makeFunc]
  · rw [conc, opns_ok T hf, opns_ok T hc]
    have key : ∀ l : Array Operand, (List.map a.eval l.toList).toArray = l.map a.eval := fun l => by apply Array.ext'; simp
    simp only [key]
theorem makeMap_ok {t : Nat} (ho : o.op = .makeMap t none) (r : HRel G φ h w) (hf : Free φ h.next h'.next)
    (e : (opF E o).v s h = .ok v h') : Did G φ h w v h' ((execOp a.eval o).run P w) := by
  unfold opF at e
  simp only [ho] at e
  cases e
  have hfn : φ h.next = none := hf _ (Nat.le_refl _) (by simp [H.new])
  obtain ⟨r', hfr, hx⟩ := r.alloc hfn (x := .map []) (o := .map #[] 0) (sl := 0) ⟨#[], 0, heap_alloc_new w _, Born.nil 0, rfl, fun i k v hi => by simp at hi⟩
  refine ⟨_, .map (some w.heap.size), _, .inl ?_, ?_, r', hfr, hx⟩
  · simp [execOp, ho, Instr.makeMap]
  · rw [conc, Mp.put_self]
theorem fieldAddr_ok (ok : EnvOk E P G) {t f : Nat} {x : Operand} (ho : o.op = .fieldAddr t x f) (hx : okOpn x = true) (T : TRel G φ s a.tmps) (r : HRel G φ h w)
    (e : (opF E o).v s h = .ok v h') : Did G φ h w v h' ((execOp a.eval o).run P w) := by
  unfold opF at e
  simp only [ho, ok.ty] at e
  split at e
  · rename_i fs hk
    obtain ⟨fa, hu, hfs⟩ := k_struct hk
    split at e
    · rename_i off u hfu
      subst hfs
      simp only [List.getElem?_map, Option.map_eq_some_iff] at hfu
      obtain ⟨fd, hfd, hfe⟩ := hfu
      cases hfe
      cases hz : Nat.beq (mkTI P fd.type).size 0 with
      | true => rw [hz] at e; cases e
      | false =>
        rw [hz] at e
        simp only [cond_false, Box.use_v] at e
        obtain ⟨b, o', hb, e⟩ := onPtr_ok e
        cases e
        have h1 := opn_ok T hx
        rw [hb] at h1
        obtain ⟨l, hl, hp⟩ := conc_ptr h1
        have hsz : (mkTI P fd.type).size ≠ 0 := by rw [nbeq, decide_eq_false_iff_not] at hz; exact hz
        obtain ⟨i, hi, his⟩ : ∃ i, P.info? fd.type = some i ∧ i.size ≠ 0 := by
          cases hi : P.info? fd.type with
          | none => exfalso; apply hsz; unfold mkTI; rw [hi]
          | some i => refine ⟨i, rfl, ?_⟩; intro hh; apply hsz; unfold mkTI; rw [hi]; exact hh
        refine ⟨φ, .pointer (some ⟨l.blk, o' + fd.offset, none⟩), w, .inl ?_, by rw [conc, hl], r, Frame.refl _ _ _, Ext.refl _ _ _⟩
        have hfd' : fa[f]? = some fd := by simpa using hfd
        simp [execOp, ho, hp, Instr.fieldAt, run_underlying hu, hfd', Instr.sureAddr, fieldPlace, sizeOf, typeInfo, hi, his, Addr.add_lit]
    · cases e
  · cases e
theorem indexAddr_ok (ok : EnvOk E P G) {t : Nat} {x ix : Operand} (ho : o.op = .indexAddr t x ix) (hx : okOpn x = true) (hi : okOpn ix = true) (T : TRel G φ s a.tmps) (r : HRel G φ h w)
    (e : (opF E o).v s h = .ok v h') : Did G φ h w v h' ((execOp a.eval o).run P w) := by
  unfold opF at e
  simp only [ho, ok.ty] at e
  split at e
  · rename_i el hk
    have hu := k_slice hk
    cases hh : (mkTI P el).has with
    | false => rw [hh] at e; cases e
    | true =>
      obtain ⟨i, hinf, hsz, _⟩ := has_ok hh
      rw [hh] at e
      simp only [Bool.not_true, cond_false, Box.use_v] at e
      obtain ⟨kd, n, hn, e⟩ := onNat_ok e
      have h2 := opn_ok T hi
      rw [hn, conc] at h2
      have h2' := (Option.some.inj h2).symm
      have h1 := opn_ok T hx
      generalize (opn x).v s = y at e h1
      cases y with
      | slice b off len c xx =>
        obtain ⟨hlt, e⟩ := bif_ok e
        rw [nblt, decide_eq_true_eq] at hlt
        cases e
        obtain ⟨l, hl, hp⟩ := conc_slice h1
        refine ⟨φ, .pointer (some ⟨l.blk, off + n * i.size, none⟩), w, .inl ?_, by rw [conc, hl, hsz], r, Frame.refl _ _ _, Ext.refl _ _ _⟩
        simp [execOp, ho, hp, h2', Instr.indexAt, asIntOf, run_underlying hu, sizeOf, typeInfo, hinf, Addr.add_lit, hlt]
      | _ => cases e
  · rename_i m el hk
    have hu := k_array hk
    cases hh : (mkTI P el).has with
    | false => rw [hh] at e; cases e
    | true =>
      obtain ⟨i, hinf, hsz, _⟩ := has_ok hh
      rw [hh] at e
      simp only [Bool.not_true, cond_false, Box.use_v] at e
      obtain ⟨kd, n, hn, e⟩ := onNat_ok e
      have h2 := opn_ok T hi
      rw [hn, conc] at h2
      have h2' := (Option.some.inj h2).symm
      obtain ⟨b, off, hb, e⟩ := onPtr_ok e
      obtain ⟨hlt, e⟩ := bif_ok e
      rw [nblt, decide_eq_true_eq] at hlt
      cases e
      have h1 := opn_ok T hx
      rw [hb] at h1
      obtain ⟨l, hl, hp⟩ := conc_ptr h1
      refine ⟨φ, .pointer (some ⟨l.blk, off + n * i.size, none⟩), w, .inl ?_, by rw [conc, hl, hsz], r, Frame.refl _ _ _, Ext.refl _ _ _⟩
      simp [execOp, ho, hp, h2', Instr.indexAt, asIntOf, Instr.sureAddr, run_underlying hu, sizeOf, typeInfo, hinf, Addr.add_lit, hlt]
  · cases e
theorem extract_ok {x : Operand} {i : Nat} (ho : o.op = .extract x i) (hx : okOpn x = true) (T : TRel G φ s a.tmps) (r : HRel G φ h w)
    (e : (opF E o).v s h = .ok v h') : Did G φ h w v h' ((execOp a.eval o).run P w) := by
  unfold opF at e
  simp only [ho, Box.use_v] at e
  have h1 := opn_ok T hx
  generalize (opn x).v s = y at e h1
  cases y with
  | tuple l =>
    obtain ⟨z, hz, e⟩ := onSome_ok e
    cases e
    obtain ⟨m, hm, h2⟩ := conc_tuple h1
    obtain ⟨u, hu, hc⟩ := concL_get hm i _ hz
    refine ⟨φ, u, w, .inl ?_, hc, r, Frame.refl _ _ _, Ext.refl _ _ _⟩
    simp [execOp, ho, h2, Instr.extract, hu]
  | _ => cases e
end
end Go.Proofs.YtjpkfdmjhgnmbaaGreat.Gv
