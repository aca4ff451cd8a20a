/- Operations, first part: moves, memory, addresses. -/
import Derived.Test.YtmfmjhklajmhoaaGreatGvMem
namespace Go.Proofs.YtmfmjhklajmhoaaGreat.Gv
open Go
section
variable {E : Env} {P : Program} {G : Gh} {φ : Mp} {h h' : H} {w : World} {s : Fr} {a : Act} {v : V} {o : Oper}
theorem move_ok {x : Operand} (ho : o.op = .move x ∨ o.op = .assign x) (hx : okOpn x = true) (T : TRel G φ s a.tmps) (r : HRel G φ h w)
 (e : ((opn x).use fun f => (⟨fun s h => .ok (f s) h⟩ : Box OpF)).v s h = .ok v h') : Did G φ h w v h' ((execOp a.eval o).run P w) := by
 rw [Box.use_v] at e
 cases e
 refine ⟨φ, a.eval x, w, .inl ?_, opn_ok T hx, r, Frame.refl _ _ _ _, Ext.refl _ _ _⟩
 rcases ho with ho | ho <;> simp [execOp, ho]
theorem pick_ok {c x y : Operand} (ho : o.op = .pick c x y) (hc : okOpn c = true) (hx : okOpn x = true) (hy : okOpn y = true) (T : TRel G φ s a.tmps) (r : HRel G φ h w)
 (e : (opF E o).v s h = .ok v h') : Did G φ h w v h' ((execOp a.eval o).run P w) := by
 unfold opF at e
 simp only [ho, Box.use_v] at e
 obtain ⟨b, hb, e⟩ := onBool_ok e
 cases e
 have h1 := opn_ok T hc
 rw [hb, conc] at h1
 have h1' : a.eval c = .bool b := (Option.some.inj h1).symm
 refine ⟨φ, (bif b then a.eval x else a.eval y), w, .inl ?_, ?_, r, Frame.refl _ _ _ _, Ext.refl _ _ _⟩
 · cases b <;> simp [execOp, ho, h1', asBool]
 · cases b
   · exact opn_ok T hy
   · exact opn_ok T hx
theorem load_ok (ok : EnvOk E P G) {t : Nat} {x : Operand} (ho : o.op = .load t x) (hx : okOpn x = true) (T : TRel G φ s a.tmps) (r : HRel G φ h w)
 (e : (opF E o).v s h = .ok v h') : Did G φ h w v h' ((execOp a.eval o).run P w) := by
 unfold opF at e
 simp only [ho, ok.ty] at e
 cases hh : (mkTI P t).has with
 | false => rw [hh] at e; cases e
 | true =>
   rw [hh] at e
   simp only [Bool.not_true, cond_false, Box.use_v] at e
   obtain ⟨b, off, hb, e⟩ := onPtr_ok e
   have h1 := opn_ok T hx
   rw [hb] at h1
   obtain ⟨l, hl, hp⟩ := conc_ptr h1
   obtain ⟨rfl, u, hrun, hu⟩ := loadF_ok r hh hl e
   refine ⟨φ, u, w, .inl ?_, hu, r, Frame.refl _ _ _ _, Ext.refl _ _ _⟩
   simp [execOp, ho, hp, Instr.loadAt, Instr.sureAddr, hrun]
theorem store_ok (ok : EnvOk E P G) {t : Nat} {x y : Operand} (ho : o.op = .store t x y) (hx : okOpn x = true) (hy : okOpn y = true) (T : TRel G φ s a.tmps) (r : HRel G φ h w)
 (e : (opF E o).v s h = .ok v h') : Did G φ h w v h' ((execOp a.eval o).run P w) := by
 unfold opF at e
 simp only [ho, ok.ty] at e
 cases hh : (mkTI P t).has with
 | false => rw [hh] at e; cases e
 | true =>
   obtain ⟨i, hi, hsz, _⟩ := has_ok hh
   rw [hh] at e
   simp only [Bool.not_true, cond_false, Box.use_v] at e
   obtain ⟨b, off, hb, e⟩ := onPtr_ok e
   obtain ⟨hlen, e⟩ := bif_ok e
   rw [nbeq, decide_eq_true_eq] at hlen
   have h1 := opn_ok T hx
   rw [hb] at h1
   obtain ⟨l, hl, hp⟩ := conc_ptr h1
   obtain ⟨cs, n, sz, ex, hg, hm, hc, e⟩ := storeV_ok e
   cases e
   have hv := opn_ok T hy
   have hcv := cells_conc hc hv
   obtain ⟨w', hrun, r', hf, hx'⟩ := r.store (P := P) hg hl hm hc hcv
   refine ⟨φ, undef, w', .inr ⟨?_, rfl⟩, by rw [conc]; rfl, r', hf, hx'⟩
   have hcs : (a.eval y).cells.size = i.size := by
    have := concL_length hcv
    simp only [Array.length_toList] at this
    omega
   simp [execOp, ho, hp, Instr.storeAt, Instr.sureAddr, storeVar, sizeOf, typeInfo, hi, hcs, hrun]
theorem nilCheck_ok {x : Operand} (ho : o.op = .nilCheck x) (hx : okOpn x = true) (T : TRel G φ s a.tmps) (r : HRel G φ h w)
 (e : (opF E o).v s h = .ok v h') : Did G φ h w v h' ((execOp a.eval o).run P w) := by
 unfold opF at e
 simp only [ho, Box.use_v] at e
 have h1 := opn_ok T hx
 have key : ∀ u, a.eval x = u → (execOp a.eval o).run P w = .ok (.value u) w → conc G φ v = some u → h' = h → Did G φ h w v h' ((execOp a.eval o).run P w) := by
  intro u _ h2 h3 h4
  subst h4
  exact ⟨φ, u, w, .inl h2, h3, r, Frame.refl _ _ _ _, Ext.refl _ _ _⟩
 generalize hv : (opn x).v s = y at e h1
 cases y with
 | func fn f c =>
   cases fn with
   | method m => cases e
   | _ =>
     cases e
     have h1' := h1
     rw [conc] at h1'
     cases hf : concL G φ f with
     | none => rw [hf] at h1'; cases h1'
     | some f' =>
       cases hc : concL G φ c with
       | none => rw [hf, hc] at h1'; cases h1'
       | some c' =>
         rw [hf, hc] at h1'
         have h2 := (Option.some.inj h1').symm
         exact key _ h2 (by simp [execOp, ho, h2]) (by rw [h1, h2]) rfl
 | nilptr => cases e
 | nilif => cases e
 | nilfunc => cases e
 | opq i => cases e
 | ptr b off =>
   cases e
   obtain ⟨l, _, h2⟩ := conc_ptr h1
   exact key _ h2 (by simp [execOp, ho, h2]) (by rw [h1, h2]) rfl
 | slice b off n c xx =>
   cases e
   obtain ⟨l, _, h2⟩ := conc_slice h1
   exact key _ h2 (by simp [execOp, ho, h2]) (by rw [h1, h2]) rfl
 | map b =>
   cases e
   obtain ⟨l, _, h2⟩ := conc_map h1
   exact key _ h2 (by simp [execOp, ho, h2]) (by rw [h1, h2]) rfl
 | agg l =>
   cases e
   obtain ⟨m, _, h2⟩ := conc_agg h1
   exact key _ h2 (by simp [execOp, ho, h2]) (by rw [h1, h2]) rfl
 | tuple l =>
   cases e
   obtain ⟨m, _, h2⟩ := conc_tuple h1
   exact key _ h2 (by simp [execOp, ho, h2]) (by rw [h1, h2]) rfl
 | emp i =>
   cases e
   have h1' := h1
   rw [conc] at h1'
   cases hb : φ i with
   | none => rw [hb] at h1'; cases h1'
   | some l =>
     rw [hb] at h1'
     have h2 := (Option.some.inj h1').symm
     exact key _ h2 (by simp [execOp, ho, h2]) (by rw [h1, h2]) rfl
 | yld i =>
   cases e
   have h1' := h1
   rw [conc] at h1'
   cases hb : φ i with
   | none => rw [hb] at h1'; cases h1'
   | some l =>
     rw [hb] at h1'
     have h2 := (Option.some.inj h1').symm
     exact key _ h2 (by simp [execOp, ho, h2]) (by rw [h1, h2]) rfl
 | iface t z =>
   cases e
   have h1' := h1
   rw [conc] at h1'
   cases hb : conc G φ z with
   | none => rw [hb] at h1'; cases h1'
   | some l =>
     rw [hb] at h1'
     have h2 := (Option.some.inj h1').symm
     exact key _ h2 (by simp [execOp, ho, h2]) (by rw [h1, h2]) rfl
 | _ =>
   cases e
   have h1' := h1
   rw [conc] at h1'
   have h2 := (Option.some.inj h1').symm
   exact key _ h2 (by simp [execOp, ho, h2]) (by rw [h1, h2]) rfl
theorem alloc_ok (ok : EnvOk E P G) {t : Nat} (ho : o.op = .alloc t) (r : HRel G φ h w) (hf : Free φ h.next h'.next)
 (e : (opF E o).v s h = .ok v h') : Did G φ h w v h' ((execOp a.eval o).run P w) := by
 unfold opF at e
 simp only [ho, ok.ty] at e
 cases hz : (mkTI P t).zero with
 | none => rw [hz] at e; cases e
 | some z =>
   obtain ⟨i, zv, hi, hz', habs, hsz, _⟩ := zero_ok hz
   rw [hz] at e
   simp only [Box.use_v] at e
   obtain ⟨hc, hlen, e⟩ := newRow_ok e
   cases e
   have hfn : φ h.next = none := hf _ (Nat.le_refl _) (by simp [H.new])
   have hcv := cells_conc (φ := φ) hc (absV_ok G φ 4 _ _ habs)
   have hl := concL_length hcv
   obtain ⟨r', hfr, hx⟩ := r.newRow hfn (C := zv.cells) (sl := 0) (ex := true) (n := (mkTI P t).size) (sz := (mkTI P t).size) t hcv (by simp only [Array.length_toList] at hl; omega) (fun j _ => by simp) (fun _ => rfl)
   refine ⟨_, .pointer (some ⟨w.heap.size, 0, none⟩), _, .inl ?_, ?_, r', hfr, hx⟩
   · simp [execOp, ho, Instr.alloc, zeroValue, typeInfo, hi, hz', newVar, Go.newRow]
   · rw [conc, Mp.put_self]
theorem box_ok (ok : EnvOk E P G) {t : Nat} {x : Operand} (ho : o.op = .box t x) (hx : okOpn x = true) (T : TRel G φ s a.tmps) (r : HRel G φ h w) (hf : Free φ h.next h'.next)
 (e : (opF E o).v s h = .ok v h') : Did G φ h w v h' ((execOp a.eval o).run P w) := by
 unfold opF at e
 simp only [ho, ok.ty] at e
 cases hh : (mkTI P t).has with
 | false => rw [hh] at e; cases e
 | true =>
   rw [hh] at e
   simp only [Bool.not_true, cond_false, Box.use_v] at e
   obtain ⟨_, e⟩ := bif_ok e
   obtain ⟨hc, hlen, e⟩ := newRow_ok e
   cases e
   have hfn : φ h.next = none := hf _ (Nat.le_refl _) (by simp [H.new])
   have hcv := cells_conc hc (opn_ok T hx)
   have hl := concL_length hcv
   obtain ⟨r', hfr, hx⟩ := r.newRow hfn (C := (a.eval x).cells) (sl := 0) (ex := true) (n := (mkTI P t).size) (sz := (mkTI P t).size) t hcv (by simp only [Array.length_toList] at hl; omega) (fun j _ => by simp) (fun _ => rfl)
   refine ⟨_, .pointer (some ⟨w.heap.size, 0, none⟩), _, .inl ?_, ?_, r', hfr, hx⟩
   · simp [execOp, ho, Instr.box, newVar, Go.newRow]
   · rw [conc, Mp.put_self]
theorem makeInterface_ok (ok : EnvOk E P G) {t : Nat} {x : Operand} (ho : o.op = .makeInterface t x) (hx : okOpn x = true) (T : TRel G φ s a.tmps) (r : HRel G φ h w)
 (e : (opF E o).v s h = .ok v h') : Did G φ h w v h' ((execOp a.eval o).run P w) := by
 unfold opF at e
 simp only [ho, ok.ty] at e
 have key : (mkTI P t).k ≠ .iface → (mkTI P t).k ≠ .other → v = .iface t ((opn x).v s) → h' = h → Did G φ h w v h' ((execOp a.eval o).run P w) := by
  intro h1 h2 h3 h4
  subst h3; subst h4
  obtain ⟨d, hd, hni⟩ := k_plain h1 h2
  refine ⟨φ, .iface t (a.eval x), w, .inl ?_, ?_, r, Frame.refl _ _ _ _, Ext.refl _ _ _⟩
  · simp only [execOp, ho, Instr.makeInterface]
    cases d <;> simp [run_underlying hd]
    exact absurd rfl (hni _)
  · rw [conc, opn_ok T hx]
 split at e
 · cases e
 · cases e
 · rename_i h1 h2
   simp only [Box.use_v] at e
   cases e
   exact key (fun e => h1 e) (fun e => h2 e) rfl rfl
theorem makeFunc_ok {fn : Fn} {f c : Array Operand} (ho : o.op = .makeFunc fn f c) (hf : f.toList.all okOpn = true) (hc : c.toList.all okOpn = true) (T : TRel G φ s a.tmps) (r : HRel G φ h w)
 (e : (opF E o).v s h = .ok v h') : Did G φ h w v h' ((execOp a.eval o).run P w) := by
 unfold opF at e
 simp only [ho, Box.use_v] at e
 cases e
 refine ⟨φ, .func fn (f.map a.eval) (c.map a.eval), w, .inl ?_, ?_, r, Frame.refl _ _ _ _, Ext.refl _ _ _⟩
 · simp [execOp, ho, Instr.makeFunc]
 · rw [conc, opns_ok T hf, opns_ok T hc]
   have key : ∀ l : Array Operand, (List.map a.eval l.toList).toArray = l.map a.eval := fun l => by apply Array.ext'; simp
   simp only [key]
theorem makeMap_ok {t : Nat} (ho : o.op = .makeMap t none) (r : HRel G φ h w) (hf : Free φ h.next h'.next)
 (e : (opF E o).v s h = .ok v h') : Did G φ h w v h' ((execOp a.eval o).run P w) := by
 unfold opF at e
 simp only [ho] at e
 cases e
 have hfn : φ h.next = none := hf _ (Nat.le_refl _) (by simp [H.new])
 obtain ⟨r', hfr, hx⟩ := r.alloc hfn (x := .map [] [] 0) (o := .map #[] 0) (sl := 0) ⟨#[], heap_alloc_new w _, ⟨Born.nil 0, rfl⟩, rfl, fun i k v hi => by simp at hi⟩
 refine ⟨_, .map (some w.heap.size), _, .inl ?_, ?_, r', hfr, hx⟩
 · simp [execOp, ho, Instr.makeMap]
 · rw [conc, Mp.put_self]
theorem fieldAddr_ok (ok : EnvOk E P G) {t f : Nat} {x : Operand} (ho : o.op = .fieldAddr t x f) (hx : okOpn x = true) (T : TRel G φ s a.tmps) (r : HRel G φ h w)
 (e : (opF E o).v s h = .ok v h') : Did G φ h w v h' ((execOp a.eval o).run P w) := by
 unfold opF at e
 simp only [ho, ok.ty] at e
 split at e
 · rename_i fs hk
   obtain ⟨fa, hu, hfs⟩ := k_struct hk
   split at e
   · rename_i off u hfu
     subst hfs
     simp only [List.getElem?_map, Option.map_eq_some_iff] at hfu
     obtain ⟨fd, hfd, hfe⟩ := hfu
     cases hfe
     cases hz : Nat.beq (mkTI P fd.type).size 0 with
     | true => rw [hz] at e; cases e
     | false =>
       rw [hz] at e
       simp only [cond_false, Box.use_v] at e
       obtain ⟨b, o', hb, e⟩ := onPtr_ok e
       cases e
       have h1 := opn_ok T hx
       rw [hb] at h1
       obtain ⟨l, hl, hp⟩ := conc_ptr h1
       have hsz : (mkTI P fd.type).size ≠ 0 := by rw [nbeq, decide_eq_false_iff_not] at hz; exact hz
       obtain ⟨i, hi, his⟩ : ∃ i, P.info? fd.type = some i ∧ i.size ≠ 0 := by
        cases hi : P.info? fd.type with
        | none => exfalso; apply hsz; unfold mkTI; rw [hi]
        | some i => refine ⟨i, rfl, ?_⟩; intro hh; apply hsz; unfold mkTI; rw [hi]; exact hh
       refine ⟨φ, .pointer (some ⟨l.blk, o' + fd.offset, none⟩), w, .inl ?_, by rw [conc, hl], r, Frame.refl _ _ _ _, Ext.refl _ _ _⟩
       have hfd' : fa[f]? = some fd := by simpa using hfd
       simp [execOp, ho, hp, Instr.fieldAt, run_underlying hu, hfd', Instr.sureAddr, fieldPlace, sizeOf, typeInfo, hi, his, Addr.add_lit]
   · cases e
 · cases e
theorem indexAddr_ok (ok : EnvOk E P G) {t : Nat} {x ix : Operand} (ho : o.op = .indexAddr t x ix) (hx : okOpn x = true) (hi : okOpn ix = true) (T : TRel G φ s a.tmps) (r : HRel G φ h w)
 (e : (opF E o).v s h = .ok v h') : Did G φ h w v h' ((execOp a.eval o).run P w) := by
 unfold opF at e
 simp only [ho, ok.ty] at e
 split at e
 · rename_i el hk
   have hu := k_slice hk
   cases hh : (mkTI P el).has with
   | false => rw [hh] at e; cases e
   | true =>
     obtain ⟨i, hinf, hsz, _⟩ := has_ok hh
     rw [hh] at e
     simp only [Bool.not_true, cond_false, Box.use_v] at e
     obtain ⟨kd, n, hn, e⟩ := onNat_ok e
     have h2 := opn_ok T hi
     rw [hn, conc] at h2
     have h2' := (Option.some.inj h2).symm
     have h1 := opn_ok T hx
     generalize (opn x).v s = y at e h1
     cases y with
     | slice b off len c xx =>
       obtain ⟨hlt, e⟩ := bif_ok e
       rw [nblt, decide_eq_true_eq] at hlt
       cases e
       obtain ⟨l, hl, hp⟩ := conc_slice h1
       refine ⟨φ, .pointer (some ⟨l.blk, off + n * i.size, none⟩), w, .inl ?_, by rw [conc, hl, hsz], r, Frame.refl _ _ _ _, Ext.refl _ _ _⟩
       simp [execOp, ho, hp, h2', Instr.indexAt, asIntOf, run_underlying hu, sizeOf, typeInfo, hinf, Addr.add_lit, hlt]
     | _ => cases e
 · rename_i m el hk
   have hu := k_array hk
   cases hh : (mkTI P el).has with
   | false => rw [hh] at e; cases e
   | true =>
     obtain ⟨i, hinf, hsz, _⟩ := has_ok hh
     rw [hh] at e
     simp only [Bool.not_true, cond_false, Box.use_v] at e
     obtain ⟨kd, n, hn, e⟩ := onNat_ok e
     have h2 := opn_ok T hi
     rw [hn, conc] at h2
     have h2' := (Option.some.inj h2).symm
     obtain ⟨b, off, hb, e⟩ := onPtr_ok e
     obtain ⟨hlt, e⟩ := bif_ok e
     rw [nblt, decide_eq_true_eq] at hlt
     cases e
     have h1 := opn_ok T hx
     rw [hb] at h1
     obtain ⟨l, hl, hp⟩ := conc_ptr h1
     refine ⟨φ, .pointer (some ⟨l.blk, off + n * i.size, none⟩), w, .inl ?_, by rw [conc, hl, hsz], r, Frame.refl _ _ _ _, Ext.refl _ _ _⟩
     simp [execOp, ho, hp, h2', Instr.indexAt, asIntOf, Instr.sureAddr, run_underlying hu, sizeOf, typeInfo, hinf, Addr.add_lit, hlt]
 · cases e
theorem extract_ok {x : Operand} {i : Nat} (ho : o.op = .extract x i) (hx : okOpn x = true) (T : TRel G φ s a.tmps) (r : HRel G φ h w)
 (e : (opF E o).v s h = .ok v h') : Did G φ h w v h' ((execOp a.eval o).run P w) := by
 unfold opF at e
 simp only [ho, Box.use_v] at e
 have h1 := opn_ok T hx
 generalize (opn x).v s = y at e h1
 cases y with
 | tuple l =>
   obtain ⟨z, hz, e⟩ := onSome_ok e
   cases e
   obtain ⟨m, hm, h2⟩ := conc_tuple h1
   obtain ⟨u, hu, hc⟩ := concL_get hm i _ hz
   refine ⟨φ, u, w, .inl ?_, hc, r, Frame.refl _ _ _ _, Ext.refl _ _ _⟩
   simp [execOp, ho, h2, Instr.extract, hu]
 | _ => cases e
end
end Go.Proofs.YtmfmjhklajmhoaaGreat.Gv
namespace Go.Proofs.YtmfmjhklajmhoaaGreat.Gv
open Go
theorem ilt_ok (a b : Int) : ilt a b = decide (a < b) := by
 cases a with
 | ofNat m =>
   cases b with
   | ofNat n =>
     show Nat.blt m n = _
     rw [nblt]; apply decide_eq_decide.2; exact Int.ofNat_lt.symm
   | negSucc n =>
     show false = _
     rw [eq_comm, decide_eq_false_iff_not]; intro h; exact absurd h (by show ¬ ((m : Int) < Int.negSucc n); omega)
 | negSucc m =>
   cases b with
   | ofNat n =>
     show true = _
     rw [eq_comm, decide_eq_true_eq]; show Int.negSucc m < (n : Int); omega
   | negSucc n =>
     show Nat.blt n m = _
     rw [nblt]; apply decide_eq_decide.2; omega
theorem ieq_ok (a b : Int) : ieq a b = decide (a = b) := by
 cases a with
 | ofNat m =>
   cases b with
   | ofNat n =>
     show Nat.beq m n = _
     rw [nbeq]; apply decide_eq_decide.2; exact ⟨fun h => by rw [h], fun h => by injection h⟩
   | negSucc n => show false = _; rw [eq_comm, decide_eq_false_iff_not]; intro h; cases h
 | negSucc m =>
   cases b with
   | ofNat n => show false = _; rw [eq_comm, decide_eq_false_iff_not]; intro h; cases h
   | negSucc n =>
     show Nat.beq m n = _
     rw [nbeq]; apply decide_eq_decide.2; exact ⟨fun h => by rw [h], fun h => by injection h⟩
theorem wrapK_ok (k : IntKind) (n : Int) : wrapK k n = k.wrap n := by
 cases k with
 | i64 =>
   cases n with
   | ofNat m =>
     show (bif Nat.blt m 9223372036854775808 then Int.ofNat m else _) = _
     rw [nblt]
     by_cases h : m < 9223372036854775808
     · rw [decide_eq_true h, cond_true]; exact (IntWalk.i64_in (m : Int) (by constructor <;> omega)).symm
     · rw [decide_eq_false h, cond_false]
   | negSucc m =>
     show (bif Nat.blt m 9223372036854775808 then Int.negSucc m else _) = _
     rw [nblt]
     by_cases h : m < 9223372036854775808
     · rw [decide_eq_true h, cond_true, IntWalk.i64_in _ (by constructor <;> omega)]
     · rw [decide_eq_false h, cond_false]
 | _ => rfl
theorem sameK_ok {j k : IntKind} (h : sameK j k = true) : j = k := by
 unfold sameK at h
 rw [nbeq, decide_eq_true_eq] at h
 cases j <;> cases k <;> first | rfl | cases h
theorem same_ok {j k : IntKind} {r : RV} {v : V} {h' : H} (e : same j k r = .ok v h') : j = k ∧ r = .ok v h' := by
 obtain ⟨h, e⟩ := bif_ok e
 exact ⟨sameK_ok h, e⟩
theorem kWrap (k : IntKind) (n : Int) (h1 : kMin k ≤ n) (h2 : n ≤ kMax k) : k.wrap n = n := by
 cases k
 · exact IntWalk.i8_in _ ⟨h1, h2⟩
 · exact IntWalk.i16_in _ ⟨h1, h2⟩
 · exact IntWalk.i32_in _ ⟨h1, h2⟩
 · exact IntWalk.i64_in _ ⟨h1, h2⟩
 · exact IntWalk.u8_in _ ⟨h1, h2⟩
 · exact IntWalk.u16_in _ ⟨h1, h2⟩
 · exact IntWalk.u32_in _ ⟨h1, h2⟩
 · exact IntWalk.u64_in _ ⟨h1, h2⟩
def LF.den (σ : Nat → Int) (x : LF) : Int := x.1 + Gv.den σ x.2
theorem den_put (σ : Nat → Int) (i : Nat) (a : Int) : ∀ m, den σ (addT.put i a m) = a * σ i + den σ m
 | [] => rfl
 | (j, b) :: m => by
   unfold addT.put
   by_cases h : i = j
   · subst h
     rw [if_pos rfl]
     by_cases h0 : a + b = 0
     · rw [if_pos h0]
       show den σ m = a * σ i + (b * σ i + den σ m)
       have : a * σ i + b * σ i = 0 := by rw [← Int.add_mul, h0, Int.zero_mul]
       omega
     · rw [if_neg h0]
       show (a + b) * σ i + den σ m = a * σ i + (b * σ i + den σ m)
       rw [Int.add_mul]; omega
   · rw [if_neg h]
     show b * σ j + den σ (addT.put i a m) = a * σ i + (b * σ j + den σ m)
     rw [den_put σ i a m]; omega
theorem den_addT (σ : Nat → Int) : ∀ l m, den σ (addT l m) = den σ l + den σ m
 | [], m => by show den σ m = 0 + den σ m; omega
 | (i, a) :: l, m => by
   show den σ (addT l (addT.put i a m)) = a * σ i + den σ l + den σ m
   rw [den_addT σ l, den_put]; omega
theorem den_scale (σ : Nat → Int) (c : Int) : ∀ l, den σ (scale c l) = c * den σ l
 | [] => by show (0 : Int) = c * 0; simp
 | (i, a) :: l => by
   show c * a * σ i + den σ (scale c l) = c * (a * σ i + den σ l)
   rw [den_scale σ c l, Int.mul_add, Int.mul_assoc]
theorem LF.den_add (σ : Nat → Int) (x y : LF) : (LF.add x y).den σ = x.den σ + y.den σ := by
 show x.1 + y.1 + Gv.den σ (addT x.2 y.2) = (x.1 + Gv.den σ x.2) + (y.1 + Gv.den σ y.2)
 rw [den_addT]; omega
theorem LF.den_sub (σ : Nat → Int) (x y : LF) : (LF.sub x y).den σ = x.den σ - y.den σ := by
 show x.1 - y.1 + Gv.den σ (addT (scale (-1) y.2) x.2) = (x.1 + Gv.den σ x.2) - (y.1 + Gv.den σ y.2)
 rw [den_addT, den_scale]; omega
section
variable {E : Env} {P : Program} {G : Gh} {φ : Mp} {h h' : H} {w : World} {s : Fr} {a : Act} {v : V} {o : Oper}
theorem least_ok (ok : EnvOk E P G) : ∀ (l : List (Nat × Int)) (r : Int), least E.bd l = some r → r ≤ den G.σ l
 | [], r, e => by cases e; exact Int.le_refl _
 | (i, c) :: l, r, e => by
   unfold least at e
   cases hb : E.bd[i]? with
   | none => rw [hb] at e; cases e
   | some p =>
     obtain ⟨lo, hi⟩ := p
     cases hl : least E.bd l with
     | none => rw [hb, hl] at e; cases e
     | some q =>
       rw [hb, hl] at e
       have e := (Option.some.inj e).symm
       subst e
       have ih := least_ok ok l q hl
       obtain ⟨h1, h2⟩ := ok.bd i lo hi hb
       show _ ≤ c * G.σ i + den G.σ l
       by_cases hc : c ≥ 0
       · rw [if_pos hc]; have := Int.mul_le_mul_of_nonneg_left h1 hc; omega
       · rw [if_neg hc]; have := Int.mul_le_mul_of_nonpos_left (a := c) (by omega) h2; omega
theorem known_ok (ok : EnvOk E P G) {x : LF} (e : known E x = true) : 0 ≤ x.den G.σ := by
 unfold known at e
 rw [Bool.or_eq_true] at e
 rcases e with e | e
 · cases hl : least E.bd x.2 with
   | none => rw [hl] at e; cases e
   | some r =>
     rw [hl] at e
     have := of_decide_eq_true e
     have := least_ok ok _ _ hl
     show 0 ≤ x.1 + den G.σ x.2
     omega
 · obtain ⟨f, hf, e⟩ := List.any_eq_true.1 e
   cases hl : least E.bd (LF.sub x f).2 with
   | none => rw [hl] at e; cases e
   | some r =>
     rw [hl] at e
     have h1 := of_decide_eq_true e
     have h2 := least_ok ok _ _ hl
     have h3 := ok.ge f hf
     have h4 : (LF.sub x f).1 + den G.σ (LF.sub x f).2 = x.den G.σ - LF.den G.σ f := LF.den_sub G.σ x f
     have h5 : LF.den G.σ f = f.1 + den G.σ f.2 := rfl
     omega
theorem symLt_ok (ok : EnvOk E P G) {x y : LF} {b : Bool} (e : symLt E x y = some b) : b = decide (x.den G.σ < y.den G.σ) := by
 unfold symLt at e
 split at e
 · rename_i hk
   cases e
   have := known_ok ok hk
   rw [LF.den_sub, LF.den_sub] at this
   have h1 : LF.den G.σ (1, []) = 1 := rfl
   rw [eq_comm, decide_eq_true_eq]; omega
 · split at e
   · rename_i hk
     cases e
     have := known_ok ok hk
     rw [LF.den_sub] at this
     rw [eq_comm, decide_eq_false_iff_not]; omega
   · cases e
theorem symEq_ok (ok : EnvOk E P G) {x y : LF} {b : Bool} (e : symEq E x y = some b) : b = decide (x.den G.σ = y.den G.σ) := by
 unfold symEq at e
 split at e
 · rename_i hk
   cases e
   rw [Bool.and_eq_true] at hk
   have h1 := known_ok ok hk.1
   have h2 := known_ok ok hk.2
   rw [LF.den_sub] at h1 h2
   rw [eq_comm, decide_eq_true_eq]; omega
 · split at e
   · rename_i hk
     cases e
     rw [Bool.or_eq_true] at hk
     have h1 : LF.den G.σ (1, []) = 1 := rfl
     rw [eq_comm, decide_eq_false_iff_not]
     rcases hk with hk | hk
     · have := known_ok ok hk
       rw [LF.den_sub, LF.den_sub] at this
       omega
     · have := known_ok ok hk
       rw [LF.den_sub, LF.den_sub] at this
       omega
   · cases e
theorem fits_ok (ok : EnvOk E P G) {k : IntKind} {x : LF} (e : fits E k x = true) : k.wrap (x.den G.σ) = x.den G.σ := by
 unfold fits at e
 rw [Bool.and_eq_true] at e
 have h1 := known_ok ok e.1
 have h2 := known_ok ok e.2
 rw [LF.den_sub] at h2
 have h3 : LF.den G.σ (x.1 - kMin k, x.2) = x.den G.σ - kMin k := by show x.1 - kMin k + den G.σ x.2 = x.1 + den G.σ x.2 - kMin k; omega
 have h4 : LF.den G.σ (kMax k, []) = kMax k := by show kMax k + 0 = _; omega
 exact kWrap k _ (by omega) (by omega)
theorem fits_rng (ok : EnvOk E P G) {k : IntKind} {x : LF} (e : fits E k x = true) : kMin k ≤ x.den G.σ ∧ x.den G.σ ≤ kMax k := by
 unfold fits at e
 rw [Bool.and_eq_true] at e
 have h1 := known_ok ok e.1
 have h2 := known_ok ok e.2
 rw [LF.den_sub] at h2
 have h3 : LF.den G.σ (x.1 - kMin k, x.2) = x.den G.σ - kMin k := by show x.1 - kMin k + den G.σ x.2 = x.1 + den G.σ x.2 - kMin k; omega
 have h4 : LF.den G.σ (kMax k, []) = kMax k := by show kMax k + 0 = _; omega
 exact ⟨by omega, by omega⟩
theorem int_conc {x : V} {k : IntKind} {z : LF} (hk : kOf x = some k) (hz : asLF x = some z) : conc G φ x = some (.int k (z.den G.σ)) := by
 cases x <;> first | cases hk | skip
 · cases hz; rw [conc]; show some (Value.int _ _) = some (Value.int _ (_ + 0)); rw [Int.add_zero]
 · cases hz; rw [conc]; rfl
theorem ofLF_conc (k : IntKind) (z : LF) : conc G φ (ofLF k z) = some (.int k (z.den G.σ)) := by
 unfold ofLF
 split
 · rename_i h
   rw [conc]; show some (Value.int k z.1) = some (Value.int k (z.1 + den G.σ z.2)); rw [h]; show some (Value.int k z.1) = some (Value.int k (z.1 + 0)); rw [Int.add_zero]
 · rw [conc]; rfl
theorem eqGuard_ok {op : BinOp} {t : Nat} {ox oy : Operand} {x y : Value} (hx : x ≠ .nilIface) (ha : ∀ c, x ≠ .agg c) : (eqGuard op t ox oy x y).run P w = .ok () w := by
 unfold eqGuard
 cases op <;> simp
 all_goals
  cases x <;> first | rfl | exact absurd rfl hx | exact absurd rfl (ha _)
def Bin (P : Program) (G : Gh) (φ : Mp) (h : H) (w : World) (op : BinOp) (t : Nat) (ox oy : Operand) (x y : Value) (v : V) (h' : H) : Prop :=
 h' = h ∧ ∃ u, (do eqGuard op t ox oy x y; binOp op t x y : Sem Value).run P w = .ok u w ∧ conc G φ v = some u
theorem Bin.mk {op : BinOp} {t : Nat} {ox oy : Operand} {x y u : Value} (hx : x ≠ .nilIface) (ha : ∀ c, x ≠ .agg c) (hr : (binOp op t x y).run P w = .ok u w) (hv : conc G φ v = some u) (hh : h' = h) :
 Bin P G φ h w op t ox oy x y v h' :=
 ⟨hh, u, by rw [Sem.run_bind, eqGuard_ok hx ha]; exact hr, hv⟩
theorem Bin.int {op : BinOp} {t : Nat} {ox oy : Operand} {k : IntKind} {m n : Int} {u : Value} (hr : (binOp op t (.int k m) (.int k n)).run P w = .ok u w) (hv : conc G φ v = some u) (hh : h' = h) :
 Bin P G φ h w op t ox oy (.int k m) (.int k n) v h' := Bin.mk (by simp) (by simp) hr hv hh
theorem str_conc (n x : Nat) : conc G φ (.str n x) = some (.string ⟨(strL n x).toArray⟩) := by rw [conc]
theorem bool_conc (b : Bool) : conc G φ (.bool b) = some (.bool b) := by rw [conc]
theorem iint_conc (k : IntKind) (n : Int) : conc G φ (.int k n) = some (.int k n) := by rw [conc]
theorem Bin.str {op : BinOp} {t : Nat} {ox oy : Operand} {x y : ByteArray} {u : Value} (hr : (binOp op t (.string x) (.string y)).run P w = .ok u w) (hv : conc G φ v = some u) (hh : h' = h) :
 Bin P G φ h w op t ox oy (.string x) (.string y) v h' := Bin.mk (by simp) (by simp) hr hv hh
theorem sameT_eq : ∀ {l m : List (Nat × Int)}, sameT l m = true → l = m
 | [], [], _ => rfl
 | [], _ :: _, e => by cases e
 | _ :: _, [], e => by cases e
 | (i, a) :: l, (j, b) :: m, e => by
   unfold sameT at e
   rw [Bool.and_eq_true, Bool.and_eq_true, nbeq, decide_eq_true_eq, decide_eq_true_eq] at e
   rw [e.1.1, e.1.2, sameT_eq e.2]
theorem wrap_zero (k : IntKind) : k.wrap 0 = 0 := by cases k <;> rfl
theorem quoT_ok (σ : Nat → Int) {c : Int} : ∀ {l : List (Nat × Int)}, (l.all fun p => decide (p.2 % c = 0)) = true → den σ l = c * den σ (quoT c l)
 | [], _ => by simp [den, quoT]
 | (i, a) :: l, e => by
   rw [List.all_cons, Bool.and_eq_true, decide_eq_true_eq] at e
   have h1 := quoT_ok σ (c := c) e.2
   have h2 : c * (a / c) = a := Int.mul_ediv_cancel' (Int.dvd_of_emod_eq_zero e.1)
   show a * σ i + den σ l = c * (a / c * σ i + den σ (quoT c l))
   rw [h1, Int.mul_add, ← Int.mul_assoc, h2]
theorem divC_ok {σ : Nat → Int} {a b : LF} (e : divC a b = true) : 0 < LF.den σ b ∧ LF.den σ a = LF.den σ b * LF.den σ (quoC a b) := by
 obtain ⟨c, l⟩ := b
 cases l with
 | cons p l => cases e
 | nil =>
   have e : (decide (0 < c) && (decide (a.1 % c = 0) && a.2.all fun p => decide (p.2 % c = 0))) = true := e
   simp only [Bool.and_eq_true, decide_eq_true_eq] at e
   obtain ⟨h0, h1, h2⟩ := e
   have h3 : LF.den σ ((c, []) : LF) = c := by show c + 0 = c; omega
   rw [h3]
   refine ⟨h0, ?_⟩
   show a.1 + den σ a.2 = c * (a.1 / c + den σ (quoT c a.2))
   rw [quoT_ok σ h2, Int.mul_add, Int.mul_ediv_cancel' (Int.dvd_of_emod_eq_zero h1)]
theorem sameLF_eq {x y : LF} (e : sameLF x y = true) : x = y := by
 unfold sameLF at e
 rw [Bool.and_eq_true, decide_eq_true_eq] at e
 exact Prod.ext e.1 (sameT_eq e.2)
theorem findNl_ok {c : Nat} {k : IntKind} {x y : LF} {i : Nat} : ∀ {l : List NL}, findNl c k x y l = some i → ∃ n ∈ l, n.op = c ∧ n.k = k ∧ n.x = x ∧ n.y = y ∧ n.i = i
 | [], e => by cases e
 | n :: l, e => by
   unfold findNl at e
   cases hc : (Nat.beq c n.op && sameK k n.k && sameLF x n.x && sameLF y n.y) with
   | false =>
     rw [hc, cond_false] at e
     obtain ⟨m, hm, h⟩ := findNl_ok e
     exact ⟨m, List.mem_cons_of_mem _ hm, h⟩
   | true =>
     rw [hc, cond_true] at e
     cases e
     simp only [Bool.and_eq_true, nbeq, decide_eq_true_eq] at hc
     obtain ⟨⟨⟨h1, h2⟩, h3⟩, h4⟩ := hc
     exact ⟨n, List.mem_cons_self .., h1.symm, (sameK_ok h2).symm, (sameLF_eq h3).symm, (sameLF_eq h4).symm, rfl⟩
theorem nlx_ok {op : BinOp} {t : Nat} {ox oy : Operand} {k k' : IntKind} {x y z : Int} (e : intRes (opN op) k x y = some z) (hk : isSh op = false → k = k') (hv : conc G φ v = some (.int k z)) (hh : h' = h) :
 Bin P G φ h w op t ox oy (.int k x) (.int k' y) v h' := by
 have sh : isSh op = true → ∀ (z' : Int), (binOp op t (.int k x) (.int k' y)).run P w = .ok (.int k z') w → z' = z → Bin P G φ h w op t ox oy (.int k x) (.int k' y) v h' := fun _ z' hr hz => by
  subst hz
  exact ⟨hh, .int k z', by rw [Sem.run_bind, eqGuard_ok (by simp) (by simp)]; exact hr, hv⟩
 cases op with
 | add => cases hk rfl; cases e; exact Bin.int (by simp [binOp, Op.intArith]) hv hh
 | sub => cases hk rfl; cases e; exact Bin.int (by simp [binOp, Op.intArith]) hv hh
 | mul => cases hk rfl; cases e; exact Bin.int (by simp [binOp, Op.intArith]) hv hh
 | and => cases hk rfl; cases e; exact Bin.int (by simp [binOp, Op.intBits]) hv hh
 | or => cases hk rfl; cases e; exact Bin.int (by simp [binOp, Op.intBits]) hv hh
 | shl =>
   have e : (if y < 0 then none else some (k.wrap (x * 2 ^ Nat.min y.toNat k.bits))) = some z := e
   by_cases hy : y < 0
   · rw [if_pos hy] at e; cases e
   · rw [if_neg hy] at e
     cases e
     refine sh rfl _ ?_ rfl
     simp only [binOp, Op.shift]
     rw [if_neg hy]
     rfl
 | shr =>
   have e : (if y < 0 then none else some (x.fdiv (2 ^ Nat.min y.toNat k.bits))) = some z := e
   by_cases hy : y < 0
   · rw [if_pos hy] at e; cases e
   · rw [if_neg hy] at e
     cases e
     refine sh rfl _ ?_ rfl
     simp only [binOp, Op.shift]
     rw [if_neg hy]
     rfl
 | _ => cases e
theorem nlx_at (ok : EnvOk E P G) {op : BinOp} {k : IntKind} {x y : LF} {i : Nat} (e : findNl (opN op) k x y E.nl = some i) : intRes (opN op) k (x.den G.σ) (y.den G.σ) = some (G.σ i) := by
 obtain ⟨n, hn, h1, rfl, rfl, rfl, rfl⟩ := findNl_ok e
 have := ok.nl n hn
 rcases this with ⟨h0, _⟩ | ⟨h0, _⟩ | ⟨h0, _⟩ | h4
 · rw [h0] at h1; cases op <;> cases h1
 · rw [h0] at h1; cases op <;> cases h1
 · rw [h0] at h1; cases op <;> cases h1
 · have key : ∀ c, c = n.op → c ≠ 30 → c ≠ 31 → intRes c n.k (n.x.1 + den G.σ n.x.2) (n.y.1 + den G.σ n.y.2) = some (G.σ n.i) := by
    intro c hc h30 h31
    unfold nlMore at h4
    split at h4
    · rename_i h; rw [h] at hc; exact (h30 hc).elim
    · rename_i h; rw [h] at hc; exact (h31 hc).elim
    · rw [hc]; exact h4
   exact key _ h1.symm (by cases op <;> decide) (by cases op <;> decide)
theorem symBin_ok (ok : EnvOk E P G) {op : BinOp} {t : Nat} {ox oy : Operand} {x y : V} {ux uy : Value} (hx : conc G φ x = some ux) (hy : conc G φ y = some uy)
 (e : symBin E op x y h = .ok v h') : Bin P G φ h w op t ox oy ux uy v h' := by
 unfold symBin at e
 split at e
 · rename_i k k' z1 z2 hk hk' hz1 hz2
   cases hfx : findNl (opN op) k z1 z2 E.nl with
   | some i =>
     rw [hfx] at e
     have c1 := int_conc (G := G) (φ := φ) hk hz1
     have c2 := int_conc (G := G) (φ := φ) hk' hz2
     rw [hx] at c1; rw [hy] at c2
     cases c1; cases c2
     have hr := nlx_at ok hfx
     have nlv : conc G φ (.sint k 0 [(i, 1)]) = some (.int k (G.σ i)) := by
      rw [conc]
      simp [den]
     dsimp only at e
     cases hs : isSh op with
     | true =>
       rw [hs, cond_true] at e
       cases e
       exact nlx_ok hr (fun h => by rw [hs] at h; cases h) nlv rfl
     | false =>
       rw [hs, cond_false] at e
       obtain ⟨hkk, e'⟩ := same_ok e
       cases e'
       exact nlx_ok hr (fun _ => hkk) nlv rfl
   | none =>
   rw [hfx] at e
   dsimp only at e
   obtain ⟨hkk, e'⟩ := same_ok e
   clear e
   subst hkk
   have e := e'
   clear e'
   have c1 := int_conc (G := G) (φ := φ) hk hz1
   have c2 := int_conc (G := G) (φ := φ) hk' hz2
   rw [hx] at c1; rw [hy] at c2
   cases c1; cases c2
   have nm : ∀ z : LF, symNm E k z h = .ok v h' → h' = h ∧ conc G φ v = some (.int k (z.den G.σ)) ∧ k.wrap (z.den G.σ) = z.den G.σ := by
    intro z e
    obtain ⟨hf, e⟩ := bif_ok e
    cases e
    exact ⟨rfl, ofLF_conc k z, fits_ok ok hf⟩
   have bl : ∀ (z : Nat) (o : Option Bool) (f : Bool → Bool), symBl z o f h = .ok v h' → ∃ b, o = some b ∧ h' = h ∧ v = .bool (f b) := by
    intro z o f e
    cases o with
    | none => cases e
    | some b => cases e; exact ⟨b, rfl, rfl, rfl⟩
   have nlv : ∀ i, conc G φ (.sint k 0 [(i, 1)]) = some (.int k (G.σ i)) := by
    intro i
    rw [conc]
    simp [den]
   have nl : ∀ c, nlF E c k z1 z2 h = .ok v h' → ∃ i, h' = h ∧ v = .sint k 0 [(i, 1)] ∧ NLOk G ⟨c, k, z1, z2, i⟩ := by
    intro c e
    unfold nlF at e
    cases hf : findNl c k z1 z2 E.nl with
    | none => rw [hf] at e; cases e
    | some i =>
      rw [hf] at e
      cases e
      obtain ⟨n, hn, rfl, rfl, rfl, rfl, rfl⟩ := findNl_ok hf
      exact ⟨_, rfl, rfl, ok.nl n hn⟩
   cases op with
   | add =>
     obtain ⟨hh, hv, hw⟩ := nm _ e
     rw [LF.den_add] at hw hv
     exact Bin.int (by simp [binOp, Op.intArith, hw]) hv hh
   | sub =>
     obtain ⟨hh, hv, hw⟩ := nm _ e
     rw [LF.den_sub] at hw hv
     exact Bin.int (by simp [binOp, Op.intArith, hw]) hv hh
   | mul =>
     obtain ⟨c1, l1⟩ := z1
     obtain ⟨c2, l2⟩ := z2
     cases l1 with
     | nil =>
       have e : (bif ieq c1 0 then .ok (.int k 0) h else symNm E k (c1 * c2, scale c1 l2) h) = .ok v h' := e
       cases hz0 : ieq c1 0 with
       | true =>
         rw [hz0, cond_true] at e
         cases e
         have h0 : LF.den G.σ ((c1, []) : LF) = 0 := by
          rw [ieq_ok, decide_eq_true_eq] at hz0
          show c1 + 0 = 0
          omega
         refine Bin.int (u := .int k 0) ?_ (iint_conc _ _) rfl
         simp [binOp, Op.intArith, h0, wrap_zero]
       | false =>
       rw [hz0, cond_false] at e
       obtain ⟨hh, hv, hw⟩ := nm _ e
       have : LF.den G.σ (c1 * c2, scale c1 l2) = LF.den G.σ (c1, []) * LF.den G.σ (c2, l2) := by
        show c1 * c2 + den G.σ (scale c1 l2) = (c1 + 0) * (c2 + den G.σ l2)
        rw [den_scale, Int.add_zero, Int.mul_add]
       rw [this] at hw hv
       exact Bin.int (by simp [binOp, Op.intArith, hw]) hv hh
     | cons p l1 =>
       cases l2 with
       | nil =>
         have e : (bif ieq c2 0 then .ok (.int k 0) h else symNm E k (c2 * c1, scale c2 (p :: l1)) h) = .ok v h' := e
         cases hz0 : ieq c2 0 with
         | true =>
           rw [hz0, cond_true] at e
           cases e
           have h0 : LF.den G.σ ((c2, []) : LF) = 0 := by
            rw [ieq_ok, decide_eq_true_eq] at hz0
            show c2 + 0 = 0
            omega
           refine Bin.int (u := .int k 0) ?_ (iint_conc _ _) rfl
           simp [binOp, Op.intArith, h0, wrap_zero]
         | false =>
         rw [hz0, cond_false] at e
         obtain ⟨hh, hv, hw⟩ := nm _ e
         have : LF.den G.σ (c2 * c1, scale c2 (p :: l1)) = LF.den G.σ (c1, p :: l1) * LF.den G.σ (c2, []) := by
          show c2 * c1 + den G.σ (scale c2 (p :: l1)) = (c1 + den G.σ (p :: l1)) * (c2 + 0)
          rw [den_scale, Int.add_zero, Int.add_mul, Int.mul_comm c2 c1, Int.mul_comm c2]
         rw [this] at hw hv
         exact Bin.int (by simp [binOp, Op.intArith, hw]) hv hh
       | cons q l2 =>
         obtain ⟨i, hh, rfl, hn⟩ := nl 0 e
         refine Bin.int (u := .int k (G.σ i)) ?_ (nlv i) hh
         rcases hn with ⟨_, hw⟩ | ⟨h0, _⟩ | ⟨h0, _⟩ | h0
         · have hw' : k.wrap (LF.den G.σ (c1, p :: l1) * LF.den G.σ (c2, q :: l2)) = G.σ i := hw
           simp [binOp, Op.intArith, hw']
         · cases h0
         · cases h0
         · cases h0
   | quo =>
     dsimp only at e
     cases hdv : divC z1 z2 with
     | true =>
       rw [hdv, cond_true] at e
       obtain ⟨hh, hv, hw⟩ := nm _ e
       obtain ⟨h0, h1⟩ := divC_ok (σ := G.σ) hdv
       have h2 : (LF.den G.σ z1).tdiv (LF.den G.σ z2) = LF.den G.σ (quoC z1 z2) := by rw [h1]; exact Int.mul_tdiv_cancel_left _ (by omega)
       have h3 : LF.den G.σ z2 ≠ 0 := by omega
       refine Bin.int ?_ hv hh
       simp [binOp, Op.intDiv, h3, h2, hw]
     | false =>
     rw [hdv, cond_false] at e
     obtain ⟨i, hh, rfl, hn⟩ := nl 1 e
     refine Bin.int (u := .int k (G.σ i)) ?_ (nlv i) hh
     rcases hn with ⟨h0, _⟩ | ⟨_, hy0, hw⟩ | ⟨h0, _⟩ | h0
     · cases h0
     · have hy0' : LF.den G.σ z2 ≠ 0 := hy0
       have hw' : k.wrap ((LF.den G.σ z1).tdiv (LF.den G.σ z2)) = G.σ i := hw
       simp [binOp, Op.intDiv, hy0', hw']
     · cases h0
     · cases h0
   | rem =>
     dsimp only at e
     split at e
     · cases e
       have : LF.den G.σ ((Int.ofNat 1, []) : LF) = 1 := rfl
       refine Bin.int (u := .int k 0) ?_ (iint_conc _ _) rfl
       rw [this]
       simp [binOp, Op.intDiv]
     · cases hdv : divC z1 z2 with
       | true =>
         rw [hdv, cond_true] at e
         cases e
         obtain ⟨h0, h1⟩ := divC_ok (σ := G.σ) hdv
         have h2 : (LF.den G.σ z1).tmod (LF.den G.σ z2) = 0 := by rw [h1]; exact Int.mul_tmod_right _ _
         have h3 : LF.den G.σ z2 ≠ 0 := by omega
         refine Bin.int (u := .int k 0) ?_ (iint_conc _ _) rfl
         simp [binOp, Op.intDiv, h3, h2]
       | false =>
       rw [hdv, cond_false] at e
       obtain ⟨i, hh, rfl, hn⟩ := nl 2 e
       refine Bin.int (u := .int k (G.σ i)) ?_ (nlv i) hh
       rcases hn with ⟨h0, _⟩ | ⟨h0, _⟩ | ⟨_, hy0, hw⟩ | h0
       · cases h0
       · cases h0
       · have hy0' : LF.den G.σ z2 ≠ 0 := hy0
         have hw' : (LF.den G.σ z1).tmod (LF.den G.σ z2) = G.σ i := hw
         simp [binOp, Op.intDiv, hy0', hw']
       · cases h0
   | lss =>
     obtain ⟨b, hb, rfl, rfl⟩ := bl _ _ _ e
     have := symLt_ok ok hb
     exact Bin.int (by simp [binOp, Op.intCmp, this]) (bool_conc _) rfl
   | gtr =>
     obtain ⟨b, hb, rfl, rfl⟩ := bl _ _ _ e
     have := symLt_ok ok hb
     exact Bin.int (by simp [binOp, Op.intCmp, this]) (bool_conc _) rfl
   | leq =>
     obtain ⟨b, hb, rfl, rfl⟩ := bl _ _ _ e
     have := symLt_ok ok hb
     refine Bin.int (by simp [binOp, Op.intCmp]; rfl) ((bool_conc _).trans ?_) rfl
     rw [this, ← decide_not, decide_eq_decide.2 Int.not_lt]
   | geq =>
     obtain ⟨b, hb, rfl, rfl⟩ := bl _ _ _ e
     have := symLt_ok ok hb
     refine Bin.int (by simp [binOp, Op.intCmp]; rfl) ((bool_conc _).trans ?_) rfl
     rw [this, ← decide_not, decide_eq_decide.2 Int.not_lt]
   | _ => cases e
 · cases e
end
end Go.Proofs.YtmfmjhklajmhoaaGreat.Gv
