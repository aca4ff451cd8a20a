/- Operations, fifth part: operators, parts, slices, conversions. -/
import Derived.Test.YtmfmjhklajmhoaaGreatGvOps4
namespace Go.Proofs.YtmfmjhklajmhoaaGreat.Gv
open Go
section
variable {E : Env} {P : Program} {G : Gh} {φ : Mp} {h h' : H} {w : World} {s : Fr} {a : Act} {v : V} {o : Oper}
theorem binOp_ok (ok : EnvOk E P G) {op : BinOp} {t yt : Nat} {x y : Operand} (ho : o.op = .binOp op t x y yt) (hx : okOpn x = true) (hy : okOpn y = true) (T : TRel G φ s a.tmps) (r : HRel G φ h w)
 (e : (opF E o).v s h = .ok v h') : Did G φ h w v h' ((execOp a.eval o).run P w) := by
 unfold opF at e
 simp only [ho, Box.use_v] at e
 obtain ⟨rfl, u, hrun, hc⟩ := binF_ok ok (ox := x) (oy := y) r (opn_ok T hx) (opn_ok T hy) e
 refine ⟨φ, u, w, .inl ?_, hc, r, Frame.refl _ _ _ _, Ext.refl _ _ _⟩
 simp only [execOp, ho]
 rw [Sem.run_bind, hrun]
 rfl
theorem not_ok {t : Nat} {x : Operand} (ho : o.op = .unOp .not t x) (hx : okOpn x = true) (T : TRel G φ s a.tmps) (r : HRel G φ h w)
 (e : (opF E o).v s h = .ok v h') : Did G φ h w v h' ((execOp a.eval o).run P w) := by
 unfold opF at e
 simp only [ho, Box.use_v] at e
 obtain ⟨b, hb, e⟩ := onBool_ok e
 cases e
 have h1 := opn_ok T hx
 rw [hb, conc] at h1
 have h1' : a.eval x = .bool b := (Option.some.inj h1).symm
 refine ⟨φ, .bool (!b), w, .inl ?_, bool_conc _, r, Frame.refl _ _ _ _, Ext.refl _ _ _⟩
 simp [execOp, ho, h1', Op.unary]
theorem neg_ok (ok : EnvOk E P G) {t : Nat} {x : Operand} (ho : o.op = .unOp .neg t x) (hx : okOpn x = true) (T : TRel G φ s a.tmps) (r : HRel G φ h w)
 (e : (opF E o).v s h = .ok v h') : Did G φ h w v h' ((execOp a.eval o).run P w) := by
 unfold opF at e
 simp only [ho, Box.use_v] at e
 have h1 := opn_ok T hx
 have key : ∀ k n, a.eval x = .int k n → (binF E .sub 0).v (.int k 0) ((opn x).v s) h = .ok v h' → Did G φ h w v h' ((execOp a.eval o).run P w) := by
  intro k n hx' e
  obtain ⟨rfl, u, hrun, hc⟩ := binF_ok ok (ox := x) (oy := x) r (iint_conc k 0) h1 e
  rw [hx'] at hrun
  rw [Sem.run_bind, eqGuard_ok (by simp) (by simp)] at hrun
  simp [binOp, Op.intArith] at hrun
  refine ⟨φ, u, w, .inl ?_, hc, r, Frame.refl _ _ _ _, Ext.refl _ _ _⟩
  simp [execOp, ho, hx', Op.unary, Op.intArith, hrun]
 generalize hv : (opn x).v s = y at e h1 key
 cases y with
 | int k n => rw [conc] at h1; exact key k n (Option.some.inj h1).symm e
 | sint k c ts => rw [conc] at h1; exact key k _ (Option.some.inj h1).symm e
 | _ => exact absurd e (by intro e; cases e)
theorem typeAssert_ok (ok : EnvOk E P G) {xt t : Nat} {x : Operand} {b : Bool} (ho : o.op = .typeAssert x xt t b) (hx : okOpn x = true) (T : TRel G φ s a.tmps) (r : HRel G φ h w)
 (e : (opF E o).v s h = .ok v h') : Did G φ h w v h' ((execOp a.eval o).run P w) := by
 unfold opF at e
 simp only [ho, ok.ty] at e
 have key : (mkTI P t).k ≠ .iface → (mkTI P t).k ≠ .other → (match (opn x).v s with
  | .iface t1 v => bif Nat.beq t1 t then .ok (bif b then .tuple [v, .bool true] else v) h else .bad "assert" t1
  | _ => .bad "assert" t) = RV.ok v h' → Did G φ h w v h' ((execOp a.eval o).run P w) := by
  intro h1 h2 e
  obtain ⟨d, hd, hni⟩ := k_plain h1 h2
  have h3 := opn_ok T hx
  generalize (opn x).v s = y at e h3
  cases y with
  | iface t1 z =>
    obtain ⟨ht, e'⟩ := bif_ok e
    clear e
    rw [nbeq, decide_eq_true_eq] at ht
    subst ht
    cases e'
    rw [conc] at h3
    cases hz : conc G φ z with
    | none => rw [hz] at h3; cases h3
    | some u =>
      rw [hz] at h3
      have h4 := (Option.some.inj h3).symm
      refine ⟨φ, (bif b then .tuple #[u, .bool true] else u), w, .inl ?_, ?_, r, Frame.refl _ _ _ _, Ext.refl _ _ _⟩
      · simp only [execOp, ho, h4, Instr.typeAssert]
        cases d <;> first | (exact absurd rfl (hni _)) | (cases b <;> simp [run_underlying hd])
      · cases b
        · exact hz
        · show conc G φ (.tuple [z, .bool true]) = _
          have : concL G φ [z, .bool true] = some [u, .bool true] := concL_cons.2 ⟨u, [.bool true], hz, concL_cons.2 ⟨_, [], bool_conc _, concL_nil, rfl⟩, rfl⟩
          rw [conc, this]; rfl
  | _ => cases e
 split at e
 · cases e
 · cases e
 · rename_i h1 h2
   simp only [Box.use_v] at e
   exact key (fun e => h1 e) (fun e => h2 e) e
theorem field_ok (ok : EnvOk E P G) {t f : Nat} {x : Operand} (ho : o.op = .field t x f) (hx : okOpn x = true) (T : TRel G φ s a.tmps) (r : HRel G φ h w)
 (e : (opF E o).v s h = .ok v h') : Did G φ h w v h' ((execOp a.eval o).run P w) := by
 unfold opF at e
 simp only [ho, ok.ty] at e
 split at e
 · rename_i fs hk
   obtain ⟨fa, hu, hfs⟩ := k_struct hk
   split at e
   · rename_i off u hfu
     subst hfs
     simp only [List.getElem?_map, Option.map_eq_some_iff] at hfu
     obtain ⟨fd, hfd, hfe⟩ := hfu
     cases hfe
     have hfd' : fa[f]? = some fd := by simpa using hfd
     cases hh : (mkTI P fd.type).has with
     | false => rw [hh] at e; cases e
     | true =>
       rw [hh, Bool.not_true, cond_false] at e
       have h1 := opn_ok T hx
       have key : ∀ l z, (opn x).v s = .agg l → (partV (mkTI P fd.type) fd.offset).v l = some z → v = z → h' = h → Did G φ h w v h' ((execOp a.eval o).run P w) := by
        intro l z hl hz hv hh'
        subst hv; subst hh'
        rw [hl] at h1
        obtain ⟨ul, hul, hp⟩ := conc_agg h1
        obtain ⟨uz, hrun, hc⟩ := partV_ok (w := w) (has_und hh) hh hul hz
        refine ⟨φ, uz, w, .inl ?_, hc, r, Frame.refl _ _ _ _, Ext.refl _ _ _⟩
        simp [execOp, ho, hp, Instr.field, run_underlying hu, hfd', asAgg, hrun]
       split at e
       · rename_i hg
         simp only [Box.use_v] at e
         generalize hy : (opn x).v s = y at e key
         cases y with
         | agg l => cases e; exact key l _ rfl (by unfold partV; rw [hg]; simp only [Box.use_v]) rfl rfl
         | _ => cases e
       · rename_i hg
         simp only [Box.use_v] at e
         generalize hy : (opn x).v s = y at e key
         cases y with
         | agg l =>
           obtain ⟨z, hz, e⟩ := onSome_ok e
           cases e
           exact key l _ rfl (by unfold partV; rw [hg]; exact hz) rfl rfl
         | _ => cases e
   · cases e
 · cases e
theorem index_ok (ok : EnvOk E P G) {t : Nat} {x ix : Operand} (ho : o.op = .index t x ix) (hx : okOpn x = true) (hi : okOpn ix = true) (T : TRel G φ s a.tmps) (r : HRel G φ h w)
 (e : (opF E o).v s h = .ok v h') : Did G φ h w v h' ((execOp a.eval o).run P w) := by
 unfold opF at e
 simp only [ho, ok.ty] at e
 have h1 := opn_ok T hx
 have h2 := opn_ok T hi
 split at e
 · rename_i hk
   have hu := k_string hk
   simp only [Box.use_v] at e
   obtain ⟨kd, i, hn, e⟩ := onNat_ok e
   rw [hn, conc] at h2
   have h2' := (Option.some.inj h2).symm
   generalize (opn x).v s = y at e h1
   cases y with
   | str n z =>
     obtain ⟨hlt, e⟩ := bif_ok e
     rw [nblt, decide_eq_true_eq] at hlt
     cases e
     rw [str_conc] at h1
     have h1' := (Option.some.inj h1).symm
     have hg : (⟨(strL n z).toArray⟩ : ByteArray)[i]? = some (UInt8.ofNat (z / 256 ^ i % 256)) := by
      have := strL_get n z i hlt
      rw [show (⟨(strL n z).toArray⟩ : ByteArray)[i]? = (strL n z).toArray[i]? from rfl, List.getElem?_toArray]
      exact this
     refine ⟨φ, .int .u8 ((z / 256 ^ i % 256 : Nat) : Int), w, .inl ?_, by rw [conc]; rfl, r, Frame.refl _ _ _ _, Ext.refl _ _ _⟩
     simp [execOp, ho, h1', h2', Instr.index, asIntOf, run_underlying hu, hg]
   | _ => cases e
 · rename_i m el hk
   have hu := k_array hk
   cases hh : (mkTI P el).has with
   | false => rw [hh] at e; cases e
   | true =>
     rw [hh, Bool.not_true, cond_false] at e
     obtain ⟨inf, hinf, hsz, _⟩ := has_ok hh
     split at e
     · rename_i hg
       simp only [Box.use_v] at e
       obtain ⟨kd, i, hn, e⟩ := onNat_ok e
       rw [hn, conc] at h2
       have h2' := (Option.some.inj h2).symm
       generalize hy : (opn x).v s = y at e h1
       cases y with
       | agg l =>
         obtain ⟨hlt, e⟩ := bif_ok e
         rw [nblt, decide_eq_true_eq] at hlt
         obtain ⟨z, hz, e⟩ := onSome_ok e
         cases e
         obtain ⟨ul, hul, hp⟩ := conc_agg h1
         obtain ⟨uz, hrun, hc⟩ := partV_ok (w := w) (off := i * (mkTI P el).size) (has_und hh) hh hul (by unfold partV; rw [hg]; exact hz)
         refine ⟨φ, uz, w, .inl ?_, hc, r, Frame.refl _ _ _ _, Ext.refl _ _ _⟩
         rw [hsz] at hrun
         simp [execOp, ho, hp, h2', Instr.index, asIntOf, run_underlying hu, sizeOf, typeInfo, hinf, hlt, hrun]
       | _ => cases e
     · cases e
 · cases e
theorem optN_ok {x : Option Operand} {d : Nat} {k : Nat → RV} (hx : ∀ y, x = some y → okOpn y = true) (T : TRel G φ s a.tmps) (e : (optN x).v d s k = .ok v h') :
 ∃ n, k n = .ok v h' ∧ ((x = none ∧ n = d) ∨ (∃ y kd, x = some y ∧ a.eval y = .int kd (Int.ofNat n))) := by
 cases x with
 | none => exact ⟨d, e, .inl ⟨rfl, rfl⟩⟩
 | some y =>
   unfold optN at e
   simp only [Box.use_v] at e
   obtain ⟨kd, n, hn, e⟩ := onNat_ok e
   have h1 := opn_ok T (hx y rfl)
   rw [hn, conc] at h1
   exact ⟨n, e, .inr ⟨y, kd, rfl, (Option.some.inj h1).symm⟩⟩
theorem bounds_ok {isS : Bool} {len cap l u m : Nat} {lo hi mx : Option Operand}
 (hl : (lo = none ∧ l = 0) ∨ (∃ y kd, lo = some y ∧ a.eval y = .int kd (Int.ofNat l)))
 (hu : (hi = none ∧ u = len) ∨ (∃ y kd, hi = some y ∧ a.eval y = .int kd (Int.ofNat u)))
 (hm : (mx = none ∧ m = cap) ∨ (∃ y kd, mx = some y ∧ a.eval y = .int kd (Int.ofNat m))) (hmh : mx ≠ none → hi ≠ none)
 (h1 : l ≤ u) (h2 : u ≤ m) (h3 : m ≤ cap) :
 (Instr.sliceBounds isS len cap (lo.map a.eval) (hi.map a.eval) (mx.map a.eval)).run P w = .ok (l, u, m) w := by
 have sb : ∀ (kd : IntKind) (n y : Nat) c, n ≤ y → (Instr.sliceBound (.int kd (n : Int)) y c).run P w = .ok n w := by
  intro kd n y c h
  simp only [Instr.sliceBound, asIntOf, Sem.run_bind, Sem.run_pure, Result.andThen_ok]
  rw [if_pos ⟨Int.natCast_nonneg n, by omega⟩]
  rfl
 rcases hm with ⟨rfl, rfl⟩ | ⟨y3, k3, rfl, e3⟩
 · rcases hu with ⟨rfl, rfl⟩ | ⟨y2, k2, rfl, e2⟩
   · rcases hl with ⟨rfl, rfl⟩ | ⟨y1, k1, rfl, e1⟩
     · simp [Instr.sliceBounds]
     · simp [Instr.sliceBounds, e1, sb _ _ _ _ h1]
   · rcases hl with ⟨rfl, rfl⟩ | ⟨y1, k1, rfl, e1⟩
     · simp [Instr.sliceBounds, e2, sb _ _ _ _ h2]
     · simp [Instr.sliceBounds, e2, e1, sb _ _ _ _ h2, sb _ _ _ _ h1]
 · rcases hu with ⟨rfl, rfl⟩ | ⟨y2, k2, rfl, e2⟩
   · exact absurd rfl (hmh (by simp))
   · rcases hl with ⟨rfl, rfl⟩ | ⟨y1, k1, rfl, e1⟩
     · simp [Instr.sliceBounds, e3, e2, sb _ _ _ _ h3, sb _ _ _ _ h2]
     · simp [Instr.sliceBounds, e3, e2, e1, sb _ _ _ _ h3, sb _ _ _ _ h2, sb _ _ _ _ h1]
theorem bytesV_cons (y : V) (l : List V) : bytesV (y :: l) = (match y with
 | .int .u8 (.ofNat b) => (match bytesV l with | some (n, z) => bif Nat.blt b 256 then some (n + 1, b + 256 * z) else none | none => none)
 | _ => none) := rfl
theorem bytesV_ok : ∀ (l : List V) (n x : Nat), bytesV l = some (n, x) → n = l.length ∧ ∃ ns : List Int, (∀ ψ : Mp, concL G ψ l = some (ns.map (Value.int .u8))) ∧
 ∀ acc : List UInt8, ns.foldl (fun r n => r.push (UInt8.ofNat n.toNat)) (⟨acc.toArray⟩ : ByteArray) = ⟨(acc ++ strL n x).toArray⟩
 | [], n, x, e => by cases e; exact ⟨rfl, [], fun ψ => concL_nil, fun acc => by simp [strL]⟩
 | y :: l, n, x, e => by
   rw [bytesV_cons] at e
   split at e
   · rename_i b
     cases hl : bytesV l with
     | none => rw [hl] at e; cases e
     | some p =>
       obtain ⟨m, z⟩ := p
       rw [hl] at e
       dsimp only at e
       cases hb : Nat.blt b 256 with
       | false => rw [hb] at e; cases e
       | true =>
         rw [hb, cond_true] at e
         rw [nblt, decide_eq_true_eq] at hb
         cases e
         obtain ⟨hm, ns, h1, h2⟩ := bytesV_ok l m z hl
         refine ⟨by simp [hm], (b : Int) :: ns, fun ψ => concL_cons.2 ⟨_, _, by rw [conc]; rfl, h1 ψ, rfl⟩, fun acc => ?_⟩
         have e1 : (b + 256 * z) % 256 = b := by omega
         have e2 : (b + 256 * z) / 256 = z := by omega
         have := h2 (acc ++ [UInt8.ofNat b])
         rw [List.foldl_cons, strL, e1, e2]
         rw [show acc ++ UInt8.ofNat b :: strL m z = acc ++ [UInt8.ofNat b] ++ strL m z from by simp, ← this]
         congr 1
         simp [ByteArray.push]
   · cases e
theorem wrap_up (c d : Int) : IntKind.u64.wrap (c + 18446744073709551616 + d) = IntKind.u64.wrap (c + d) := by
 simp only [IntKind.wrap, IntKind.bits, IntKind.signed]
 simp
 omega
theorem wrap_down (c d : Int) : IntKind.i64.wrap (c - 18446744073709551616 + d) = IntKind.i64.wrap (c + d) := by
 rw [IntKind.wrap_i64, IntKind.wrap_i64]
 omega
theorem conv_ok (ok : EnvOk E P G) {src dst : Nat} {x : Operand} (ho : o.op = .convert src dst x) (hx : okOpn x = true) (T : TRel G φ s a.tmps) (r : HRel G φ h w)
 (e : (opF E o).v s h = .ok v h') : Did G φ h w v h' ((execOp a.eval o).run P w) := by
 unfold opF at e
 simp only [ho, Box.use_v] at e
 have h1 := opn_ok T hx
 have fin : ∀ u, (convert src dst (a.eval x)).run P w = .ok u w → conc G φ v = some u → h' = h → Did G φ h w v h' ((execOp a.eval o).run P w) := by
  intro u hr hc hh
  subst hh
  refine ⟨φ, u, w, .inl ?_, hc, r, Frame.refl _ _ _ _, Ext.refl _ _ _⟩
  simp [execOp, ho, hr]
 unfold convF at e
 simp only [ok.ty] at e
 cases hs : (mkTI P src).has with
 | false => rw [hs] at e; cases e
 | true =>
   obtain ⟨d, hd⟩ := has_und hs
   rw [hs, Bool.not_true, cond_false] at e
   split at e
   · rename_i k hk
     have hu := k_int hk
     generalize (opn x).v s = y at e h1
     cases y with
     | int j n =>
       cases e
       rw [conc] at h1
       have h2 := (Option.some.inj h1).symm
       exact fin (.int k (k.wrap n)) (by rw [h2]; simp [convert, run_underlying hd, run_underlying hu, Conv.intToInt]) (by rw [conc, wrapK_ok]) rfl
     | sint j c ts =>
       rw [conc] at h1
       have h2 := (Option.some.inj h1).symm
       dsimp only at e
       cases hf : fits E k (c, ts) with
       | true =>
         rw [hf] at e
         cases e
         have hw : k.wrap (c + den G.σ ts) = c + den G.σ ts := fits_ok ok hf
         exact fin (.int k (c + den G.σ ts)) (by rw [h2]; simp [convert, run_underlying hd, run_underlying hu, Conv.intToInt, hw]) (by rw [conc]) rfl
       | false =>
         rw [hf, cond_false] at e
         cases hf2 : (sameK k .u64 && fits E .u64 (c + 18446744073709551616, ts)) with
         | true =>
           rw [hf2] at e
           cases e
           rw [Bool.and_eq_true] at hf2
           obtain ⟨hk2, hf2⟩ := hf2
           have hk3 := sameK_ok hk2
           subst hk3
           have hw : IntKind.u64.wrap (c + 18446744073709551616 + den G.σ ts) = c + 18446744073709551616 + den G.σ ts := fits_ok ok hf2
           have hw2 : IntKind.u64.wrap (c + den G.σ ts) = c + 18446744073709551616 + den G.σ ts := by rw [← hw]; exact (wrap_up _ _).symm
           exact fin (.int .u64 (c + 18446744073709551616 + den G.σ ts)) (by rw [h2]; simp [convert, run_underlying hd, run_underlying hu, Conv.intToInt, hw2]) (by rw [conc]) rfl
         | false =>
           rw [hf2, cond_false] at e
           obtain ⟨hf3, e2⟩ := bif_ok e
           cases e2
           rw [Bool.and_eq_true] at hf3
           obtain ⟨hk2, hf3⟩ := hf3
           have hk3 := sameK_ok hk2
           subst hk3
           have hw : IntKind.i64.wrap (c - 18446744073709551616 + den G.σ ts) = c - 18446744073709551616 + den G.σ ts := fits_ok ok hf3
           have hw2 : IntKind.i64.wrap (c + den G.σ ts) = c - 18446744073709551616 + den G.σ ts := by rw [← hw]; exact (wrap_down _ _).symm
           exact fin (.int .i64 (c - 18446744073709551616 + den G.σ ts)) (by rw [h2]; simp [convert, run_underlying hd, run_underlying hu, Conv.intToInt, hw2]) (by rw [conc]) rfl
     | _ => cases e
   · rename_i hk
     have hu := k_string hk
     generalize (opn x).v s = y at e h1
     have key : (∀ n z, y ≠ .str n z) → Did G φ h w v h' ((execOp a.eval o).run P w) := by
      intro hne
      dsimp only at e
      split at e
      · exact absurd rfl (hne _ _)
      · split at e
        · rename_i e0 hk0
          have hu0 := k_slice hk0
          split at e
          · rename_i hk1
            have hu1 := k_int hk1
            split at e
            · cases e
              rw [conc] at h1
              have h2 := (Option.some.inj h1).symm
              refine fin (.string .empty) (by rw [h2]; simp [convert, run_underlying hu0, run_underlying hu, run_underlying hu1, Conv.bytesToString]) (by rw [conc]; rfl) rfl
            · rename_i b off len c xx _
              obtain ⟨cs, n, sz, ex, hb, e⟩ := onCells_ok e
              obtain ⟨hlt, e⟩ := bif_ok e
              rw [nble, decide_eq_true_eq] at hlt
              obtain ⟨l, hl, e⟩ := onSome_ok e
              obtain ⟨p, hp, e⟩ := onSome_ok e
              cases e
              obtain ⟨pn, px⟩ := p
              obtain ⟨lo, hlo, h2⟩ := conc_slice h1
              obtain ⟨us, hus, hlen, hcell⟩ := r.row hb hlo hlt hl
              obtain ⟨hn, ns, hns, hfold⟩ := bytesV_ok (G := G) l pn px hp
              have hus' := hns φ
              rw [hus] at hus'
              cases hus'
              have hload := run_loadCells_list (P := P) w ⟨lo.blk, off, none⟩ (ns.map (Value.int .u8)) (fun j u hj => by rw [Addr.add_lit]; exact hcell j u hj)
              rw [hlen] at hload
              have hrun := run_bytesToString (P := P) w ⟨lo.blk, off, none⟩ len (bif xx then c + lo.slack else c) ns hload
              refine fin _ (by rw [h2]; simp only [convert, Sem.run_bind, run_underlying hu0, run_underlying hu, Result.andThen_ok, run_underlying hu1]; exact hrun) ?_ rfl
              rw [conc]
              have := hfold []
              rw [show (⟨([] : List UInt8).toArray⟩ : ByteArray) = ByteArray.empty from rfl, List.nil_append] at this
              rw [this]
            · cases e
          · cases e
        · cases e
     cases y with
     | str n z =>
       cases e
       rw [str_conc] at h1
       have h2 := (Option.some.inj h1).symm
       exact fin _ (by rw [h2]; cases d <;> simp [convert, run_underlying hd, run_underlying hu]) (str_conc n z) rfl
     | _ => exact key (by intro n z hh; cases hh)
   · cases e
end
end Go.Proofs.YtmfmjhklajmhoaaGreat.Gv
namespace Go.Proofs.YtmfmjhklajmhoaaGreat.Gv
open Go
theorem strL_slice (n x l u : Nat) (h1 : l ≤ u) (h2 : u ≤ n) :
 (⟨(strL n x).toArray⟩ : ByteArray).extract l u = ⟨(strL (u - l) (x / 256 ^ l % 256 ^ (u - l))).toArray⟩ := by
 apply ByteArray.ext
 rw [ByteArray.data_extract]
 rw [← strL_take (n - l) _ (u - l) (by omega), ← strL_drop]
 simp
theorem strL_size (n x : Nat) : (⟨(strL n x).toArray⟩ : ByteArray).size = n := by
 show (strL n x).toArray.size = n
 simp [strL_length]
section
variable {E : Env} {P : Program} {G : Gh} {φ : Mp} {h h' : H} {w : World} {s : Fr} {a : Act} {v : V} {o : Oper}
theorem HRel.skip (r : HRel G φ h w) (hf : φ h.next = none) (l : Loc) :
 HRel G (φ.put h.next l) { t := h.t, next := h.next + 1 } w ∧ Ext φ (φ.put h.next l) h { t := h.t, next := h.next + 1 } w := by
 have hlive : ∀ b x m, h.t.get b = some x → (φ.put h.next l) b = some m → φ b = some m := by
  intro b x m hb hm
  by_cases hn : b = h.next
  · subst hn; rw [r.fresh _ (Nat.le_refl _)] at hb; cases hb
  · rwa [Mp.put_other hn] at hm
 have r' := r.frame (Mp.le_put hf) hlive (fun _ _ => rfl)
 refine ⟨⟨r'.blk, r'.inj, fun b hb => r.fresh b (by have : h.next + 1 ≤ b := hb; omega)⟩, ⟨Mp.le_put hf, ?_, by simp, ?_⟩⟩
 · intro b hb hr
   rw [Mp.put_other (by simp only at hr; omega)]; exact hb
 · intro k ⟨b, x, m, h1, h2, h3⟩ _
   exact ⟨b, x, m, h1, hlive b x m h1 h2, h3⟩
theorem slice_ok (ok : EnvOk E P G) {t : Nat} {x : Operand} {lo hi mx : Option Operand} (ho : o.op = .slice t x lo hi mx) (hx : okOpn x = true)
 (hlo : ∀ y, lo = some y → okOpn y = true) (hhi : ∀ y, hi = some y → okOpn y = true) (hmx : ∀ y, mx = some y → okOpn y = true) (T : TRel G φ s a.tmps) (r : HRel G φ h w) (hf : Free φ h.next h'.next)
 (e : (opF E o).v s h = .ok v h') : Did G φ h w v h' ((execOp a.eval o).run P w) := by
 unfold opF at e
 simp only [ho, Box.use_v] at e
 have h1 := opn_ok T hx
 have fin : ∀ u, (Instr.sliceAt t (a.eval x) (lo.map a.eval) (hi.map a.eval) (mx.map a.eval)).run P w = .ok u w → conc G φ v = some u → h' = h → Did G φ h w v h' ((execOp a.eval o).run P w) := by
  intro u hr hc hh
  subst hh
  refine ⟨φ, u, w, .inl ?_, hc, r, Frame.refl _ _ _ _, Ext.refl _ _ _⟩
  simp [execOp, ho, hr]
 unfold sliceF at e
 simp only [ok.ty] at e
 split at e
 ·
  rename_i hk
  have hu := k_string hk
  cases mx with
  | some m => cases e
  | none =>
    simp only [Option.isSome_none, cond_false, Box.use_v] at e
    generalize (opn x).v s = y at e h1
    cases y with
    | str n z =>
      have e2 := optN_ok hlo T e
      clear e
      obtain ⟨l, e, hl⟩ := e2
      have e2 := optN_ok hhi T e
      clear e
      obtain ⟨u, e, hu'⟩ := e2
      have e2 := bif_ok e
      clear e
      obtain ⟨hb, e⟩ := e2
      simp only [Bool.and_eq_true, nble, decide_eq_true_eq] at hb
      cases e
      rw [conc] at h1
      have h2 := (Option.some.inj h1).symm
      have hbd := bounds_ok (P := P) (w := w) (isS := false) (m := n) (mx := none) hl hu' (.inl ⟨rfl, rfl⟩) (fun hh => absurd rfl hh) hb.1 hb.2 (Nat.le_refl n)
      simp only [Option.map_none] at hbd
      refine fin (.string ((⟨(strL n z).toArray⟩ : ByteArray).extract l u)) ?_ ?_ rfl
      · rw [h2]
        simp [Instr.sliceAt, Instr.slice, run_underlying hu, strL_size, hbd]
      · rw [conc, strL_slice n z l u hb.1 hb.2]
    | _ => cases e
 · rename_i el hk
   have hu := k_slice hk
   cases hc : ((mkTI P el).has && (hi.isSome || mx.isNone)) with
   | false => rw [hc] at e; cases e
   | true =>
     rw [hc, Bool.not_true, cond_false] at e
     rw [Bool.and_eq_true] at hc
     obtain ⟨inf, hinf, hsz, _⟩ := has_ok hc.1
     have hmh : mx ≠ none → hi ≠ none := by
      intro h1 h2; rw [h2] at hc; cases mx with
      | none => exact h1 rfl
      | some m => simp at hc
     simp only [Box.use_v] at e
     generalize (opn x).v s = y at e h1
     cases y with
     | slice b off len cap xx =>
       have e2 := optN_ok hlo T e
       clear e
       obtain ⟨l, e, hl⟩ := e2
       have e2 := optN_ok hhi T e
       clear e
       obtain ⟨u, e, hu'⟩ := e2
       have e2 := optN_ok hmx T e
       clear e
       obtain ⟨m, e, hm'⟩ := e2
       have e2 := bif_ok e
       clear e
       obtain ⟨hb, e⟩ := e2
       simp only [Bool.and_eq_true, nble, decide_eq_true_eq] at hb
       obtain ⟨⟨hb1, hb2⟩, hb3⟩ := hb
       obtain ⟨lc, hlc, h2⟩ := conc_slice h1
       have hreal : ∃ M, ((mx = none ∧ M = (bif xx then cap + lc.slack else cap)) ∨ (∃ y kd, mx = some y ∧ a.eval y = .int kd (Int.ofNat M))) ∧
        M = (bif (bif mx.isNone then xx else false) then m + lc.slack else m) ∧ M ≤ (bif xx then cap + lc.slack else cap) := by
        rcases hm' with ⟨hm0, rfl⟩ | ⟨y3, k3, hm0, hm1⟩
        · exact ⟨_, .inl ⟨hm0, rfl⟩, by rw [hm0]; rfl, Nat.le_refl _⟩
        · refine ⟨m, .inr ⟨y3, k3, hm0, hm1⟩, by rw [hm0]; rfl, ?_⟩
          cases xx
          · exact hb3
          · exact Nat.le_trans hb3 (Nat.le_add_right _ _)
       obtain ⟨M, hM1, hM2, hM3⟩ := hreal
       have hmM : m ≤ M := by rw [hM2]; cases (bif mx.isNone then xx else false) <;> simp
       have hbd := bounds_ok (P := P) (w := w) (isS := true) (len := len) hl hu' hM1 hmh hb1 (Nat.le_trans hb2 hmM) hM3
       have hrun : (Instr.sliceAt t (a.eval x) (lo.map a.eval) (hi.map a.eval) (mx.map a.eval)).run P w =
        .ok (.slice (if M = l then some ⟨lc.blk, off, none⟩ else some ⟨lc.blk, off + l * (mkTI P el).size, none⟩) (u - l) (M - l)) w := by
        rw [h2]
        simp [Instr.sliceAt, Instr.slice, run_underlying hu, hbd, sizeOf, typeInfo, hinf, hsz, Addr.add_lit]
       cases hl0 : Nat.beq l 0 with
       | true =>
         rw [hl0, cond_true] at e
         cases e
         rw [nbeq, decide_eq_true_eq] at hl0
         subst hl0
         refine fin _ hrun ?_ rfl
         rw [conc, hlc]
         simp only [hM2, Nat.zero_mul, Nat.add_zero, Nat.sub_zero]
         split <;> rfl
       | false =>
         rw [hl0, cond_false] at e
         cases hlm : Nat.beq l m with
         | true =>
           rw [hlm, cond_true] at e
           rw [nbeq, decide_eq_true_eq] at hlm
           subst hlm
           have hul : u = l := by omega
           subst hul
           cases hn : (mx.isNone && xx) with
           | true =>
             rw [hn, cond_true] at e
             rw [Bool.and_eq_true] at hn
             rw [hn.1, hn.2] at hM2
             simp only [cond_true] at hM2
             cases e
             have hfn : φ h.next = none := hf _ (Nat.le_refl _) (by simp)
             obtain ⟨r', hx'⟩ := r.skip hfn ⟨lc.blk, if M = u then off else off + u * (mkTI P el).size, lc.slack⟩
             refine ⟨_, _, w, .inl (by simp only [execOp, ho, Sem.run_bind, hrun, Result.andThen_ok]; rfl), ?_, r', Frame.refl _ _ _ _, hx'⟩
             rw [conc, Mp.put_self]
             simp only [Nat.sub_self]
             rw [show M - u = lc.slack by omega]
             split <;> rfl
           | false =>
             rw [hn, cond_false] at e
             cases e
             have hMl : M = u := by
              rw [hM2]
              cases hmn : mx.isNone with
              | false => rfl
              | true =>
                rw [hmn, Bool.true_and] at hn
                rw [hn]; rfl
             refine fin _ hrun ?_ rfl
             rw [conc, hlc, if_pos hMl, hMl]
             simp
         | false =>
           rw [hlm, cond_false] at e
           cases e
           have hne : M ≠ l := by
            have := hlm
            rw [nbeq, decide_eq_false_iff_not] at this
            omega
           refine fin _ hrun ?_ rfl
           rw [conc, hlc, if_neg hne, hM2]
           rw [nbeq, decide_eq_false_iff_not] at hlm
           have hcap : (bif (bif mx.isNone then xx else false) then m - l + lc.slack else m - l) = (bif (bif mx.isNone then xx else false) then m + lc.slack else m) - l := by
            cases (bif mx.isNone then xx else false)
            · rfl
            · simp only [cond_true]; omega
           exact congrArg (fun c => some (Value.slice (some ⟨lc.blk, off + l * (mkTI P el).size, none⟩) (u - l) c)) hcap
     | emp i =>
       have e2 := optN_ok hlo T e
       clear e
       obtain ⟨l, e, hl⟩ := e2
       have e2 := optN_ok hhi T e
       clear e
       obtain ⟨u, e, hu'⟩ := e2
       have e2 := bif_ok e
       clear e
       obtain ⟨hb, e⟩ := e2
       simp only [Bool.and_eq_true, nbeq, decide_eq_true_eq] at hb
       obtain ⟨⟨hb1, rfl⟩, rfl⟩ := hb
       cases e
       cases mx with
       | some m => cases hb1
       | none =>
         have h1' := h1
         rw [conc] at h1'
         cases hi' : φ i with
         | none => rw [hi'] at h1'; cases h1'
         | some lc =>
           rw [hi'] at h1'
           have h2 := (Option.some.inj h1').symm
           have hbd := bounds_ok (P := P) (w := w) (isS := true) (len := 0) (cap := lc.slack) (m := lc.slack) (mx := none) hl hu' (.inl ⟨rfl, rfl⟩) (fun hh => absurd rfl hh) (Nat.le_refl 0) (Nat.zero_le _) (Nat.le_refl _)
           simp only [Option.map_none] at hbd
           refine fin (a.eval x) ?_ h1 rfl
           rw [h2]
           simp [Instr.sliceAt, Instr.slice, run_underlying hu, hbd, sizeOf, typeInfo, hinf, Addr.add_lit]
     | nilslice =>
       have e2 := optN_ok hlo T e
       clear e
       obtain ⟨l, e, hl⟩ := e2
       have e2 := optN_ok hhi T e
       clear e
       obtain ⟨u, e, hu'⟩ := e2
       have e2 := optN_ok hmx T e
       clear e
       obtain ⟨m, e, hm'⟩ := e2
       have e2 := bif_ok e
       clear e
       obtain ⟨hb, e⟩ := e2
       simp only [Bool.and_eq_true, nbeq, decide_eq_true_eq] at hb
       obtain ⟨⟨rfl, rfl⟩, rfl⟩ := hb
       cases e
       have h1' := h1
       rw [conc] at h1'
       have h2 := (Option.some.inj h1').symm
       have hbd := bounds_ok (P := P) (w := w) (isS := true) (len := 0) (cap := 0) hl hu' hm' hmh (Nat.le_refl 0) (Nat.zero_le _) (Nat.le_refl _)
       refine fin (a.eval x) ?_ h1 rfl
       rw [h2]
       simp [Instr.sliceAt, Instr.slice, run_underlying hu, hbd, sizeOf, typeInfo, hinf]
     | _ => cases e
 · rename_i n el hk
   have hu := k_array hk
   cases hc : ((mkTI P el).has && (hi.isSome || mx.isNone)) with
   | false => rw [hc] at e; cases e
   | true =>
     rw [hc, Bool.not_true, cond_false] at e
     rw [Bool.and_eq_true] at hc
     obtain ⟨inf, hinf, hsz, _⟩ := has_ok hc.1
     have hmh : mx ≠ none → hi ≠ none := by
      intro h1 h2; rw [h2] at hc; cases mx with
      | none => exact h1 rfl
      | some m => simp at hc
     simp only [Box.use_v] at e
     obtain ⟨b, off, hy, e⟩ := onPtr_ok e
     rw [hy] at h1
     obtain ⟨lc, hlc, h2⟩ := conc_ptr h1
     have e2 := optN_ok hlo T e
     clear e
     obtain ⟨l, e, hl⟩ := e2
     have e2 := optN_ok hhi T e
     clear e
     obtain ⟨u, e, hu'⟩ := e2
     have e2 := optN_ok hmx T e
     clear e
     obtain ⟨m, e, hm'⟩ := e2
     have e2 := bif_ok e
     clear e
     obtain ⟨hb, e⟩ := e2
     simp only [Bool.and_eq_true, nble, decide_eq_true_eq] at hb
     obtain ⟨⟨hb1, hb2⟩, hb3⟩ := hb
     have hbd := bounds_ok (P := P) (w := w) (isS := false) (len := n) (cap := n) hl hu' hm' hmh hb1 hb2 hb3
     have hrun : (Instr.sliceAt t (a.eval x) (lo.map a.eval) (hi.map a.eval) (mx.map a.eval)).run P w =
      .ok (.slice (if m = l then some ⟨lc.blk, off, none⟩ else some ⟨lc.blk, off + l * (mkTI P el).size, none⟩) (u - l) (m - l)) w := by
      rw [h2]
      simp [Instr.sliceAt, Instr.sureAddr, run_underlying hu, hbd, sizeOf, typeInfo, hinf, hsz, Addr.add_lit]
      split <;> rfl
     cases hlm : Nat.beq l m with
     | true =>
       rw [hlm, cond_true] at e
       rw [nbeq, decide_eq_true_eq] at hlm
       cases e
       refine fin _ hrun ?_ rfl
       rw [conc, hlc, if_pos hlm.symm]
       simp only [cond_false]
       rw [show u - l = 0 by omega, show m - l = 0 by omega]
     | false =>
       rw [hlm, cond_false] at e
       rw [nbeq, decide_eq_false_iff_not] at hlm
       cases e
       refine fin _ hrun ?_ rfl
       rw [conc, hlc, if_neg (fun hh => hlm hh.symm)]
       rfl
 · cases e
end
end Go.Proofs.YtmfmjhklajmhoaaGreat.Gv
