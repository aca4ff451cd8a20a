/- Operations, fifteenth part: copy. -/
import Derived.Test.YtmfmjhklajmhoaaGreatGvOps14
namespace Go.Proofs.YtmfmjhklajmhoaaGreat.Gv
open Go
section
variable {E : Env} {P : Program} {G : Gh} {φ : Mp} {h h' : H} {w : World} {s : Fr} {a : Act} {v : V} {o : Oper}
theorem srcC_ok {len : Nat} {i : TypeInfo} {x : V} {ux : Value} {g : Nat → List V → RV} (hx : conc G φ x = some ux) (r : HRel G φ h w)
 (e : srcF i.size h x (fun n => bif Nat.ble n len then n else len) g = .ok v h') : ∃ m n new unew, (Builtin.lenOf ux).run P w = .ok n w ∧ m = Nat.min n len ∧ (Builtin.firstCells i.size m ux).run P w = .ok unew w ∧ concL G φ new = some unew.toList ∧ g m new = .ok v h' := by
 have hmin : ∀ n, (bif Nat.ble n len then n else len) = Nat.min n len := by
  intro n
  rw [nble]
  by_cases hn : n ≤ len
  · rw [decide_eq_true hn]; exact (Nat.min_eq_left hn).symm
  · rw [decide_eq_false hn]; exact (Nat.min_eq_right (Nat.le_of_lt (Nat.lt_of_not_le hn))).symm
 unfold srcF at e
 split at e
 · rw [conc] at hx; cases hx
   exact ⟨0, 0, [], #[], by simp [Builtin.lenOf], (Nat.zero_min len).symm, by simp [Builtin.firstCells], concL_nil, e⟩
 · rename_i j
   rw [conc] at hx
   cases hj : φ j with
   | none => rw [hj] at hx; cases hx
   | some lc =>
     rw [hj] at hx; cases hx
     exact ⟨0, 0, [], #[], by simp [Builtin.lenOf], (Nat.zero_min len).symm, by simpa using run_firstCells_some (P := P) w i.size 0 ⟨lc.blk, lc.off, none⟩ 0 lc.slack [] (by simp) (by simp), concL_nil, e⟩
 · rename_i b off n c xx
   simp only [hmin] at e
   obtain ⟨yb, cs, k, hb, hrd, e1⟩ := onRead_ok e
   clear e
   obtain ⟨hlt, e2⟩ := bif_ok e1
   clear e1
   rw [nble, decide_eq_true_eq] at hlt
   obtain ⟨l, hl, e3⟩ := onSome_ok e2
   clear e2
   obtain ⟨lc, hlc, rfl⟩ := conc_slice hx
   obtain ⟨us, hus, hlen, hcell⟩ := r.rrow hb hrd hlc hlt hl
   refine ⟨_, n, l, us.toArray, by simp [Builtin.lenOf], rfl, ?_, by simpa using hus, e3⟩
   exact run_firstCells_some (P := P) w i.size (Nat.min n len) ⟨lc.blk, off, none⟩ n _ us hlen (fun j u hj => by rw [Addr.add_lit]; exact hcell j u hj)
 · rename_i n z
   simp only [hmin] at e
   rw [conc] at hx; cases hx
   refine ⟨_, n, strCells (Nat.min n len) z, ((strL (Nat.min n len) z).map fun b => Value.int .u8 b.toNat).toArray, by simp [Builtin.lenOf, strL_size], rfl, ?_, by simpa using strCells_ok (Nat.min n len) z, e⟩
   have hle : Nat.min n len ≤ n := Nat.min_le_left _ _
   have hext : (⟨(strL n z).toArray⟩ : ByteArray).extract 0 (Nat.min n len) = ⟨(strL (Nat.min n len) z).toArray⟩ := by
    rw [strL_slice n z 0 (Nat.min n len) (Nat.zero_le _) hle]
    simp only [Nat.pow_zero, Nat.div_one, Nat.sub_zero, strL_mod]
   simp only [Builtin.firstCells, hext]
   simp
 · cases e
theorem copy_ok (ok : EnvOk E P G) {ts : List Nat} {ty : TypeId} {cs : Array Bool} {l : List V} {ul : List Value} (hl : concL G φ l = some ul) (r : HRel G φ h w)
 (e : (builtF E .copy ts).v l h = .ok v h') : Did G φ h w v h' ((builtin .copy ts.toArray ty cs ul.toArray).run P w) := by
 refine DidV.builtin rfl ?_
 cases ts with
 | nil => cases e
 | cons t0 ts =>
   unfold builtF at e
   simp only [ok.ty] at e
   split at e
   · rename_i el hk
     have hu := k_slice hk
     cases hh : (mkTI P el).has with
     | false => rw [hh] at e; cases e
     | true =>
       obtain ⟨i, hi, hsz, _⟩ := has_ok hh
       rw [hh] at e
       simp only [Bool.not_true, cond_false, Box.use_v] at e
       split at e
       · cases e
       · rename_i b off len c xx x
         obtain ⟨us, ux, h1, h2, rfl⟩ := two_conc hl
         obtain ⟨lc, hlc, rfl⟩ := conc_slice h1
         rw [hsz] at e
         obtain ⟨m, n, new, unew, hlen, rfl, hfc, hnew, e1⟩ := srcC_ok (P := P) h2 r e
         clear e
         obtain ⟨cs', n', sz2, ex', hb', hm, hcell, e2⟩ := storeL_ok e1
         clear e1
         cases e2
         obtain ⟨w', hrun, r', f', x'⟩ := r.store (P := P) hb' hlc hm hcell hnew
         refine ⟨φ, goInt (Nat.min n len), w', ?_, by rw [conc]; rfl, r', f', x'⟩
         simp [Builtin.copy_, run_underlying hu, sizeOf, typeInfo, hi, hlen, hfc, hrun]
       · cases e
   · cases e
end
end Go.Proofs.YtmfmjhklajmhoaaGreat.Gv
namespace Go.Proofs.YtmfmjhklajmhoaaGreat.Gv
open Go
section
variable {E : Env} {P : Program} {G : Gh} {φ : Mp} {h h' : H} {w : World} {s : Fr} {a : Act} {v : V} {o : Oper}
theorem atN_ok {l : List Nat} {i n : Nat} (h : l[i]? = some n) : atN l i = n := by unfold atN; rw [h]
theorem mapEnt_ok (ok : EnvOk E P G) {t : Nat} {m k : Operand} (ho : o.op = .mapEntry t m k) (hm : okOpn m = true) (hk : okOpn k = true) (T : TRel G φ s a.tmps) (r : HRel G φ h w)
 (e : (mapEntF E t m k).v s h = .ok v h') : Did G φ h w v h' ((execOp a.eval o).run P w) := by
 unfold mapEntF at e
 simp only [ok.ty] at e
 split at e
 · rename_i kt el hmk
   have hu := k_map hmk
   split at e
   · rename_i z q hz hq
     simp only [Box.use_v] at e
     obtain ⟨i, zv, hi, hz', habs, _, _⟩ := zero_ok hz
     have hzc : conc G φ z = some zv := absV_ok G φ 4 _ _ habs
     have hzrun : ∀ w' : World, (zeroValue el).run P w' = .ok zv w' := fun w' => by simp [zeroValue, typeInfo, hi, hz']
     have h1 := opn_ok T hm
     have h2 := opn_ok T hk
     generalize hy : (opn m).v s = y at e h1
     cases y with
     | map b =>
       obtain ⟨es, bs, cl, hb, e1⟩ := onMapS_ok e
       clear e
       obtain ⟨hkk, e2⟩ := okKey_ok e1
       clear e1
       obtain ⟨ix, hix, e3⟩ := onSome_ok e2
       clear e2
       obtain ⟨l, hl, h5⟩ := conc_map h1
       obtain ⟨El, hw, hE, hB, hbs⟩ := r.ents2 hb hl
       have hfk := findKey_ok (w := w) ok hq h2 hix hE
       have hck : (Instr.checkKey false 10000 kt (a.eval k)).run P w = .ok () w := (key_ok ok 8 kt q hq).1 φ w _ _ 10000 false (by omega) hkk h2
       have fin : ∀ w' h1 v u, conc G φ v = some u → (Instr.mapEntry t (a.eval m) (a.eval k)).run P w = .ok u w' → HRel G φ h1 w' ∧ Frame G φ h w w' ∧ Ext φ φ h h1 w →
        Did G φ h w v h1 ((execOp a.eval o).run P w) := by
        intro w' h1 v u hv hrun ⟨r', hf', hx'⟩
        refine ⟨φ, u, w', .inl ?_, hv, r', hf', hx'⟩
        simp [execOp, ho, hrun]
       cases ix with
       | none =>
         dsimp only at e3
         cases e3
         refine fin { w with heap := w.heap.setIfInBounds l.blk (.map (El.push { key := a.eval k, val := zv, born := cl }) (cl + 1)) } _ _ (.tuple #[zv, .int .i64 cl]) (tuple2 hzc (by rw [conc]; rfl)) ?_ (r.putMap hb hl (by
          rw [Array.toList_push]
          exact hE.push h2 hzc) (by rw [Array.toList_push]; exact hB.push _ _) (by rw [Array.toList_push, List.map_append, hbs]; rfl))
         rw [h5]
         simp [Instr.mapEntry, run_underlying hu, getObj_at hw, hck, hfk, foundAt, setObj_map _ hw, hzrun, goInt]
       | some i =>
         dsimp only at e3
         obtain ⟨p, hp, e4⟩ := onSome_ok e3
         clear e3
         obtain ⟨es', hput, e5⟩ := onSome_ok e4
         clear e4
         cases e5
         obtain ⟨ix', hix', hrv⟩ := putK_idx hput
         rw [hix] at hix'
         cases hix'
         obtain ⟨hes, p', hp', hsame⟩ := hrv
         rw [hp] at hp'
         cases hp'
         subst hes
         obtain ⟨en, hen, hek, hval⟩ := hE.val hp
         have hbits := sameKey_bits (fun i x hx => (txLen_at ok hx).imp fun _ h => h.1) hsame h2 hek
         have hen' : El[i]? = some en := by simpa using hen
         have hbo : bs[i]? = some en.born := by rw [← hbs, List.getElem?_map, hen]; rfl
         refine fin { w with heap := w.heap.setIfInBounds l.blk (.map (El.modify i fun e => { e with key := a.eval k }) cl) } _ _ (.tuple #[en.val, .int .i64 en.born]) (tuple2 hval (by rw [conc, atN_ok hbo]; rfl)) ?_ (r.putMap hb hl (by
          rw [Array.toList_modify]
          have hmod : El.toList.modify i (fun e => { e with key := a.eval k }) = El.toList.modify i (fun e => { e with key := a.eval k, val := en.val }) := by
           apply List.ext_getElem?
           intro j
           simp only [List.getElem?_modify]
           by_cases hij : i = j
           · subst hij; simp [hen]
           · simp [hij]
          rw [hmod]
          exact hE.set h2 hval) (by
          rw [Array.toList_modify]
          have hmod : El.toList.modify i (fun e => { e with key := a.eval k }) = El.toList.modify i (fun e => { e with key := a.eval k, val := en.val }) := by
           apply List.ext_getElem?
           intro j
           simp only [List.getElem?_modify]
           by_cases hij : i = j
           · subst hij; simp [hen]
           · simp [hij]
          rw [hmod]
          exact hB.modify _ _ _) (by rw [Array.toList_modify]; exact (map_born_modify (f := fun e => { e with key := a.eval k }) (fun _ => rfl)).trans hbs))
         rw [h5]
         have hfa : foundAt El.toList 0 (some i) = some (i, en.val) := by simp only [foundAt, hen, Option.map_some, Nat.zero_add]
         rw [hfa] at hfk
         simp [Instr.mapEntry, run_underlying hu, getObj_at hw, hck, hfk, hen', Instr.keyThatStays, hbits, setObj_map _ hw, goInt]
     | _ => cases e
   · cases e
 · cases e
theorem putBorn_cons (c : Nat) (x : V) (e : V × V) (es : List (V × V)) (b : Nat) (bs : List Nat) : putBorn c x (e :: es) (b :: bs) = (bif Nat.beq b c then some ((e.1, x) :: es) else (match putBorn c x es bs with | some r => some (e :: r) | none => none)) := rfl
theorem putBorn_ok {c : Nat} {x : V} : ∀ {es r : List (V × V)} {El : List MapEntry}, es.length = El.length → putBorn c x es (El.map (·.born)) = some r →
 ∃ (i : Nat) (p : V × V), El.findIdx? (fun e => (e.born : Int) == (c : Int)) = some i ∧ es[i]? = some p ∧ r = es.set i (p.1, x)
 | [], r, El, _, e => by cases e
 | p :: es, r, [], hl, e => by simp at hl
 | p :: es, r, y :: El, hl, e => by
   rw [List.map_cons, putBorn_cons, nbeq] at e
   by_cases hc : y.born = c
   · rw [decide_eq_true hc, cond_true] at e
     cases e
     refine ⟨0, p, ?_, rfl, rfl⟩
     simp [List.findIdx?_cons, hc]
   · rw [decide_eq_false hc, cond_false] at e
     cases hp : putBorn c x es (El.map (·.born)) with
     | none => rw [hp] at e; cases e
     | some r' =>
       rw [hp] at e
       cases e
       obtain ⟨i, q, h1, h2, h3⟩ := putBorn_ok (by simpa using hl) hp
       refine ⟨i + 1, q, ?_, by simpa using h2, by rw [h3]; rfl⟩
       have : ((y.born : Int) == (c : Int)) = false := by simp; omega
       rw [List.findIdx?_cons, this, h1]
       rfl
theorem Ents.setV {es : List (V × V)} {El : List MapEntry} (hE : Ents G φ es El) {i : Nat} {p : V × V} (hp : es[i]? = some p) {x : V} {ux : Value} (hx : conc G φ x = some ux) :
 Ents G φ (es.set i (p.1, x)) (El.modify i fun e => { e with val := ux }) := by
 obtain ⟨en, hen, hk, hv⟩ := hE.val hp
 have := hE.set (i := i) hk hx
 have hmod : El.modify i (fun e => { e with key := en.key, val := ux }) = El.modify i (fun e => { e with val := ux }) := by
  apply List.ext_getElem?
  intro j
  simp only [List.getElem?_modify]
  by_cases hij : i = j
  · subst hij; simp [hen]
  · simp [hij]
 rw [← hmod]
 exact this
theorem entryStore_ok {t : Nat} {m k x : Operand} (ho : o.op = .entryStore t m k x) (hm : okOpn m = true) (hk : okOpn k = true) (hx : okOpn x = true) (T : TRel G φ s a.tmps) (r : HRel G φ h w)
 (e : (opF E o).v s h = .ok v h') : Did G φ h w v h' ((execOp a.eval o).run P w) := by
 unfold opF at e
 simp only [ho, Box.use_v] at e
 have h1 := opn_ok T hm
 have h2 := opn_ok T hk
 have h3 := opn_ok T hx
 generalize hy : (opn m).v s = y at e h1
 cases y with
 | map b =>
   obtain ⟨kd, c, hkc, e1⟩ := onNat_ok e
   clear e
   obtain ⟨es, bs, cl, hb, e2⟩ := onMapS_ok e1
   clear e1
   obtain ⟨es', hput, e3⟩ := onSome_ok e2
   clear e2
   cases e3
   obtain ⟨l, hl, h5⟩ := conc_map h1
   obtain ⟨El, hw, hE, hB, hbs⟩ := r.ents2 hb hl
   rw [← hbs] at hput
   obtain ⟨i, p, hfi, hp, rfl⟩ := putBorn_ok hE.1.symm hput
   rw [hkc, conc] at h2
   have h2' : a.eval k = .int kd (c : Int) := (Option.some.inj h2).symm
   have hfi' : El.findIdx? (fun e => (e.born : Int) == (c : Int)) = some i := by rw [← List.findIdx?_toArray] at hfi; simpa using hfi
   have hmodb : El.toList.modify i (fun e => { e with val := a.eval x }) = El.toList.modify i (fun e => { e with key := (El.toList[i]?.getD default).key, val := a.eval x }) := by
    apply List.ext_getElem?
    intro j
    simp only [List.getElem?_modify]
    by_cases hij : i = j
    · subst hij
      cases El.toList[i]? <;> simp
    · simp [hij]
   obtain ⟨r', hf', hx'⟩ := r.putMap (El' := El.modify i fun e => { e with val := a.eval x }) (c := cl) (bs' := bs) hb hl (by
    rw [Array.toList_modify]
    exact hE.setV hp h3) (by
    rw [Array.toList_modify, hmodb]
    exact hB.modify _ _ _) (by rw [Array.toList_modify]; exact (map_born_modify (f := fun e => { e with val := a.eval x }) (fun _ => rfl)).trans hbs)
   refine ⟨φ, undef, _, .inr ⟨?_, rfl⟩, by rw [conc]; rfl, r', hf', hx'⟩
   have hrun : (Instr.entryStore t (a.eval m) (a.eval k) (a.eval x)).run P w = .ok () { w with heap := w.heap.setIfInBounds l.blk (.map (El.modify i fun e => { e with val := a.eval x }) cl) } := by
    rw [h5, h2']
    simp [Instr.entryStore, getObj_at hw, asInt, asIntOf, hfi', setObj_map _ hw]
   simp [execOp, ho, hrun]
 | _ => cases e
end
end Go.Proofs.YtmfmjhklajmhoaaGreat.Gv
namespace Go.Proofs.YtmfmjhklajmhoaaGreat.Gv
open Go
def Post (G : Gh) (φ : Mp) (h : H) (w : World) (v : V) (h' : H) (u : Value) (w' : World) : Prop :=
 ∃ φ', conc G φ' v = some u ∧ HRel G φ' h' w' ∧ Frame G φ h w w' ∧ Ext φ φ' h h' w
def Gives (P : Program) (R : Value → World → Prop) : Result Next → Prop
 | .ok (.value u) w' => R u w'
 | .ok .skip w' => R undef w'
 | .ok (.enter f args) w' => Calls P f args w' fun e w'' => ∃ u, e = .returned u ∧ R u w''
 | _ => False
section
variable {E : Env} {P : Program} {G : Gh} {φ : Mp} {h h' : H} {w : World} {s : Fr} {a : Act} {v : V} {o : Oper}
theorem Gives.mono {R R' : Value → World → Prop} (k : ∀ u w', R u w' → R' u w') {r : Result Next} (g : Gives P R r) : Gives P R' r := by
 cases r with
 | ok n w' =>
   cases n <;> first
    | exact k _ _ g
    | exact Calls.mono g (fun e w'' ⟨u, he, hR⟩ => ⟨u, he, k _ _ hR⟩)
    | exact g
 | halt x w' => exact g
theorem Did.gives {r : Result Next} (d : Did G φ h w v h' r) : Gives P (Post G φ h w v h') r := by
 obtain ⟨φ', u, w', h1, rest⟩ := d
 rcases h1 with h1 | ⟨h1, h2⟩
 · rw [h1]; exact ⟨φ', rest⟩
 · rw [h1]; subst h2; exact ⟨φ', rest⟩
theorem Gives.wp {R : Value → World → Prop} {K : Act → World → Prop} {Q : Exit → Act → World → Prop} (g : Gives P R ((execOp a.eval o).run P w)) (k : ∀ u w', R u w' → K (a.put o.dst u) w') : o.wp P a w K Q := by
 unfold Oper.wp
 generalize (execOp a.eval o).run P w = r at g
 cases r with
 | ok n w' =>
   cases n <;> first
    | exact k _ _ g
    | (refine Calls.mono g ?_; rintro e w'' ⟨u, rfl, hR⟩; exact k _ _ hR)
    | exact g.elim
 | halt x w' => exact g.elim
def CallOk (P : Program) (G : Gh) (call : Call) : Prop :=
 ∀ (f : Nat) (l : List V) (h : H) (v : V) (h' : H), call f l h = .ok v h' → ∀ (φ : Mp) (w : World) (ul : List Value), concL G φ l = some ul → HRel G φ h w → Free φ h.next h'.next →
  Gives P (Post G φ h w v h') ((callFunc f ul.toArray).run P w)
theorem conc_func' {fn : Fn} {f c : List V} {u : Value} (e : conc G φ (.func fn f c) = some u) : ∃ uf uc, concL G φ f = some uf ∧ concL G φ c = some uc ∧ u = .func fn uf.toArray uc.toArray := by
 rw [conc] at e
 cases hf : concL G φ f with
 | none => rw [hf] at e; cases e
 | some uf =>
   cases hc : concL G φ c with
   | none => rw [hf, hc] at e; cases e
   | some uc => rw [hf, hc] at e; cases e; exact ⟨uf, uc, rfl, rfl, rfl⟩
theorem builtF_ok (ok : EnvOk E P G) {b : Builtin} {ts : List Nat} {ty : TypeId} {cs : Array Bool} {l : List V} {ul : List Value} (hl : concL G φ l = some ul) (r : HRel G φ h w) (hf : Free φ h.next h'.next)
 (e : (builtF E b ts).v l h = .ok v h') : Did G φ h w v h' ((builtin b ts.toArray ty cs ul.toArray).run P w) := by
 cases b with
 | len => exact len_ok ok hl r e
 | cap => exact cap_ok ok hl r e
 | max => exact max_ok ok hl r e
 | min => exact min_ok ok hl r e
 | append => exact append_ok ok hl r hf e
 | copy => exact copy_ok ok hl r e
 | delete => exact delete_ok ok hl r e
 | clear => exact clear_ok ok hl r e
 | _ => cases ts <;> cases e
theorem call_ok (ok : EnvOk E P G) {call : Call} (ck : CallOk P G call) {c : Go.Call} (ho : o.op = .call c) (hc : c.operands.toList.all okOpn = true) (T : TRel G φ s a.tmps) (r : HRel G φ h w) (hf : Free φ h.next h'.next)
 (e : (stepG E o).v call s h = .ok v h') : Gives P (Post G φ h w v h') ((execOp a.eval o).run P w) := by
 unfold stepG at e
 rw [ho] at e
 simp only at e
 simp only [execOp, ho, resolve]
 cases hcal : c.callee with
 | value f =>
   rw [hcal] at e
   simp only [Box.use_v] at e
   have hops : (okOpn f && c.args.toList.all okOpn) = true := by
    rw [Go.Call.operands, hcal] at hc
    simpa using hc
   rw [Bool.and_eq_true] at hops
   have hfu := opn_ok T hops.1
   have hal := opns_ok T hops.2
   split at e
   · rename_i g first captured hg
     rw [hg] at hfu
     obtain ⟨uf, uc, h1, h2, h3⟩ := conc_func' hfu
     simp only [Deferred.ofValue, h3]
     have := ck g _ h v h' e φ w _ (concL_append (concL_append h1 hal) h2) r hf
     have he : (uf ++ List.map a.eval c.args.toList ++ uc).toArray = uf.toArray ++ c.args.map a.eval ++ uc.toArray := by
      apply Array.toList_inj.1
      simp
     rw [he] at this
     simpa [invoke] using this
   · cases e
 | builtin b =>
   rw [hcal] at e
   simp only [Box.use_v] at e
   have hops : c.args.toList.all okOpn = true := by
    rw [Go.Call.operands, hcal] at hc
    simpa using hc
   have hal := opns_ok T hops
   have he : c.args.map a.eval = (List.map a.eval c.args.toList).toArray := by
    apply Array.toList_inj.1
    simp
   have ht : c.argTypes = c.argTypes.toList.toArray := by simp
   rw [he, ht]
   simp only [invoke, Sem.run_bind, Sem.run_pure]
   exact (builtF_ok (P := P) ok hal r hf e).gives
 | invoke x m => rw [hcal] at e; cases e
end
end Go.Proofs.YtmfmjhklajmhoaaGreat.Gv
namespace Go.Proofs.YtmfmjhklajmhoaaGreat.Gv
open Go
section
variable {E : Env} {P : Program} {G : Gh} {φ : Mp} {h h' : H} {w : World} {s : Fr} {a : Act} {v : V} {o : Oper}
theorem optOk {x : Option Operand} (h : x.toArray.toList.all okOpn = true) : ∀ y, x = some y → okOpn y = true := by
 intro y hy
 subst hy
 simpa using h
theorem opF_ok (ok : EnvOk E P G) (hc : o.op.operands.toList.all okOpn = true) (T : TRel G φ s a.tmps) (r : HRel G φ h w) (hf : Free φ h.next h'.next)
 (e : (opF E o).v s h = .ok v h') : Did G φ h w v h' ((execOp a.eval o).run P w) := by
 cases ho : o.op with
 | move x =>
   rw [ho] at hc
   refine move_ok (.inl ho) (by simpa [Op.operands] using hc) T r ?_
   unfold opF at e; rw [ho] at e; exact e
 | assign x =>
   rw [ho] at hc
   refine move_ok (.inr ho) (by simpa [Op.operands] using hc) T r ?_
   unfold opF at e; rw [ho] at e; exact e
 | pick c x y =>
   rw [ho] at hc
   simp [Op.operands] at hc
   exact pick_ok ho hc.1 hc.2.1 hc.2.2 T r e
 | alloc t => exact alloc_ok ok ho r hf e
 | box t x =>
   rw [ho] at hc
   exact box_ok ok ho (by simpa [Op.operands] using hc) T r hf e
 | build t ps =>
   rw [ho] at hc
   refine build_ok ok ho (fun p hp => ?_) T r e
   refine List.all_eq_true.1 hc p.2 ?_
   simp only [Op.operands, List.mem_map]
   exact ⟨p, hp, rfl⟩
 | buildSlice t n ps =>
   rw [ho] at hc
   refine buildSlice_ok ok ho (fun p hp => ?_) T r hf e
   refine List.all_eq_true.1 hc p.2 ?_
   simp only [Op.operands, List.mem_map]
   exact ⟨p, hp, rfl⟩
 | load t x =>
   rw [ho] at hc
   exact load_ok ok ho (by simpa [Op.operands] using hc) T r e
 | store t x y =>
   rw [ho] at hc
   simp [Op.operands] at hc
   exact store_ok ok ho hc.1 hc.2 T r e
 | nilCheck x =>
   rw [ho] at hc
   exact nilCheck_ok ho (by simpa [Op.operands] using hc) T r e
 | binOp op t x y yt =>
   rw [ho] at hc
   simp [Op.operands] at hc
   exact binOp_ok ok ho hc.1 hc.2 T r e
 | unOp op t x =>
   rw [ho] at hc
   cases op with
   | not => exact not_ok ho (by simpa [Op.operands] using hc) T r e
   | neg => exact neg_ok ok ho (by simpa [Op.operands] using hc) T r e
   | _ => unfold opF at e; rw [ho] at e; cases e
 | convert src dst x =>
   rw [ho] at hc
   exact conv_ok ok ho (by simpa [Op.operands] using hc) T r e
 | makeInterface t x =>
   rw [ho] at hc
   exact makeInterface_ok ok ho (by simpa [Op.operands] using hc) T r e
 | makeFunc fn f c =>
   rw [ho] at hc
   simp only [Op.operands, Array.toList_append, List.all_append, Bool.and_eq_true] at hc
   exact makeFunc_ok ho hc.1 hc.2 T r e
 | makeMap t x =>
   cases x with
   | none => exact makeMap_ok ho r hf e
   | some x => unfold opF at e; rw [ho] at e; cases e
 | makeSlice t x y =>
   rw [ho] at hc
   simp [Op.operands] at hc
   exact makeSlice_ok ok ho hc.1 hc.2 T r hf e
 | slice t x lo hi mx =>
   rw [ho] at hc
   simp only [Op.operands, Array.toList_append, List.all_append, Bool.and_eq_true] at hc
   exact slice_ok ok ho (by simpa using hc.1.1.1) (optOk hc.1.1.2) (optOk hc.1.2) (optOk hc.2) T r hf e
 | fieldAddr t x f =>
   rw [ho] at hc
   exact fieldAddr_ok ok ho (by simpa [Op.operands] using hc) T r e
 | field t x f =>
   rw [ho] at hc
   exact field_ok ok ho (by simpa [Op.operands] using hc) T r e
 | indexAddr t x y =>
   rw [ho] at hc
   simp [Op.operands] at hc
   exact indexAddr_ok ok ho hc.1 hc.2 T r e
 | index t x y =>
   rw [ho] at hc
   simp [Op.operands] at hc
   exact index_ok ok ho hc.1 hc.2 T r e
 | lookup t x k c =>
   rw [ho] at hc
   simp [Op.operands] at hc
   obtain ⟨rfl, u, h1, h2⟩ := lookup_ok ok ho hc.1 hc.2 T r e
   exact ⟨φ, u, w, .inl h1, h2, r, Frame.refl _ _ _ _, Ext.refl _ _ _⟩
 | mapUpdate t m k x =>
   rw [ho] at hc
   simp [Op.operands] at hc
   refine upd_ok ok (.inl ho) hc.1 hc.2.1 hc.2.2 T r ?_
   unfold opF at e; rw [ho] at e; exact e
 | insert t m k x =>
   rw [ho] at hc
   simp [Op.operands] at hc
   refine upd_ok ok (.inr ho) hc.1 hc.2.1 hc.2.2 T r ?_
   unfold opF at e; rw [ho] at e; exact e
 | range t x =>
   rw [ho] at hc
   exact range_ok ok ho (by simpa [Op.operands] using hc) T r hf e
 | next it b =>
   rw [ho] at hc
   cases b with
   | false => exact next_ok ho (by simpa [Op.operands] using hc) T r e
   | true => unfold opF at e; rw [ho] at e; cases e
 | entry it =>
   rw [ho] at hc
   exact entry_ok ho (by simpa [Op.operands] using hc) T r e
 | mapEntry t m k =>
   rw [ho] at hc
   simp [Op.operands] at hc
   refine mapEnt_ok ok ho hc.1 hc.2 T r ?_
   unfold opF at e; rw [ho] at e; exact e
 | entryStore t m k x =>
   rw [ho] at hc
   simp [Op.operands] at hc
   exact entryStore_ok ho hc.1 hc.2.1 hc.2.2 T r e
 | typeAssert x t u b =>
   rw [ho] at hc
   exact typeAssert_ok ok ho (by simpa [Op.operands] using hc) T r e
 | extract x i =>
   rw [ho] at hc
   exact extract_ok ho (by simpa [Op.operands] using hc) T r e
 | _ => unfold opF at e; rw [ho] at e; cases e
theorem step_ok (ok : EnvOk E P G) {call : Call} (ck : CallOk P G call) (T : TRel G φ s a.tmps) (r : HRel G φ h w) (hf : Free φ h.next h'.next)
 (e : (stepF E o).v call s h = .ok v h') : Gives P (Post G φ h w v h') ((execOp a.eval o).run P w) := by
 unfold stepF at e
 cases hc : o.op.operands.toList.all okOpn with
 | false => rw [hc] at e; cases e
 | true =>
   rw [hc, cond_true] at e
   cases ho : o.op with
   | call c => rw [ho] at hc; exact call_ok ok ck ho hc T r hf e
   | _ =>
     refine (opF_ok ok hc T r hf ?_).gives
     unfold stepG at e
     rw [ho] at e
     simp only [Box.use_v] at e
     exact e
end
end Go.Proofs.YtmfmjhklajmhoaaGreat.Gv
namespace Go.Proofs.YtmfmjhklajmhoaaGreat.Gv
open Go
def Left (G : Gh) (φ : Mp) (h : H) (w : World) (a : Act) (s' : Fr) (h' : H) (a' : Act) (w' : World) : Prop :=
 ∃ φ', TRel G φ' s' a'.tmps ∧ HRel G φ' h' w' ∧ Frame G φ h w w' ∧ Ext φ φ' h h' w ∧ a'.defers = a.defers ∧ a'.tmps.size = a.tmps.size
section
variable {E : Env} {P : Program} {G : Gh} {φ : Mp} {h h' : H} {w : World} {s : Fr} {a : Act} {v : V} {o : Oper}
theorem Left.refl (T : TRel G φ s a.tmps) (r : HRel G φ h w) : Left G φ h w a s h a w := ⟨φ, T, r, Frame.refl _ _ _ _, Ext.refl _ _ _, rfl, rfl⟩
theorem Left.trans {φ1 : Mp} {h1 : H} {w1 : World} {a1 a2 : Act} {s2 : Fr} {h2 : H} {w2 : World} (f : Frame G φ h w w1) (x : Ext φ φ1 h h1 w) (hd : a1.defers = a.defers) (hz : a1.tmps.size = a.tmps.size)
 (l : Left G φ1 h1 w1 a1 s2 h2 a2 w2) : Left G φ h w a s2 h2 a2 w2 := by
 obtain ⟨φ2, T, r, f2, x2, hd2, hz2⟩ := l
 exact ⟨φ2, T, r, f.trans x f2, x.trans f.size x2, hd2.trans hd, hz2.trans hz⟩
theorem Free.left {lo mid hi : Nat} (f : Free φ lo hi) (hm : mid ≤ hi) : Free φ lo mid := fun b h1 h2 => f b h1 (Nat.lt_of_lt_of_le h2 hm)
theorem Free.right {φ1 : Mp} {h1 : H} {hi : Nat} (f : Free φ h.next hi) (x : Ext φ φ1 h h1 w) : Free φ1 h1.next hi := fun b hb1 hb2 =>
 x.new b (f b (Nat.le_trans x.next hb1) hb2) (.inr hb1)
theorem Post.left {u : Value} {w' : World} (p : Post G φ h w v h' u w') : h.next ≤ h'.next := by
 obtain ⟨_, _, _, _, x⟩ := p
 exact x.next
theorem putD_ok {d : Option Nat} {p : Box (V → Fr → Fr)} {u : Value} (e : putD a.tmps.size d = some p) (T : TRel G φ s a.tmps) (hv : conc G φ v = some u) :
 TRel G φ (p.v v s) (a.put d u).tmps ∧ (a.put d u).defers = a.defers ∧ (a.put d u).tmps.size = a.tmps.size := by
 cases d with
 | none => cases e; exact ⟨T, rfl, rfl⟩
 | some d =>
   unfold putD at e
   cases hd : (Nat.blt d a.tmps.size && Nat.blt d 4096) with
   | false => simp only [hd] at e; cases e
   | true =>
     simp only [hd, cond_true] at e
     cases e
     rw [Bool.and_eq_true, nblt, nblt, decide_eq_true_eq, decide_eq_true_eq] at hd
     refine ⟨fun t ht => ?_, rfl, by simp [Act.put]⟩
     rw [Fr.get_set _ _ hd.2 ht]
     by_cases htd : t = d
     · subst htd
       rw [if_pos rfl, hv]
       simp [Act.put, hd.1]
     · rw [if_neg htd, T t ht]
       simp [Act.put, Array.getElem?_setIfInBounds_ne (Ne.symm htd)]
theorem opsF_cons {n : Nat} {all : List Oper} {l : List Oper} : opsF E n all (o :: l) = (opsF E n all l).use (fun k => match putD n o.dst with
 | none => ⟨fun _ _ _ => .bad "dst" 0⟩
 | some p => p.use fun p => (stepF E o).use fun f => match o.guard with
   | none => ⟨fun call s h => match f call s h with
     | .ok v h1 => bif Nat.ble h.next h1.next then k call (p v s) h1 else .bad "next" 0
     | .bad w n => .bad w n⟩
   | some (j, want) => match dstOf all j with
     | none => ⟨fun _ _ _ => .bad "guard" j⟩
     | some d => (Fr.get d).use fun q => ⟨fun call s h => match q s with
       | .bool b => match b == want with
         | true => match f call s h with
           | .ok v h1 => bif Nat.ble h.next h1.next then k call (p v s) h1 else .bad "next" 0
           | .bad w n => .bad w n
         | false => k call (p .undef s) h
       | .undef => k call (p .undef s) h
       | _ => .bad "guard" j⟩ : (Call → Fr → H → RS) → Box (Call → Fr → H → RS)) := rfl
theorem dstOf_ok {all : List Oper} {j d : Nat} (e : dstOf all j = some d) : d < 4096 ∧ ∃ q, all[j]? = some q ∧ q.dst = some d := by
 unfold dstOf at e
 cases hj : all[j]? with
 | none => rw [hj] at e; cases e
 | some q =>
   rw [hj] at e
   cases hq : q.dst with
   | none => simp only [hq] at e; cases e
   | some x =>
     simp only [hq] at e
     cases hx : Nat.blt x 4096 with
     | false => rw [hx] at e; cases e
     | true =>
       rw [hx] at e
       cases e
       rw [nblt, decide_eq_true_eq] at hx
       exact ⟨hx, q, rfl, hq⟩
theorem wanted_at {all : List Oper} {j d : Nat} {want : Bool} (hg : o.guard = some (j, want)) (e : dstOf all j = some d) (hT : conc G φ ((Fr.get d).v s) = some (a.tmps.getD d undef)) :
 (∀ b, (Fr.get d).v s = .bool b → Region.wanted o (yielded all.toArray a.tmps) = (b == want)) ∧ ((Fr.get d).v s = .undef → Region.wanted o (yielded all.toArray a.tmps) = false) := by
 obtain ⟨hd, q, hq, hqd⟩ := dstOf_ok e
 have key : yielded all.toArray a.tmps j = match a.tmps[d]? with | some (.bool b) => some b | _ => none := by
  unfold yielded
  simp only [List.getElem?_toArray, hq, Option.bind_some, hqd]
  rfl
 constructor
 · intro b hb
   rw [hb, conc] at hT
   have hT : Value.bool b = a.tmps.getD d undef := Option.some.inj hT
   have : a.tmps[d]? = some (.bool b) := by
    cases hx : a.tmps[d]? with
    | none => simp [hx] at hT; cases hT
    | some y => simp [hx] at hT; rw [hT]
   unfold Region.wanted
   simp only [hg, key, this]
   cases b <;> cases want <;> rfl
 · intro hb
   rw [hb, conc] at hT
   have hT : Value.tuple #[] = a.tmps.getD d undef := Option.some.inj hT
   unfold Region.wanted
   simp only [hg, key]
   cases hx : a.tmps[d]? with
   | none => rfl
   | some y =>
     simp [hx] at hT
     subst hT
     rfl
theorem wanted_some {all : List Oper} {j d : Nat} {want : Bool} (hg : o.guard = some (j, want)) (e : dstOf all j = some d) (T : TRel G φ s a.tmps) :
 (∀ b, (Fr.get d).v s = .bool b → Region.wanted o (yielded all.toArray a.tmps) = (b == want)) ∧ ((Fr.get d).v s = .undef → Region.wanted o (yielded all.toArray a.tmps) = false) :=
 wanted_at hg e (T d (dstOf_ok e).1)
theorem opsF_next {n : Nat} {all : List Oper} {call : Call} : ∀ (l : List Oper) (s : Fr) (h : H) (s' : Fr) (h' : H), (opsF E n all l).v call s h = .ok s' h' → h.next ≤ h'.next
 | [], s, h, s', h', e => by cases e; exact Nat.le_refl _
 | o :: l, s, h, s', h', e => by
   rw [opsF_cons, Box.use_v] at e
   split at e
   · cases e
   · simp only [Box.use_v] at e
     split at e
     · dsimp only at e
       split at e
       · rename_i h1 _
         cases hn : Nat.ble h.next h1.next with
         | false => rw [hn] at e; cases e
         | true =>
           rw [hn] at e
           rw [nble, decide_eq_true_eq] at hn
           exact Nat.le_trans hn (opsF_next l _ _ _ _ e)
       · cases e
     · split at e
       · cases e
       · simp only [Box.use_v] at e
         split at e
         · split at e
           · split at e
             · rename_i h1 _
               cases hn : Nat.ble h.next h1.next with
               | false => rw [hn] at e; cases e
               | true =>
                 rw [hn] at e
                 rw [nble, decide_eq_true_eq] at hn
                 exact Nat.le_trans hn (opsF_next l _ _ _ _ e)
             · cases e
           · exact opsF_next l _ _ _ _ e
         · exact opsF_next l _ _ _ _ e
         · cases e
theorem opsF_ok (ok : EnvOk E P G) {call : Call} (ck : CallOk P G call) {n : Nat} {all : List Oper} {Q : Exit → Act → World → Prop} :
 ∀ (l : List Oper) (k : Nat), (∀ i, l[i]? = all[k + i]?) → ∀ (s : Fr) (h : H) (s' : Fr) (h' : H), (opsF E n all l).v call s h = .ok s' h' → ∀ (φ : Mp) (a : Act) (w : World), TRel G φ s a.tmps → HRel G φ h w →
  Free φ h.next h'.next → a.tmps.size = n → (∀ a' w', Left G φ h w a s' h' a' w' → Q .normal a' w') → wpOps P all.toArray Q (List.range' k l.length) a w
 | [], k, hl, s, h, s', h', e, φ, a, w, T, r, hf, hn, hQ => by
   cases e
   exact hQ _ _ (Left.refl T r)
 | o :: l, k, hl, s, h, s', h', e, φ, a, w, T, r, hf, hn, hQ => by
   have ho : all.toArray[k]? = some o := by have := hl 0; simp at this; simpa using this.symm
   have hl' : ∀ i, l[i]? = all[k + 1 + i]? := fun i => by
    have := hl (i + 1)
    rw [List.getElem?_cons_succ] at this
    rw [this]
    congr 1
    omega
   rw [List.length_cons, List.range'_succ, wpOps_cons]
   unfold wpOp
   simp only [ho]
   have next : ∀ v h1 p, putD n o.dst = some p → (stepF E o).v call s h = .ok v h1 → (bif Nat.ble h.next h1.next then (opsF E n all l).v call (p.v v s) h1 else .bad "next" 0) = .ok s' h' →
    o.wp P a w (wpOps P all.toArray Q (List.range' (k + 1) l.length)) Q := by
    intro v h1 p hp es e
    cases hb : Nat.ble h.next h1.next with
    | false => rw [hb] at e; cases e
    | true =>
      rw [hb, cond_true] at e
      have hnx := opsF_next l _ _ _ _ e
      refine (step_ok ok ck T r (hf.left hnx) es).wp fun u w1 ⟨φ1, hv, r1, f1, x1⟩ => ?_
      subst hn
      obtain ⟨T1, hd, hz⟩ := putD_ok hp (T.mono x1.le) hv
      exact opsF_ok ok ck l (k + 1) hl' _ _ _ _ e φ1 _ _ T1 r1 (hf.right x1) hz fun a' w' L => hQ a' w' (L.trans f1 x1 hd hz)
   have skip : ∀ p, putD n o.dst = some p → (opsF E n all l).v call (p.v .undef s) h = .ok s' h' → wpOps P all.toArray Q (List.range' (k + 1) l.length) (a.put o.dst undef) w := by
    intro p hp e
    subst hn
    obtain ⟨T1, hd, hz⟩ := putD_ok (v := .undef) (u := undef) hp T (by rw [conc]; rfl)
    exact opsF_ok ok ck l (k + 1) hl' _ _ _ _ e φ _ _ T1 r hf hz fun a' w' L => hQ a' w' (L.trans (Frame.refl _ _ _ _) (Ext.refl _ _ _) hd hz)
   rw [opsF_cons, Box.use_v] at e
   split at e
   · cases e
   · rename_i p hp
     simp only [Box.use_v] at e
     split at e
     · rename_i hg
       have hw : Region.wanted o (yielded all.toArray a.tmps) = true := by unfold Region.wanted; simp only [hg]
       rw [hw, if_pos rfl]
       dsimp only at e
       split at e
       · rename_i v h1 es
         exact .inl (next _ _ _ hp es e)
       · cases e
     · rename_i j want hg
       split at e
       · cases e
       · rename_i d hd
         simp only [Box.use_v] at e
         obtain ⟨w1, w2⟩ := wanted_some hg hd T
         split at e
         · rename_i b hb
           rw [w1 b hb]
           split at e
           · rename_i hbw
             rw [hbw, if_pos rfl]
             split at e
             · rename_i v h1 es
               exact .inl (next _ _ _ hp es e)
             · cases e
           · rename_i hbw
             rw [hbw]
             simp only [Bool.false_eq_true, if_false]
             exact skip _ hp e
         · rename_i hb
           rw [w2 hb]
           simp only [Bool.false_eq_true, if_false]
           exact skip _ hp e
         · cases e
theorem regT_ok (ok : EnvOk E P G) {call : Call} (ck : CallOk P G call) {id : Nat} {ops : Array Oper} {Q : Exit → Act → World → Prop} {s' : Fr} (e : (opsF E a.tmps.size ops.toList ops.toList).v call s h = .ok s' h')
 (T : TRel G φ s a.tmps) (r : HRel G φ h w) (hf : Free φ h.next h'.next) (hQ : ∀ a' w', Left G φ h w a s' h' a' w' → Q .normal a' w') : (Code.region id ops false).wp P Q a w := by
 refine wp_region ?_
 have := opsF_ok (Q := Q) ok ck ops.toList 0 (fun i => by simp) s h s' h' e φ a w T r hf rfl hQ
 rw [List.range_eq_range']
 simpa using this
end
end Go.Proofs.YtmfmjhklajmhoaaGreat.Gv
