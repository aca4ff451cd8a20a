/- Operations, ninth part: writing into maps; ranges over maps. -/
import Derived.Test.YtmfmjhklajmhoaaGreatGvOps8
import Derived.Laws.IdiomRangeMap
import Derived.Maps.RangeRun
namespace Go.Proofs.YtmfmjhklajmhoaaGreat.Gv
open Go
section
variable {E : Env} {P : Program} {G : Gh} {φ : Mp} {h h' : H} {w : World} {s : Fr} {a : Act} {v : V} {o : Oper}
theorem sameB_bits {nl : List NL} (hn : ∀ (i : Nat) (x : LF), txLen i nl = some x → ∃ s : ByteArray, G.ε i = .string s) {x y : V} {ux uy : Value} (e : sameB nl x y = true) (hx : conc G φ x = some ux) (hy : conc G φ y = some uy) (n : Nat) : Instr.sameBits n uy ux = true := by
 unfold sameB at e
 split at e
 · split at e
   · rw [conc] at hx hy; cases hx; cases hy; cases n <;> rfl
   · rw [conc] at hx hy; cases hx; cases hy; cases n <;> rfl
   · cases e
 · rw [Bool.and_eq_true, ieq_ok, decide_eq_true_eq] at e
   obtain ⟨e1, e2⟩ := e
   have := sameK_ok e1
   subst this; subst e2
   rw [conc] at hx hy; cases hx; cases hy
   cases n <;> simp [Instr.sameBits]
 · rw [Bool.and_eq_true, nbeq, nbeq, decide_eq_true_eq, decide_eq_true_eq] at e
   obtain ⟨rfl, rfl⟩ := e
   rw [conc] at hx hy; cases hx; cases hy
   cases n <;> · simp only [Instr.sameBits]; rw [str_beq]; simp
 · rename_i i j
   rw [Bool.and_eq_true, nbeq, decide_eq_true_eq] at e
   obtain ⟨rfl, e2⟩ := e
   cases hx2 : txLen i nl with
   | none => rw [hx2] at e2; cases e2
   | some z =>
     obtain ⟨s, hs⟩ := hn i z hx2
     rw [conc, hs] at hx hy; cases hx; cases hy
     have hb : (s == s) = true := by rw [beq_toListBytes]; simp
     cases n <;> simp [Instr.sameBits, hb]
 · cases e
theorem allB_cons (f : V → V → Bool) (x : V) (l : List V) (m : List V) : allB f (x :: l) m = (match m with | y :: m => bif f x y then allB f l m else false | [] => false) := rfl
theorem allB_bits {nl : List NL} (hn : ∀ (i : Nat) (x : LF), txLen i nl = some x → ∃ s : ByteArray, G.ε i = .string s) : ∀ {l m : List V} {ul um : List Value} (n : Nat), allB (sameB nl) l m = true → concL G φ l = some ul → concL G φ m = some um →
 um.length = ul.length ∧ ((um.zip ul).all fun (x, y) => Instr.sameBits n x y) = true
 | [], m, ul, um, n, e, hl, hm => by
   cases m with
   | nil => rw [concL_nil] at hl hm; cases hl; cases hm; exact ⟨rfl, rfl⟩
   | cons _ _ => cases e
 | x :: l, m, ul, um, n, e, hl, hm => by
   cases m with
   | nil => cases e
   | cons y m =>
     rw [allB_cons] at e
     dsimp only at e
     cases hs : sameB nl x y with
     | false => rw [hs] at e; cases e
     | true =>
       rw [hs, cond_true] at e
       obtain ⟨u1, k1, h1, h2, rfl⟩ := concL_cons.1 hl
       obtain ⟨u2, k2, h3, h4, rfl⟩ := concL_cons.1 hm
       obtain ⟨g1, g2⟩ := allB_bits hn n e h2 h4
       exact ⟨by simp [g1], by simp only [List.zip_cons_cons, List.all_cons, sameB_bits hn hs h1 h3 n, g2, Bool.and_self]⟩
theorem sameKey_bits {nl : List NL} (hn : ∀ (i : Nat) (x : LF), txLen i nl = some x → ∃ s : ByteArray, G.ε i = .string s) {x y : V} {ux uy : Value} (e : sameKey nl x y = true) (hx : conc G φ x = some ux) (hy : conc G φ y = some uy) : Instr.sameBits 10000 uy ux = true := by
 unfold sameKey at e
 split at e
 · split at e
   · obtain ⟨ul, hl, rfl⟩ := conc_agg hx
     obtain ⟨um, hm, rfl⟩ := conc_agg hy
     obtain ⟨g1, g2⟩ := allB_bits hn 9999 e hl hm
     show (um.toArray.size == ul.toArray.size && (um.toArray.toList.zip ul.toArray.toList).all fun (x, y) => Instr.sameBits 9999 x y) = true
     simp only [List.size_toArray, g1, beq_self_eq_true, Bool.true_and]
     exact g2
   · cases e
 · exact sameB_bits hn e hx hy 10000
theorem Frame.putMap {b : Nat} {x : Obj} (hf : Foot φ h b) : Frame G φ h w { w with heap := w.heap.setIfInBounds b x } :=
 ⟨fun _ => Nat.le_refl _, rfl, rfl, rfl, by simp, fun k hk hn => by
  have : b ≠ k := fun e => hn (e ▸ hf)
  simp [Array.getElem?_setIfInBounds_ne this]⟩
theorem HRel.putMap (r : HRel G φ h w) {b : Nat} {es es' : List (V × V)} {bs bs' : List Nat} {clk : Nat} {l : Loc} {El' : Array MapEntry} {c : Nat} (hb : h.t.get b = some (.map es bs clk)) (hl : φ b = some l) (hE : Ents G φ es' El'.toList) (hB : Born El'.toList c) (hbs : El'.toList.map (·.born) = bs') :
 HRel G φ (h.put b (.map es' bs' c)) { w with heap := w.heap.setIfInBounds l.blk (.map El' c) } ∧ Frame G φ h w { w with heap := w.heap.setIfInBounds l.blk (.map El' c) } ∧ Ext φ φ h (h.put b (.map es' bs' c)) w := by
 have hlt := (r.blk b _ l hb hl).lt
 refine ⟨r.put hb hl ⟨El', by simp [hlt], ⟨hB, hbs⟩, by simpa using hE.1, fun i k v hi => by simpa using hE.2 i k v hi⟩ (fun k hk => by simp [Array.getElem?_setIfInBounds_ne (Ne.symm hk)]), Frame.putMap ⟨b, _, l, hb, hl, rfl⟩, Ext.put ⟨_, hb⟩⟩
theorem Ents.set {es : List (V × V)} {El : List MapEntry} (hE : Ents G φ es El) {i : Nat} {k x : V} {uk ux : Value} (hk : conc G φ k = some uk) (hx : conc G φ x = some ux) :
 Ents G φ (es.set i (k, x)) (El.modify i fun e => { e with key := uk, val := ux }) := by
 refine ⟨by simp [hE.1], fun j k' v' hj => ?_⟩
 rw [List.getElem?_set] at hj
 by_cases hij : i = j
 · subst hij
   rw [if_pos rfl] at hj
   split at hj
   · rename_i hlt
     cases hj
     have hlt' : i < El.length := by rw [hE.1]; exact hlt
     refine ⟨{ El[i] with key := uk, val := ux }, ?_, hk, hx⟩
     rw [List.getElem?_modify]
     simp [hlt']
   · cases hj
 · rw [if_neg hij] at hj
   obtain ⟨e, h1, h2⟩ := hE.2 j k' v' hj
   refine ⟨e, ?_, h2⟩
   rw [List.getElem?_modify, h1]
   simp [hij]
theorem Ents.push {es : List (V × V)} {El : List MapEntry} (hE : Ents G φ es El) {k x : V} {e : MapEntry} (hk : conc G φ k = some e.key) (hx : conc G φ x = some e.val) :
 Ents G φ (es ++ [(k, x)]) (El ++ [e]) := by
 refine ⟨by simp [hE.1], fun j k' v' hj => ?_⟩
 rw [List.getElem?_append] at hj
 split at hj
 · rename_i hlt
   obtain ⟨e', h1, h2⟩ := hE.2 j k' v' hj
   exact ⟨e', by rw [List.getElem?_append_left (by rw [hE.1]; exact hlt)]; exact h1, h2⟩
 · rename_i hlt
   have : j - es.length = 0 := by
    rcases Nat.eq_zero_or_pos (j - es.length) with h0 | h0
    · exact h0
    · rw [List.getElem?_eq_none (by simp; omega)] at hj; cases hj
   rw [this] at hj
   simp at hj
   obtain ⟨rfl, rfl⟩ := hj
   have hjl : j = El.length := by rw [hE.1]; omega
   exact ⟨e, by rw [hjl]; simp, hk, hx⟩
theorem map_born_modify {f : MapEntry → MapEntry} (hf : ∀ e, (f e).born = e.born) {l : List MapEntry} {i : Nat} : (l.modify i f).map (·.born) = l.map (·.born) := by
 apply List.ext_getElem?
 intro j
 simp only [List.getElem?_map, List.getElem?_modify]
 split <;> cases l[j]? <;> simp [hf]
theorem upd_ok (ok : EnvOk E P G) {t : Nat} {m k x : Operand} (ho : o.op = .mapUpdate t m k x ∨ o.op = .insert t m k x) (hm : okOpn m = true) (hk : okOpn k = true) (hx : okOpn x = true) (T : TRel G φ s a.tmps) (r : HRel G φ h w)
 (e : (updF E t m k x).v s h = .ok v h') : Did G φ h w v h' ((execOp a.eval o).run P w) := by
 unfold updF at e
 simp only [ok.ty] at e
 split at e
 · rename_i kt el hmk
   have hu := k_map hmk
   cases hq : eqTy E 8 kt with
   | none => rw [hq] at e; cases e
   | some q =>
     rw [hq] at e
     simp only [Box.use_v] at e
     have h1 := opn_ok T hm
     have h2 := opn_ok T hk
     have h3 := opn_ok T hx
     generalize hy : (opn m).v s = y at e h1
     cases y with
     | map b =>
       obtain ⟨es, bs, cl, hb, e1⟩ := onMapS_ok e
       clear e
       obtain ⟨hkk, e2⟩ := okKey_ok e1
       clear e1
       obtain ⟨es', hput, e3⟩ := onSome_ok e2
       clear e2
       obtain ⟨l, hl, h5⟩ := conc_map h1
       obtain ⟨El, hw, hE, hB, hbs⟩ := r.ents2 hb hl
       obtain ⟨ix, hix, hrv⟩ := putK_idx hput
       have hfk := findKey_ok (w := w) ok hq h2 hix hE
       have hck : (Instr.checkKey false 10000 kt (a.eval k)).run P w = .ok () w := (key_ok ok 8 kt q hq).1 φ w _ _ 10000 false (by omega) hkk h2
       have fin : ∀ w' h1, (Instr.mapUpdate t (a.eval m) (a.eval k) (a.eval x)).run P w = .ok () w' → HRel G φ h1 w' ∧ Frame G φ h w w' ∧ Ext φ φ h h1 w →
        Did G φ h w .undef h1 ((execOp a.eval o).run P w) := by
        intro w' h1 hrun ⟨r', hf', hx'⟩
        refine ⟨φ, undef, w', .inr ⟨?_, rfl⟩, by rw [conc]; rfl, r', hf', hx'⟩
        rcases ho with ho | ho <;> simp [execOp, ho, hrun]
       cases ix with
       | none =>
         dsimp only at hrv
         subst hrv
         rw [show Nat.beq (es ++ [((opn k).v s, (opn x).v s)]).length es.length = false by rw [nbeq]; simp] at e3
         cases e3
         refine fin { w with heap := w.heap.setIfInBounds l.blk (.map (El.push { key := a.eval k, val := a.eval x, born := cl }) (cl + 1)) } _ ?_ (r.putMap hb hl (by
          rw [Array.toList_push]
          exact hE.push h2 h3) (by rw [Array.toList_push]; exact hB.push _ _) (by rw [Array.toList_push, List.map_append, hbs]; rfl))
         rw [h5]
         simp [Instr.mapUpdate, run_underlying hu, getObj_at hw, hck, hfk, foundAt, setObj_map _ hw]
       | some i =>
         obtain ⟨hes, p, hp, hsame⟩ := hrv
         subst hes
         rw [show Nat.beq (es.set i ((opn k).v s, (opn x).v s)).length es.length = true by rw [nbeq]; simp] at e3
         cases e3
         obtain ⟨en, hen, hek, hval⟩ := hE.val hp
         have hbits := sameKey_bits (fun i x hx => (txLen_at ok hx).imp fun _ h => h.1) hsame h2 hek
         refine fin { w with heap := w.heap.setIfInBounds l.blk (.map (El.modify i fun e => { e with key := a.eval k, val := a.eval x }) cl) } _ ?_ (r.putMap hb hl (by
          rw [Array.toList_modify]
          exact hE.set h2 h3) (by rw [Array.toList_modify]; exact hB.modify _ _ _) (by rw [Array.toList_modify]; exact (map_born_modify (f := fun e => { e with key := a.eval k, val := a.eval x }) (fun _ => rfl)).trans hbs))
         have hen' : El[i]? = some en := by simpa using hen
         rw [h5]
         have hfa : foundAt El.toList 0 (some i) = some (i, en.val) := by simp only [foundAt, hen, Option.map_some, Nat.zero_add]
         rw [hfa] at hfk
         simp [Instr.mapUpdate, run_underlying hu, getObj_at hw, hck, hfk, hen', Instr.keyThatStays, hbits, setObj_map _ hw]
     | _ => cases e
 · cases e
theorem range_ok (ok : EnvOk E P G) {t : Nat} {x : Operand} (ho : o.op = .range t x) (hx : okOpn x = true) (T : TRel G φ s a.tmps) (r : HRel G φ h w) (hf : Free φ h.next h'.next)
 (e : (opF E o).v s h = .ok v h') : Did G φ h w v h' ((execOp a.eval o).run P w) := by
 unfold opF at e
 simp only [ho, ok.ty] at e
 split at e
 · rename_i kt el hmk
   have hu := k_map hmk
   simp only [Box.use_v] at e
   have h1 := opn_ok T hx
   generalize (opn x).v s = y at e h1
   cases y with
   | nilmap =>
     cases e
     have hfn : φ h.next = none := hf _ (Nat.le_refl _) (by simp [H.new])
     rw [conc] at h1
     obtain ⟨r', hfr, hx'⟩ := r.alloc hfn (x := .iter none 0 [] 0) (o := .mapIter none 0 #[] 0) (sl := 0) (heap_alloc_new w _)
     refine ⟨_, .pointer (some ⟨w.heap.size, 0, none⟩), _, .inl ?_, by rw [conc, Mp.put_self], r', hfr, hx'⟩
     rw [show execOp a.eval o = (do pure (.value (← Instr.range t (a.eval x)))) by simp [execOp, ho], ← Option.some.inj h1]
     simp [run_range_nilMap w t kt el hu]
   | map b =>
     obtain ⟨es, bs, cl, hb, e1⟩ := onMapS_ok e
     clear e
     cases e1
     have hfn : φ h.next = none := hf _ (Nat.le_refl _) (by simp [H.new])
     obtain ⟨l, hl, h5⟩ := conc_map h1
     obtain ⟨El, hw, hE, _⟩ := r.ents2 hb hl
     have hbn : b ≠ h.next := fun hh => by rw [hh, r.fresh _ (Nat.le_refl _)] at hb; cases hb
     obtain ⟨r', hfr, hx'⟩ := r.alloc hfn (x := .iter (some b) cl [] cl) (o := .mapIter (some l.blk) cl #[] cl) (sl := 0) ⟨l, by rw [Mp.put_other hbn]; exact hl, heap_alloc_new w _⟩
     refine ⟨_, .pointer (some ⟨w.heap.size, 0, none⟩), _, .inl ?_, by rw [conc, Mp.put_self], r', hfr, hx'⟩
     rw [show execOp a.eval o = (do pure (.value (← Instr.range t (a.eval x)))) by simp [execOp, ho], h5]
     simp [run_range_map w t kt el l.blk El cl hu hw]
   | _ => cases e
 · cases e
end
end Go.Proofs.YtmfmjhklajmhoaaGreat.Gv
namespace Go.Proofs.YtmfmjhklajmhoaaGreat.Gv
open Go
section
variable {E : Env} {P : Program} {G : Gh} {φ : Mp} {h h' : H} {w : World} {s : Fr} {a : Act} {v : V} {o : Oper}
theorem leftB_cons (seen : List Nat) (e : V × V) (es : List (V × V)) (b : Nat) (bs : List Nat) : leftB seen (e :: es) (b :: bs) = (bif hasN b seen then leftB seen es bs else (e, b) :: leftB seen es bs) := rfl
theorem hasN_ok (c : Nat) : ∀ l : List Nat, hasN c l = l.contains c
 | [] => rfl
 | b :: l => by
   show (bif Nat.beq b c then true else hasN c l) = _
   rw [hasN_ok c l, nbeq, List.contains_cons]
   by_cases h : b = c
   · subst h; simp
   · rw [decide_eq_false h]
     have : (c == b) = false := by simpa using Ne.symm h
     rw [this]; rfl
theorem allLt_ok {c : Nat} : ∀ {l : List Nat}, allLt c l = true → ∀ b ∈ l, b < c
 | [], _, b, hb => by cases hb
 | x :: l, e, b, hb => by
   have e : (bif Nat.blt x c then allLt c l else false) = true := e
   cases hx : Nat.blt x c with
   | false => rw [hx] at e; cases e
   | true =>
     rw [hx, cond_true] at e
     rw [nblt, decide_eq_true_eq] at hx
     rcases List.mem_cons.1 hb with rfl | hb
     · exact hx
     · exact allLt_ok e b hb
theorem leftB_ok {seen : List Nat} : ∀ {es : List (V × V)} {El : List MapEntry} {bs : List Nat}, Ents G φ es El → El.map (·.born) = bs →
 (leftB seen es bs).length = (El.filter fun e => !seen.contains e.born).length ∧
 ∀ (i : Nat) (p : (V × V) × Nat), (leftB seen es bs)[i]? = some p → ∃ e, (El.filter fun e => !seen.contains e.born)[i]? = some e ∧ conc G φ p.1.1 = some e.key ∧ conc G φ p.1.2 = some e.val ∧ e.born = p.2
 | [], El, bs, hE, hb => by
   have : El = [] := List.eq_nil_of_length_eq_zero hE.1
   subst this
   cases hb
   exact ⟨rfl, fun i p h => by simp [leftB] at h⟩
 | x :: es, [], bs, hE, hb => by have := hE.1; simp at this
 | x :: es, e :: El, bs, hE, hb => by
   subst hb
   have hE' : Ents G φ es El := ⟨by have := hE.1; simpa using this, fun i k v hi => by have := hE.2 (i + 1) k v (by simpa using hi); simpa using this⟩
   obtain ⟨e0, h0, hk, hv⟩ := hE.2 0 x.1 x.2 (by simp)
   simp at h0
   subst h0
   obtain ⟨h1, h2⟩ := leftB_ok (seen := seen) hE' rfl
   rw [List.map_cons, leftB_cons, hasN_ok, List.filter_cons]
   cases hs : seen.contains e.born with
   | true =>
     rw [cond_true]
     exact ⟨h1, h2⟩
   | false =>
     rw [cond_false]
     simp only [Bool.not_false, if_true]
     refine ⟨by simp [h1], fun i p hp => ?_⟩
     cases i with
     | zero => simp at hp; subst hp; exact ⟨e, by simp, hk, hv, rfl⟩
     | succ i => simpa using h2 i p (by simpa using hp)
theorem tuple3 {k v : V} {uk uv : Value} (hk : conc G φ k = some uk) (hv : conc G φ v = some uv) : conc G φ (.tuple [.bool true, k, v]) = some (.tuple #[.bool true, uk, uv]) := by
 rw [conc, concL_cons.2 ⟨_, _, by rw [conc], concL_cons.2 ⟨_, _, hk, concL_cons.2 ⟨_, _, hv, concL_nil, rfl⟩, rfl⟩, rfl⟩]
theorem tuple2 {k v : V} {uk uv : Value} (hk : conc G φ k = some uk) (hv : conc G φ v = some uv) : conc G φ (.tuple [k, v]) = some (.tuple #[uk, uv]) := by
 rw [conc, concL_cons.2 ⟨_, _, hk, concL_cons.2 ⟨_, _, hv, concL_nil, rfl⟩, rfl⟩]
theorem next_ok {it : Operand} (ho : o.op = .next it false) (hx : okOpn it = true) (T : TRel G φ s a.tmps) (r : HRel G φ h w)
 (e : (opF E o).v s h = .ok v h') : Did G φ h w v h' ((execOp a.eval o).run P w) := by
 unfold opF at e
 simp only [ho, Box.use_v] at e
 have h1 := opn_ok T hx
 obtain ⟨b, off, hy, e1⟩ := onPtr_ok e
 clear e
 rw [hy] at h1
 obtain ⟨l, hl, h2⟩ := conc_ptr h1
 obtain ⟨h0, e2⟩ := bif_ok e1
 clear e1
 rw [nbeq, decide_eq_true_eq] at h0
 subst h0
 have hc : conc G φ (.tuple [.bool false]) = some (.tuple #[.bool false]) := by
  rw [conc, concL_cons.2 ⟨_, _, by rw [conc], concL_nil, rfl⟩]
 cases hb : h.t.get b with
 | none => rw [hb] at e2; cases e2
 | some B0 =>
   rw [hb] at e2
   have hB := r.blk b B0 l hb hl
   cases B0 with
   | cells cs n sz ex => cases e2
   | map es _ _ => cases e2
   | ro _ _ => cases e2
   | iter m since seen last =>
     cases m with
     | none =>
       cases e2
       refine ⟨φ, _, w, .inl ?_, hc, r, Frame.refl _ _ _ _, Ext.refl _ _ _⟩
       rw [show execOp a.eval o = (do pure (.value (← Instr.next (a.eval it) false o.type))) by simp [execOp, ho], h2]
       simp [Instr.next, getObj_iter hB]
     | some m =>
       obtain ⟨es, bs, clk, hm, e3⟩ := onMapS_ok e2
       clear e2
       obtain ⟨hg, e4⟩ := bif_ok e3
       clear e3
       rw [Bool.and_eq_true, nble, decide_eq_true_eq] at hg
       obtain ⟨lm, hlm, hw⟩ := hB
       obtain ⟨El, hw2, hE, hBo, hbs⟩ := r.ents2 hm hlm
       have hold : ∀ x ∈ El.toList, x.born < since := fun x hx => allLt_ok hg.2 _ (by rw [← hbs]; exact List.mem_map.2 ⟨x, hx, rfl⟩)
       have hrn := run_next_at (P := P) w o.type l.blk lm.blk since last seen.toArray El clk hw hw2 hold hg.1
       have hlf : (leftOf El seen.toArray).toList = El.toList.filter fun e => !seen.contains e.born := by
        unfold leftOf
        rw [Array.toList_filter]
        congr 1
        funext e
        simp
       obtain ⟨g1, g2⟩ := leftB_ok (seen := seen) hE hbs
       split at e4
       · rename_i hL
         cases e4
         rw [hL] at g1
         have hnil : (leftOf El seen.toArray).toList = [] := by rw [hlf]; exact List.eq_nil_of_length_eq_zero g1.symm
         rcases hrn with ⟨_, hrun⟩ | ⟨en, hen, _⟩
         · refine ⟨φ, _, w, .inl ?_, hc, r, Frame.refl _ _ _ _, Ext.refl _ _ _⟩
           rw [show execOp a.eval o = (do pure (.value (← Instr.next (a.eval it) false o.type))) by simp [execOp, ho], h2]
           simp [hrun]
         · rw [hnil] at hen; cases hen
       · rename_i x hL
         cases e4
         rw [hL] at g1 g2
         obtain ⟨en, hen, hk, hv, hbn⟩ := g2 0 x rfl
         have hone : (leftOf El seen.toArray).toList = [en] := by
          rw [hlf]
          have h3 := g1.symm
          generalize (El.toList.filter fun e => !seen.contains e.born) = F at h3 hen
          match F, h3, hen with
          | [y], _, hen => simp at hen; rw [hen]
         rcases hrn with ⟨h3, _⟩ | ⟨en', hen', w1, hw1, hrun⟩
         · have := congrArg List.length hone
           simp at this
           omega
         · rw [hone] at hen'
           have : en' = en := by simpa using hen'
           subst this
           have hheap : w1.heap = w.heap := by rcases hw1 with rfl | rfl <;> rfl
           have hlt := (r.blk b _ l hb hl).lt
           refine ⟨φ, _, ChangeMaps.setBlock w1 l.blk (.mapIter (some lm.blk) since (seen.toArray.push en'.born) clk), .inl ?_, tuple3 hk hv, ?_, ?_, Ext.put ⟨_, hb⟩⟩
           · rw [show execOp a.eval o = (do pure (.value (← Instr.next (a.eval it) false o.type))) by simp [execOp, ho], h2]
             simp [hrun]
           · refine r.put hb hl ⟨lm, hlm, ?_⟩ fun k hk => ?_
             · simp [ChangeMaps.setBlock, hheap, hlt, hbn]
             · simp [ChangeMaps.setBlock, hheap, Array.getElem?_setIfInBounds_ne (Ne.symm hk)]
           · refine ⟨fun _ => ?_, ?_, ?_, ?_, ?_, fun k hk hn => ?_⟩
             · rcases hw1 with rfl | rfl
               · exact Nat.le_refl _
               · exact Nat.le_succ _
             · rcases hw1 with rfl | rfl <;> rfl
             · rcases hw1 with rfl | rfl <;> rfl
             · rcases hw1 with rfl | rfl <;> rfl
             · simp [ChangeMaps.setBlock, hheap]
             · have : l.blk ≠ k := fun e => hn ⟨b, _, l, hb, hl, e⟩
               simp [ChangeMaps.setBlock, hheap, Array.getElem?_setIfInBounds_ne this]
       · cases e4
theorem map_eraseIdx' {α β : Type} (f : α → β) : ∀ (l : List α) (i : Nat), (l.eraseIdx i).map f = (l.map f).eraseIdx i
 | [], _ => rfl
 | _ :: _, 0 => rfl
 | x :: l, i + 1 => by simp [map_eraseIdx' f l i]
theorem lastN_ok : ∀ {l : List Nat} {x : Nat}, lastN l = some x → ∃ pre, l = pre ++ [x]
 | [], x, e => by cases e
 | y :: l, x, e => by
   have e : (match lastN l with | some z => some z | none => some y) = some x := e
   cases hl : lastN l with
   | some z =>
     rw [hl] at e
     cases e
     obtain ⟨pre, hp⟩ := lastN_ok hl
     exact ⟨y :: pre, by rw [hp]; rfl⟩
   | none =>
     rw [hl] at e
     cases e
     cases l with
     | nil => exact ⟨[], rfl⟩
     | cons z t =>
       have : (match lastN t with | some q => some q | none => some z) = none := hl
       split at this <;> cases this
theorem bornAt_ok {c : Nat} : ∀ {es : List (V × V)} {El : List MapEntry} {bs : List Nat} {p : V × V}, Ents G φ es El → El.map (·.born) = bs → bornAt c es bs = some p →
 ∃ e ∈ El, e.born = c ∧ conc G φ p.1 = some e.key ∧ conc G φ p.2 = some e.val
 | [], El, bs, p, hE, hb, e => by cases e
 | x :: es, [], bs, p, hE, hb, e => by have := hE.1; simp at this
 | x :: es, y :: El, bs, p, hE, hb, e => by
   subst hb
   have e : (bif Nat.beq y.born c then some x else bornAt c es (El.map (·.born))) = some p := e
   rw [nbeq] at e
   by_cases hc : y.born = c
   · rw [decide_eq_true hc, cond_true] at e
     cases e
     obtain ⟨e0, h0, hk, hv⟩ := hE.2 0 x.1 x.2 (by simp)
     simp at h0
     subst h0
     exact ⟨y, by simp, hc, hk, hv⟩
   · rw [decide_eq_false hc, cond_false] at e
     have hE' : Ents G φ es El := ⟨by have := hE.1; simpa using this, fun i k v hi => by have := hE.2 (i + 1) k v (by simpa using hi); simpa using this⟩
     obtain ⟨e0, h0, h1⟩ := bornAt_ok hE' rfl e
     exact ⟨e0, by simp [h0], h1⟩
theorem entry_ok {it : Operand} (ho : o.op = .entry it) (hx : okOpn it = true) (T : TRel G φ s a.tmps) (r : HRel G φ h w)
 (e : (opF E o).v s h = .ok v h') : Did G φ h w v h' ((execOp a.eval o).run P w) := by
 unfold opF at e
 simp only [ho, Box.use_v] at e
 have h1 := opn_ok T hx
 obtain ⟨b, off, hy, e1⟩ := onPtr_ok e
 clear e
 rw [hy] at h1
 obtain ⟨l, hl, h2⟩ := conc_ptr h1
 obtain ⟨h0, e2⟩ := bif_ok e1
 clear e1
 rw [nbeq, decide_eq_true_eq] at h0
 subst h0
 cases hb : h.t.get b with
 | none => rw [hb] at e2; cases e2
 | some B0 =>
   rw [hb] at e2
   have hB := r.blk b B0 l hb hl
   cases B0 with
   | cells cs n sz ex => cases e2
   | map es _ _ => cases e2
   | ro _ _ => cases e2
   | iter m since seen last =>
     cases m with
     | none => cases e2
     | some m =>
       obtain ⟨es, bs, clk, hm, e3⟩ := onMapS_ok e2
       clear e2
       obtain ⟨hg, e4⟩ := bif_ok e3
       clear e3
       rw [nbeq, decide_eq_true_eq] at hg
       subst hg
       obtain ⟨lm, hlm, hw⟩ := hB
       obtain ⟨El, hw2, hE, hBo, hbs⟩ := r.ents2 hm hlm
       split at e4
       · rename_i x hx
         obtain ⟨p, hp, e5⟩ := onSome_ok e4
         clear e4
         cases e5
         obtain ⟨pre, hpre⟩ := lastN_ok hx
         obtain ⟨en, hen, hbn, hk, hv⟩ := bornAt_ok hE hbs hp
         have hrun := run_entry_at (P := P) w l.blk lm.blk since pre.toArray El clk en (by rw [hw, hpre, hbn]; simp) hw2 hen hBo.2
         refine ⟨φ, _, w, .inl ?_, tuple2 hk hv, r, Frame.refl _ _ _ _, Ext.refl _ _ _⟩
         rw [show execOp a.eval o = (do pure (.value (← Instr.entry (a.eval it)))) by simp [execOp, ho], h2]
         simp [hrun]
       · cases e4
theorem two_conc {x y : V} {m : List Value} (hc : concL G φ [x, y] = some m) : ∃ u z, conc G φ x = some u ∧ conc G φ y = some z ∧ m = [u, z] := by
 obtain ⟨u, k, h1, h2, rfl⟩ := concL_cons.1 hc
 obtain ⟨z, k', h3, h4, rfl⟩ := concL_cons.1 h2
 rw [concL_nil] at h4; cases h4
 exact ⟨u, z, h1, h3, rfl⟩
theorem one_conc {x : V} {m : List Value} (hc : concL G φ [x] = some m) : ∃ u, conc G φ x = some u ∧ m = [u] := by
 obtain ⟨u, k, h1, h2, rfl⟩ := concL_cons.1 hc
 rw [concL_nil] at h2; cases h2
 exact ⟨u, h1, rfl⟩
theorem DidV.builtin {b : Builtin} {at' : Array TypeId} {ty : TypeId} {cs : Array Bool} {args : Array Value} {m : Sem Value} (hb : builtin b at' ty cs args = (do pure (.value (← m))))
 (d : DidV G φ h w v h' (m.run P w)) : Did G φ h w v h' ((builtin b at' ty cs args).run P w) := by rw [hb]; exact d.did
theorem len_ok (ok : EnvOk E P G) {ts : List Nat} {ty : TypeId} {cs : Array Bool} {l : List V} {ul : List Value} (hl : concL G φ l = some ul) (r : HRel G φ h w)
 (e : (builtF E .len ts).v l h = .ok v h') : Did G φ h w v h' ((builtin .len ts.toArray ty cs ul.toArray).run P w) := by
 refine DidV.builtin rfl ?_
 cases ts with
 | nil => cases e
 | cons t0 ts =>
   unfold builtF at e
   simp only [ok.ty] at e
   have fin : ∀ n : Nat, (Builtin.len_ (t0 :: ts).toArray ty ul.toArray).run P w = .ok (goInt n) w → RV.ok (.int .i64 (.ofNat n)) h = .ok v h' → DidV G φ h w v h' ((Builtin.len_ (t0 :: ts).toArray ty ul.toArray).run P w) := by
    intro n hr hh
    cases hh
    exact DidV.same r (by rw [conc]; rfl) hr
   split at e
   · rename_i n el hk
     have hu := k_array hk
     dsimp only at e
     split at e
     · obtain ⟨u, _, rfl⟩ := one_conc hl
       exact fin n (by simp [Builtin.len_, run_underlying hu]) e
     · cases e
   · rename_i hk
     have hu := k_string hk
     dsimp only at e
     split at e
     · obtain ⟨u, h1, rfl⟩ := one_conc hl
       rw [conc] at h1; cases h1
       exact fin _ (by simp [Builtin.len_, run_underlying hu, strL_size]) e
     · rename_i i
       obtain ⟨u, h1, rfl⟩ := one_conc hl
       split at e
       · rename_i x hx
         obtain ⟨s, hs, hz⟩ := txLen_at ok hx
         rw [conc, hs] at h1; cases h1
         cases e
         refine DidV.same r ?_ (by simp [Builtin.len_, run_underlying hu]; rfl)
         rw [ofLF_conc]
         show some (Value.int .i64 (x.1 + den G.σ x.2)) = _
         rw [← hz]; rfl
       · cases e
     · cases e
   · rename_i el hk
     have hu := k_slice hk
     dsimp only at e
     split at e
     · obtain ⟨u, h1, rfl⟩ := one_conc hl
       obtain ⟨lc, _, rfl⟩ := conc_slice h1
       exact fin _ (by simp [Builtin.len_, run_underlying hu]) e
     · obtain ⟨u, h1, rfl⟩ := one_conc hl
       rw [conc] at h1; cases h1
       exact fin 0 (by simp [Builtin.len_, run_underlying hu]) e
     · rename_i i
       obtain ⟨u, h1, rfl⟩ := one_conc hl
       rw [conc] at h1
       cases hi : φ i with
       | none => rw [hi] at h1; cases h1
       | some lc =>
         rw [hi] at h1; cases h1
         exact fin 0 (by simp [Builtin.len_, run_underlying hu]) e
     · cases e
   · rename_i kt el hk
     have hu := k_map hk
     dsimp only at e
     split at e
     · obtain ⟨es, bs, clk, hb, e1⟩ := onMap_ok e
       clear e
       obtain ⟨u, h1, rfl⟩ := one_conc hl
       obtain ⟨lc, hlc, rfl⟩ := conc_map h1
       obtain ⟨El, cl, hw, hE⟩ := r.ents hb hlc
       have hsz : El.size = es.length := by simpa using hE.1
       exact fin _ (by simp [Builtin.len_, run_underlying hu, getObj_at hw, hsz]) e1
     · obtain ⟨u, h1, rfl⟩ := one_conc hl
       rw [conc] at h1; cases h1
       exact fin 0 (by simp [Builtin.len_, run_underlying hu]) e
     · cases e
   · cases e
theorem cap_ok (ok : EnvOk E P G) {ts : List Nat} {ty : TypeId} {cs : Array Bool} {l : List V} {ul : List Value} (hl : concL G φ l = some ul) (r : HRel G φ h w)
 (e : (builtF E .cap ts).v l h = .ok v h') : Did G φ h w v h' ((builtin .cap ts.toArray ty cs ul.toArray).run P w) := by
 refine DidV.builtin rfl ?_
 cases ts with
 | nil => cases e
 | cons t0 ts =>
   unfold builtF at e
   simp only [ok.ty] at e
   have fin : ∀ n : Nat, (Builtin.cap_ (t0 :: ts).toArray ty ul.toArray).run P w = .ok (goInt n) w → RV.ok (.int .i64 (.ofNat n)) h = .ok v h' → DidV G φ h w v h' ((Builtin.cap_ (t0 :: ts).toArray ty ul.toArray).run P w) := by
    intro n hr hh
    cases hh
    exact DidV.same r (by rw [conc]; rfl) hr
   split at e
   · rename_i el hk
     have hu := k_slice hk
     dsimp only at e
     split at e
     · rename_i b off len c xx
       obtain ⟨es, n, sz, ex, hb, e1⟩ := onCells_ok e
       clear e
       obtain ⟨hx, e2⟩ := bif_ok e1
       clear e1
       obtain ⟨u, h1, rfl⟩ := one_conc hl
       obtain ⟨lc, hlc, rfl⟩ := conc_slice h1
       have hcap : (bif xx then c + lc.slack else c) = c := by
        cases xx with
        | false => rfl
        | true =>
          obtain ⟨C, e, _, _, h3, _⟩ := r.cells hb hlc
          simp at hx
          rw [h3 hx]; rfl
       exact fin _ (by simp [Builtin.cap_, run_underlying hu, hcap]) e2
     · obtain ⟨u, h1, rfl⟩ := one_conc hl
       rw [conc] at h1; cases h1
       exact fin 0 (by simp [Builtin.cap_, run_underlying hu]) e
     · cases e
   · cases e
theorem delete_ok (ok : EnvOk E P G) {ts : List Nat} {ty : TypeId} {cs : Array Bool} {l : List V} {ul : List Value} (hl : concL G φ l = some ul) (r : HRel G φ h w)
 (e : (builtF E .delete ts).v l h = .ok v h') : Did G φ h w v h' ((builtin .delete ts.toArray ty cs ul.toArray).run P w) := by
 refine DidV.builtin rfl ?_
 cases ts with
 | nil => cases e
 | cons t0 ts =>
   unfold builtF at e
   simp only [ok.ty] at e
   split at e
   · rename_i kt el hk
     have hu := k_map hk
     cases hq : eqTy E 8 kt with
     | none => rw [hq] at e; cases e
     | some q =>
       rw [hq] at e
       simp only [Box.use_v] at e
       split at e
       · rename_i b k
         obtain ⟨es, bs, cl, hb, e1⟩ := onMapS_ok e
         clear e
         obtain ⟨hkk, e2⟩ := okKey_ok e1
         clear e1
         obtain ⟨es', hdel, e3⟩ := onSome_ok e2
         clear e2
         obtain ⟨ix', hix', e4⟩ := onSome_ok e3
         clear e3
         cases e4
         obtain ⟨um, uk, h1, h2, rfl⟩ := two_conc hl
         obtain ⟨lc, hlc, rfl⟩ := conc_map h1
         obtain ⟨El, hw, hE, hB, hbs⟩ := r.ents2 hb hlc
         obtain ⟨ix, hix, hrv⟩ := delK_idx hdel
         rw [hix] at hix'
         cases hix'
         have hfk := findKey_ok (w := w) ok hq h2 hix hE
         have hck : ∀ em, (Instr.checkKey em 10000 kt uk).run P w = .ok () w := fun em => (key_ok ok 8 kt q hq).1 φ w _ _ 10000 em (by omega) hkk h2
         cases ix' with
         | none =>
           dsimp only at hrv
           subst hrv
           obtain ⟨r', hf', hx'⟩ := r.putMap (c := cl) hb hlc hE hB hbs
           refine ⟨φ, .tuple #[], _, ?_, by rw [conc], r', hf', hx'⟩
           have hfa : foundAt El.toList 0 none = none := rfl
           rw [hfa] at hfk
           simp [Builtin.delete_, run_underlying hu, getObj_at hw, hck, hfk, setObj_map _ hw]
         | some i =>
           obtain ⟨rfl, hlt⟩ := hrv
           have hlt' : i < El.size := by have := hE.1; simp at this; omega
           have hE' : Ents G φ (es.eraseIdx i) (El.eraseIdxIfInBounds i).toList := by
            have h3 : (El.eraseIdxIfInBounds i).toList = El.toList.eraseIdx i := by simp [Array.eraseIdxIfInBounds, hlt']
            rw [h3]
            refine ⟨by rw [List.length_eraseIdx, List.length_eraseIdx, hE.1], fun j k' v' hj => ?_⟩
            rw [List.getElem?_eraseIdx] at hj ⊢
            split at hj
            · rename_i hji; rw [if_pos hji]; exact hE.2 _ _ _ hj
            · rename_i hji; rw [if_neg hji]; exact hE.2 _ _ _ hj
           have hB' : Born (El.eraseIdxIfInBounds i).toList cl := by
            have h3 : (El.eraseIdxIfInBounds i).toList = El.toList.eraseIdx i := by simp [Array.eraseIdxIfInBounds, hlt']
            rw [h3]
            exact hB.erase i
           obtain ⟨r', hf', hx'⟩ := r.putMap (c := cl) (bs' := bs.eraseIdx i) hb hlc hE' hB' (by
            have h3 : (El.eraseIdxIfInBounds i).toList = El.toList.eraseIdx i := by simp [Array.eraseIdxIfInBounds, hlt']
            rw [h3, ← hbs, map_eraseIdx'])
           refine ⟨φ, .tuple #[], _, ?_, by rw [conc], r', hf', hx'⟩
           have hfa : foundAt El.toList 0 (some i) = some (i, El[i].val) := by simp [foundAt, hlt']
           rw [hfa] at hfk
           simp [Builtin.delete_, run_underlying hu, getObj_at hw, hck, hfk, setObj_map _ hw]
       · cases e
   · cases e
end
end Go.Proofs.YtmfmjhklajmhoaaGreat.Gv
namespace Go.Proofs.YtmfmjhklajmhoaaGreat.Gv
open Go
section
variable {E : Env} {P : Program} {G : Gh} {φ : Mp} {h h' : H} {w : World} {s : Fr} {a : Act} {v : V} {o : Oper}
theorem maxV_ok (ok : EnvOk E P G) {lt : Bool} {x y : V} {ux uy : Value} (hx : conc G φ x = some ux) (hy : conc G φ y = some uy) (e : maxV E lt x y h = .ok v h') :
 h' = h ∧ ∃ k m n, ux = .int k m ∧ uy = .int k n ∧ conc G φ v = some (.int k (if (if lt then n < m else m < n) then n else m)) := by
 unfold maxV at e
 split at e
 · rename_i k m k' n
   obtain ⟨rfl, e1⟩ := same_ok e
   clear e
   cases e1
   rw [conc] at hx hy; cases hx; cases hy
   refine ⟨rfl, _, _, _, rfl, rfl, ?_⟩
   rw [conc]
   cases lt
   · simp only [cond_false, ilt_ok, Bool.false_eq_true, if_false]
     by_cases hmn : m < n <;> simp [hmn]
   · simp only [cond_true, ilt_ok, if_true]
     by_cases hmn : n < m <;> simp [hmn]
 · split at e
   · rename_i k k' z1 z2 hk1 hk2 hz1 hz2
     obtain ⟨rfl, e1⟩ := same_ok e
     clear e
     obtain ⟨b, hb, e2⟩ := onSomeN_ok e1
     clear e1
     cases e2
     have c1 := int_conc (G := G) (φ := φ) hk1 hz1
     have c2 := int_conc (G := G) (φ := φ) hk2 hz2
     refine ⟨rfl, k, _, _, Option.some.inj (hx.symm.trans c1), Option.some.inj (hy.symm.trans c2), ?_⟩
     cases lt
     · rw [cond_false] at hb
       have := symLt_ok ok hb
       simp only [Bool.false_eq_true, if_false]
       subst this
       by_cases hmn : LF.den G.σ z1 < LF.den G.σ z2
       · simp [hmn, c2]
       · simp [hmn, c1]
     · rw [cond_true] at hb
       have := symLt_ok ok hb
       simp only [if_true]
       subst this
       by_cases hmn : LF.den G.σ z2 < LF.den G.σ z1
       · simp [hmn, c2]
       · simp [hmn, c1]
   · cases e
theorem max_ok (ok : EnvOk E P G) {ts : List Nat} {ty : TypeId} {cs : Array Bool} {l : List V} {ul : List Value} (hl : concL G φ l = some ul) (r : HRel G φ h w)
 (e : (builtF E .max ts).v l h = .ok v h') : Did G φ h w v h' ((builtin .max ts.toArray ty cs ul.toArray).run P w) := by
 refine DidV.builtin rfl ?_
 cases ts with
 | nil => cases e
 | cons t0 ts =>
   unfold builtF at e
   dsimp only at e
   split at e
   · obtain ⟨u, z, h1, h2, rfl⟩ := two_conc hl
     obtain ⟨rfl, k, m, n, rfl, rfl, hc⟩ := maxV_ok ok h1 h2 e
     refine DidV.same r hc ?_
     simp [Builtin.max_, Builtin.max2]
   · cases e
theorem min_ok (ok : EnvOk E P G) {ts : List Nat} {ty : TypeId} {cs : Array Bool} {l : List V} {ul : List Value} (hl : concL G φ l = some ul) (r : HRel G φ h w)
 (e : (builtF E .min ts).v l h = .ok v h') : Did G φ h w v h' ((builtin .min ts.toArray ty cs ul.toArray).run P w) := by
 refine DidV.builtin rfl ?_
 cases ts with
 | nil => cases e
 | cons t0 ts =>
   unfold builtF at e
   dsimp only at e
   split at e
   · obtain ⟨u, z, h1, h2, rfl⟩ := two_conc hl
     obtain ⟨rfl, k, m, n, rfl, rfl, hc⟩ := maxV_ok ok h1 h2 e
     refine DidV.same r hc ?_
     simp [Builtin.min_, Builtin.min2]
   · cases e
theorem zeroCells_list (z : Array Value) (n : Nat) : (Builtin.zeroCells z n).toList = repV z.toList n := by
 show (madeCells z (n * z.size)).toList = _
 apply List.ext_getElem?
 intro j
 by_cases hj : j < n * z.size
 · rw [Array.getElem?_toList, madeCells_get hj]
 · rw [List.getElem?_eq_none (by rw [Array.length_toList, size_madeCells]; omega), List.getElem?_eq_none (by rw [repV_length]; simpa using hj)]
theorem clear_ok (ok : EnvOk E P G) {ts : List Nat} {ty : TypeId} {cs : Array Bool} {l : List V} {ul : List Value} (hl : concL G φ l = some ul) (r : HRel G φ h w)
 (e : (builtF E .clear ts).v l h = .ok v h') : Did G φ h w v h' ((builtin .clear ts.toArray ty cs ul.toArray).run P w) := by
 refine DidV.builtin rfl ?_
 cases ts with
 | nil => cases e
 | cons t0 ts =>
   unfold builtF at e
   simp only [ok.ty] at e
   split at e
   · rename_i el hk
     have hu := k_slice hk
     cases hz : (mkTI P el).zero with
     | none => rw [hz] at e; cases e
     | some z =>
       obtain ⟨i, zv, hi, hz', habs, hsz, _⟩ := zero_ok hz
       rw [hz] at e
       dsimp only at e
       have hc : conc G φ .undef = some (.tuple #[]) := by rw [conc]
       split at e
       · cases e
         obtain ⟨u, h1, rfl⟩ := one_conc hl
         rw [conc] at h1; cases h1
         exact DidV.same r hc (by simp [Builtin.clear_, run_underlying hu])
       · rename_i j
         cases e
         obtain ⟨u, h1, rfl⟩ := one_conc hl
         rw [conc] at h1
         cases hj : φ j with
         | none => rw [hj] at h1; cases h1
         | some lc =>
           rw [hj] at h1; cases h1
           exact DidV.same r hc (by simp [Builtin.clear_, run_underlying hu])
       · rename_i b off n c xx
         obtain ⟨u, h1, rfl⟩ := one_conc hl
         obtain ⟨lc, hlc, rfl⟩ := conc_slice h1
         cases h0 : Nat.beq n 0 with
         | true =>
           rw [h0, cond_true] at e
           rw [nbeq, decide_eq_true_eq] at h0
           subst h0
           cases e
           exact DidV.same r hc (by simp [Builtin.clear_, run_underlying hu])
         | false =>
           rw [h0, cond_false] at e
           rw [nbeq, decide_eq_false_iff_not] at h0
           obtain ⟨cs', m, sz, ex, hb, hm, hcell, e1⟩ := storeL_ok e
           clear e
           cases e1
           have hrv := concL_repl (cells_conc2 (absV_ok G φ 4 _ _ habs) (absV_narrow habs)) n
           obtain ⟨w', hrun, r', hf, hx'⟩ := r.store (P := P) hb hlc hm hcell hrv
           refine ⟨φ, .tuple #[], w', ?_, hc, r', hf, hx'⟩
           have hzc := zeroCells_list zv.cells n
           rw [← hzc] at hrun
           obtain ⟨n, rfl⟩ : ∃ k, n = k + 1 := ⟨n - 1, by omega⟩
           simp [Builtin.clear_, run_underlying hu, zeroValue, typeInfo, hi, hz', hrun]
       · cases e
   · cases e
end
end Go.Proofs.YtmfmjhklajmhoaaGreat.Gv
