/- Operations, ninth part: writing into maps; ranges over maps. -/
import Derived.Test.YtjpkfdmjhgnmbaaGreatGvOps8
import Derived.Laws.IdiomRangeMap
namespace Go.Proofs.YtjpkfdmjhgnmbaaGreat.Gv
open Go

section
variable {E : Env} {P : Program} {G : Gh} {φ : Mp} {h h' : H} {w : World} {s : Fr} {a : Act} {v : V} {o : Oper}

theorem sameB_bits {x y : V} {ux uy : Value} (e : sameB x y = true) (hx : conc G φ x = some ux) (hy : conc G φ y = some uy) (n : Nat) : Instr.sameBits n uy ux = true := by
  unfold sameB at e
  split at e
  · split at e
    · rw [conc] at hx hy; cases hx; cases hy; cases n <;> rfl
    · rw [conc] at hx hy; cases hx; cases hy; cases n <;> rfl
    · cases e
  · rw [Bool.and_eq_true, ieq_ok, decide_eq_true_eq] at e
    obtain ⟨e1, e2⟩ := e
    have := sameK_ok e1
    subst this; subst e2
    rw [conc] at hx hy; cases hx; cases hy
    cases n <;> simp [Instr.sameBits]
  · rw [Bool.and_eq_true, nbeq, nbeq, decide_eq_true_eq, decide_eq_true_eq] at e
    obtain ⟨rfl, rfl⟩ := e
    rw [conc] at hx hy; cases hx; cases hy
    cases n <;> · simp only [Instr.sameBits]; rw [str_beq]; simp
  · cases e
theorem allB_cons (f : V → V → Bool) (x : V) (l : List V) (m : List V) : allB f (x :: l) m = (match m with | y :: m => bif f x y then allB f l m else false | [] => false) := rfl
theorem allB_bits : ∀ {l m : List V} {ul um : List Value} (n : Nat), allB sameB l m = true → concL G φ l = some ul → concL G φ m = some um →
    um.length = ul.length ∧ ((um.zip ul).all fun (x, y) => Instr.sameBits n x y) = true
  | [], m, ul, um, n, e, hl, hm => by
    cases m with
    | nil => rw [concL_nil] at hl hm; cases hl; cases hm; exact ⟨rfl, rfl⟩
    | cons _ _ => cases e
  | x :: l, m, ul, um, n, e, hl, hm => by
    cases m with
    | nil => cases e
    | cons y m =>
      rw [allB_cons] at e
      dsimp only at e
      cases hs : sameB x y with
      | false => rw [hs] at e; cases e
      | true =>
        rw [hs, cond_true] at e
        obtain ⟨u1, k1, h1, h2, rfl⟩ := concL_cons.1 hl
        obtain ⟨u2, k2, h3, h4, rfl⟩ := concL_cons.1 hm
        obtain ⟨g1, g2⟩ := allB_bits n e h2 h4
        exact ⟨by simp [g1], by simp only [List.zip_cons_cons, List.all_cons, sameB_bits hs h1 h3 n, g2, Bool.and_self]⟩
theorem sameKey_bits {x y : V} {ux uy : Value} (e : sameKey x y = true) (hx : conc G φ x = some ux) (hy : conc G φ y = some uy) : Instr.sameBits 10000 uy ux = true := by
  unfold sameKey at e
  split at e
  · split at e
    · obtain ⟨ul, hl, rfl⟩ := conc_agg hx
      obtain ⟨um, hm, rfl⟩ := conc_agg hy
      obtain ⟨g1, g2⟩ := allB_bits 9999 e hl hm
      show (um.toArray.size == ul.toArray.size && (um.toArray.toList.zip ul.toArray.toList).all fun (x, y) => Instr.sameBits 9999 x y) = true
      simp only [List.size_toArray, g1, beq_self_eq_true, Bool.true_and]
      exact g2
    · cases e
  · exact sameB_bits e hx hy 10000

theorem Frame.putMap {b : Nat} {x : Obj} (hf : Foot φ h b) : Frame φ h w { w with heap := w.heap.setIfInBounds b x } :=
  ⟨rfl, rfl, rfl, by simp, fun k hk hn => by
    have : b ≠ k := fun e => hn (e ▸ hf)
    simp [Array.getElem?_setIfInBounds_ne this]⟩

theorem HRel.putMap (r : HRel G φ h w) {b : Nat} {es es' : List (V × V)} {l : Loc} {El' : Array MapEntry} {c : Nat} (hb : h.t.get b = some (.map es)) (hl : φ b = some l) (hE : Ents G φ es' El'.toList) (hB : Born El'.toList c) :
    HRel G φ (h.put b (.map es')) { w with heap := w.heap.setIfInBounds l.blk (.map El' c) } ∧ Frame φ h w { w with heap := w.heap.setIfInBounds l.blk (.map El' c) } ∧ Ext φ φ h (h.put b (.map es')) w := by
  have hlt := (r.blk b _ l hb hl).lt
  refine ⟨r.put hb hl ⟨El', c, by simp [hlt], hB, by simpa using hE.1, fun i k v hi => by simpa using hE.2 i k v hi⟩ (fun k hk => by simp [Array.getElem?_setIfInBounds_ne (Ne.symm hk)]), Frame.putMap ⟨b, _, l, hb, hl, rfl⟩, Ext.put ⟨_, hb⟩⟩

theorem Ents.set {es : List (V × V)} {El : List MapEntry} (hE : Ents G φ es El) {i : Nat} {k x : V} {uk ux : Value} (hk : conc G φ k = some uk) (hx : conc G φ x = some ux) :
    Ents G φ (es.set i (k, x)) (El.modify i fun e => { e with key := uk, val := ux }) := by
  refine ⟨by simp [hE.1], fun j k' v' hj => ?_⟩
  rw [List.getElem?_set] at hj
  by_cases hij : i = j
  · subst hij
    rw [if_pos rfl] at hj
    split at hj
    · rename_i hlt
      cases hj
      have hlt' : i < El.length := by rw [hE.1]; exact hlt
      refine ⟨{ El[i] with key := uk, val := ux }, ?_, hk, hx⟩
      rw [List.getElem?_modify]
      simp [hlt']
    · cases hj
  · rw [if_neg hij] at hj
    obtain ⟨e, h1, h2⟩ := hE.2 j k' v' hj
    refine ⟨e, ?_, h2⟩
    rw [List.getElem?_modify, h1]
    simp [hij]
theorem Ents.push {es : List (V × V)} {El : List MapEntry} (hE : Ents G φ es El) {k x : V} {e : MapEntry} (hk : conc G φ k = some e.key) (hx : conc G φ x = some e.val) :
    Ents G φ (es ++ [(k, x)]) (El ++ [e]) := by
  refine ⟨by simp [hE.1], fun j k' v' hj => ?_⟩
  rw [List.getElem?_append] at hj
  split at hj
  · rename_i hlt
    obtain ⟨e', h1, h2⟩ := hE.2 j k' v' hj
    exact ⟨e', by rw [List.getElem?_append_left (by rw [hE.1]; exact hlt)]; exact h1, h2⟩
  · rename_i hlt
    have : j - es.length = 0 := by
      rcases Nat.eq_zero_or_pos (j - es.length) with h0 | h0
      · exact h0
      · rw [List.getElem?_eq_none (by simp; omega)] at hj; cases hj
    rw [this] at hj
    simp at hj
    obtain ⟨rfl, rfl⟩ := hj
    have hjl : j = El.length := by rw [hE.1]; omega
    exact ⟨e, by rw [hjl]; simp, hk, hx⟩

theorem upd_ok (ok : EnvOk E P G) {t : Nat} {m k x : Operand} (ho : o.op = .mapUpdate t m k x ∨ o.op = .insert t m k x) (hm : okOpn m = true) (hk : okOpn k = true) (hx : okOpn x = true) (T : TRel G φ s a.tmps) (r : HRel G φ h w)
    (e : (updF E t m k x).v s h = .ok v h') : Did G φ h w v h' ((execOp a.eval o).run P w) := by
  unfold updF at e
  simp only [ok.ty] at e
  split at e
  · rename_i kt el hmk
    have hu := k_map hmk
    cases hq : eqTy E 8 kt with
    | none => rw [hq] at e; cases e
    | some q =>
      rw [hq] at e
      simp only [Box.use_v] at e
      have h1 := opn_ok T hm
      have h2 := opn_ok T hk
      have h3 := opn_ok T hx
      generalize hy : (opn m).v s = y at e h1
      cases y with
      | map b =>
        obtain ⟨es, hb, e1⟩ := onMap_ok e
        clear e
        obtain ⟨hkk, e2⟩ := okKey_ok e1
        clear e1
        obtain ⟨es', hput, e3⟩ := onSome_ok e2
        clear e2
        cases e3
        obtain ⟨l, hl, h5⟩ := conc_map h1
        obtain ⟨El, cl, hw, hE, hB⟩ := r.ents2 hb hl
        obtain ⟨ix, hix, hrv⟩ := putK_idx hput
        have hfk := findKey_ok (w := w) ok hq h2 hix hE
        have hck : (Instr.checkKey false 10000 kt (a.eval k)).run P w = .ok () w := (key_ok ok 8 kt q hq).1 φ w _ _ 10000 false (by omega) hkk h2
        have fin : ∀ w', (Instr.mapUpdate t (a.eval m) (a.eval k) (a.eval x)).run P w = .ok () w' → HRel G φ (h.put b (.map es')) w' ∧ Frame φ h w w' ∧ Ext φ φ h (h.put b (.map es')) w →
            Did G φ h w .undef (h.put b (.map es')) ((execOp a.eval o).run P w) := by
          intro w' hrun ⟨r', hf', hx'⟩
          refine ⟨φ, undef, w', .inr ⟨?_, rfl⟩, by rw [conc]; rfl, r', hf', hx'⟩
          rcases ho with ho | ho <;> simp [execOp, ho, hrun]
        cases ix with
        | none =>
          dsimp only at hrv
          subst hrv
          refine fin { w with heap := w.heap.setIfInBounds l.blk (.map (El.push { key := a.eval k, val := a.eval x, born := cl }) (cl + 1)) } ?_ (r.putMap hb hl (by
            rw [Array.toList_push]
            exact hE.push h2 h3) (by rw [Array.toList_push]; exact hB.push _ _))
          rw [h5]
          simp [Instr.mapUpdate, run_underlying hu, getObj_at hw, hck, hfk, foundAt, setObj_map _ hw]
        | some i =>
          obtain ⟨rfl, p, hp, hsame⟩ := hrv
          obtain ⟨en, hen, hek, hval⟩ := hE.val hp
          have hbits := sameKey_bits hsame h2 hek
          refine fin { w with heap := w.heap.setIfInBounds l.blk (.map (El.modify i fun e => { e with key := a.eval k, val := a.eval x }) cl) } ?_ (r.putMap hb hl (by
            rw [Array.toList_modify]
            exact hE.set h2 h3) (by rw [Array.toList_modify]; exact hB.modify _ _ _))
          have hen' : El[i]? = some en := by simpa using hen
          rw [h5]
          have hfa : foundAt El.toList 0 (some i) = some (i, en.val) := by simp only [foundAt, hen, Option.map_some, Nat.zero_add]
          rw [hfa] at hfk
          simp [Instr.mapUpdate, run_underlying hu, getObj_at hw, hck, hfk, hen', Instr.keyThatStays, hbits, setObj_map _ hw]
      | _ => cases e
  · cases e

theorem range_ok (ok : EnvOk E P G) {t : Nat} {x : Operand} (ho : o.op = .range t x) (hx : okOpn x = true) (T : TRel G φ s a.tmps) (r : HRel G φ h w) (hf : Free φ h.next h'.next)
    (e : (opF E o).v s h = .ok v h') : Did G φ h w v h' ((execOp a.eval o).run P w) := by
  unfold opF at e
  simp only [ho, ok.ty] at e
  split at e
  · rename_i kt el hmk
    have hu := k_map hmk
    simp only [Box.use_v] at e
    have h1 := opn_ok T hx
    generalize (opn x).v s = y at e h1
    cases y with
    | nilmap =>
      cases e
      have hfn : φ h.next = none := hf _ (Nat.le_refl _) (by simp [H.new])
      rw [conc] at h1
      obtain ⟨r', hfr, hx'⟩ := r.alloc hfn (x := .iter none) (o := .mapIter none 0 #[] 0) (sl := 0) (heap_alloc_new w _)
      refine ⟨_, .pointer (some ⟨w.heap.size, 0, none⟩), _, .inl ?_, by rw [conc, Mp.put_self], r', hfr, hx'⟩
      rw [show execOp a.eval o = (do pure (.value (← Instr.range t (a.eval x)))) by simp [execOp, ho], ← Option.some.inj h1]
      simp [run_range_nilMap w t kt el hu]
    | map b =>
      obtain ⟨es, hb, e1⟩ := onMap_ok e
      clear e
      cases e1
      have hfn : φ h.next = none := hf _ (Nat.le_refl _) (by simp [H.new])
      obtain ⟨l, hl, h5⟩ := conc_map h1
      obtain ⟨El, cl, hw, hE⟩ := r.ents hb hl
      have hbn : b ≠ h.next := fun hh => by rw [hh, r.fresh _ (Nat.le_refl _)] at hb; cases hb
      obtain ⟨r', hfr, hx'⟩ := r.alloc hfn (x := .iter (some b)) (o := .mapIter (some l.blk) cl #[] cl) (sl := 0) ⟨l, cl, by rw [Mp.put_other hbn]; exact hl, heap_alloc_new w _⟩
      refine ⟨_, .pointer (some ⟨w.heap.size, 0, none⟩), _, .inl ?_, by rw [conc, Mp.put_self], r', hfr, hx'⟩
      rw [show execOp a.eval o = (do pure (.value (← Instr.range t (a.eval x)))) by simp [execOp, ho], h5]
      simp [run_range_map w t kt el l.blk El cl hu hw]
    | _ => cases e
  · cases e
end
end Go.Proofs.YtjpkfdmjhgnmbaaGreat.Gv
