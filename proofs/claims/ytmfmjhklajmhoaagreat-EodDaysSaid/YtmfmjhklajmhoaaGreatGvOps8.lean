/- Operations, seventh part: making slices, building values. -/
import Derived.Test.YtmfmjhklajmhoaaGreatGvOps6
import Derived.Laws.MakeOwn
import Derived.Laws.Tables
namespace Go.Proofs.YtmfmjhklajmhoaaGreat.Gv
open Go
def repV (us : List Value) : Nat → List Value
 | 0 => []
 | n + 1 => us ++ repV us n
theorem repV_length (us : List Value) : ∀ n, (repV us n).length = n * us.length
 | 0 => by simp [repV]
 | n + 1 => by rw [repV, List.length_append, repV_length us n, Nat.add_mul]; omega
theorem repV_get {us : List Value} : ∀ {n j : Nat}, j < n * us.length → (repV us n)[j]? = us[j % us.length]?
 | 0, j, h => by omega
 | n + 1, j, h => by
   rw [repV]
   by_cases hj : j < us.length
   · rw [List.getElem?_append_left hj, Nat.mod_eq_of_lt hj]
   · rw [List.getElem?_append_right (by omega), repV_get (by rw [Nat.add_mul] at h; omega), ← Nat.mod_eq_sub_mod (by omega)]
theorem repl_succ (z : List V) (n : Nat) : repl z (n + 1) = z ++ repl z n := rfl
theorem repl_length (z : List V) : ∀ n, (repl z n).length = n * z.length
 | 0 => by show ([] : List V).length = _; simp
 | n + 1 => by rw [repl_succ, List.length_append, repl_length z n, Nat.add_mul]; omega
theorem concL_repl {G : Gh} {φ : Mp} {z : List V} {us : List Value} (h : concL G φ z = some us) : ∀ n, concL G φ (repl z n) = some (repV us n)
 | 0 => concL_nil
 | n + 1 => by rw [repl_succ, repV]; exact concL_append h (concL_repl h n)
theorem madeCells_get {z : Array Value} {n j : Nat} (hj : j < n * z.size) : (madeCells z (n * z.size))[j]? = (repV z.toList n)[j]? := by
 rw [repV_get (by simpa using hj)]
 have h0 : 0 < z.size := by
  rcases Nat.eq_zero_or_pos z.size with h | h
  · rw [h] at hj; omega
  · exact h
 have hm : j % z.size < z.size := Nat.mod_lt _ h0
 simp [madeCells, hj, hm]
theorem cells_conc2 {G : Gh} {φ : Mp} {v : V} {u : Value} (h : conc G φ v = some u) (hw : wideO v = false) : concL G φ v.cells = some u.cells.toList := by
 have one : u.cells = #[u] → v.cells = [v] → concL G φ v.cells = some u.cells.toList := by
  intro h1 h2
  rw [h1, h2]
  exact concL_cons.2 ⟨u, [], h, concL_nil, rfl⟩
 cases hv : isCell v with
 | true =>
   refine one (isCell_conc hv h).2 ?_
   cases v <;> first | rfl | cases hv
 | false =>
   cases v with
   | agg l =>
     obtain ⟨m, hm, rfl⟩ := conc_agg h
     simpa [V.cells, Value.cells] using hm
   | tuple l =>
     obtain ⟨m, hm, rfl⟩ := conc_tuple h
     exact one rfl rfl
   | undef => rw [conc] at h; cases h; exact one rfl rfl
   | opq i =>
     have hv : Nat.blt i 1000 = false := hv
     have hw : Nat.ble 1000 i = false := hw
     rw [nblt, decide_eq_false_iff_not] at hv
     rw [nble, decide_eq_false_iff_not] at hw
     omega
   | _ => cases hv
theorem hasCells_ok {v : V} {n : Nat} (h : hasCells v n = true) : wideO v = false ∧ Nat.beq v.cells.length n = true := by
 unfold hasCells at h
 cases hw : wideO v with
 | true => rw [hw] at h; cases h
 | false => rw [hw] at h; exact ⟨rfl, h⟩
theorem absV_narrow {n : Nat} {v : Value} {x : V} (h : absV n v = some x) : wideO x = false := by
 cases n with
 | zero => cases h
 | succ n =>
   unfold absV at h
   split at h <;> first | (cases h; done) | (cases h; rfl) | (split at h <;> first | (cases h; done) | (cases h; rfl))
section
variable {E : Env} {P : Program} {G : Gh} {φ : Mp} {h h' : H} {w : World} {s : Fr} {a : Act} {v : V} {o : Oper}
theorem makeSlice_ok (ok : EnvOk E P G) {t : Nat} {x y : Operand} (ho : o.op = .makeSlice t x y) (hx : okOpn x = true) (hy : okOpn y = true) (T : TRel G φ s a.tmps) (r : HRel G φ h w) (hf : Free φ h.next h'.next)
 (e : (opF E o).v s h = .ok v h') : Did G φ h w v h' ((execOp a.eval o).run P w) := by
 unfold opF at e
 simp only [ho, ok.ty] at e
 have h1 := opn_ok T hx
 have h2 := opn_ok T hy
 split at e
 · rename_i el hk
   have hu := k_slice hk
   cases hz : (mkTI P el).zero with
   | none => rw [hz] at e; cases e
   | some z =>
     obtain ⟨i, zv, hi, hz', habs, hsz, hby⟩ := zero_ok hz
     rw [hz] at e
     simp only [Box.use_v] at e
     obtain ⟨k1, l, hl, e1⟩ := onNat_ok e
     clear e
     obtain ⟨k2, c, hc, e2⟩ := onNat_ok e1
     clear e1
     obtain ⟨hb, e⟩ := bif_ok e2
     clear e2
     simp only [Bool.and_eq_true, nble, decide_eq_true_eq] at hb
     obtain ⟨⟨hb1, hb2⟩, hb3⟩ := hb
     obtain ⟨hcell, hlen, e3⟩ := newRow_ok e
     clear e
     cases e3
     rw [hl, conc] at h1
     rw [hc, conc] at h2
     have g1 := (Option.some.inj h1).symm
     have g2 := (Option.some.inj h2).symm
     have hfn : φ h.next = none := hf _ (Nat.le_refl _) (by simp [H.new])
     have hcv := cells_conc2 (absV_ok G φ 4 _ _ habs) (absV_narrow habs)
     have hrv := concL_repl hcv c
     have hlz := concL_length hcv
     simp only [Array.length_toList] at hlz
     rw [repl_length] at hlen
     have hby2 : (i.bytes : Int) * (c : Int) ≤ 281474976710656 := by
      rw [hby] at hb2
      have h3 : ((c * i.bytes : Nat) : Int) ≤ 70368744177664 := by generalize c * i.bytes = q at hb2 ⊢; omega
      rw [Int.natCast_mul, Int.mul_comm] at h3
      generalize (i.bytes : Int) * (c : Int) = q at h3 ⊢
      omega
     have hrun := run_make (P := P) w t el i zv hu hi hz' k1 k2 (l : Int) (c : Int) (Int.natCast_nonneg _) (by exact_mod_cast hb1) hby2 (by omega)
     simp only [Int.toNat_natCast] at hrun
     have hsize : c * i.size = c * zv.cells.size := by rw [← hsz, ← hlen, hlz]
     rw [hsize] at hrun
     obtain ⟨r', hfr, hx'⟩ := r.newRow hfn (C := madeCells zv.cells (c * zv.cells.size)) (sl := 0) (ex := true) (n := c * (mkTI P el).size) (sz := (mkTI P el).size) el hrv (by rw [size_madeCells, ← hlen, hlz]; omega)
      (fun j hj => madeCells_get (by rw [← hlen, ← hlz] at hj; exact hj)) (fun _ => rfl)
     refine ⟨_, .slice (some ⟨w.heap.size, 0, none⟩) l c, _, .inl ?_, ?_, r', hfr, hx'⟩
     · simp only [execOp, ho, Sem.run_bind]
       rw [g1, g2]
       have : (Int.ofNat l : Int) = (l : Int) := rfl
       rw [show (Value.int k1 (Int.ofNat l)) = Value.int k1 (l : Int) from rfl, show (Value.int k2 (Int.ofNat c)) = Value.int k2 (c : Int) from rfl, hrun]
       rfl
     · rw [conc, Mp.put_self]
       rfl
 · cases e
theorem fillL_nil (i : Nat) (m : List V) : fillL [] i m = (match i, m with | 0, [] => some [] | _, _ => none) := rfl
theorem fillL_zero_nil (c : V) (l : List V) : fillL (c :: l) 0 [] = (match fillL l 0 [] with | some r => some (c :: r) | none => none) := rfl
theorem fillL_zero_cons (c v : V) (l m : List V) : fillL (c :: l) 0 (v :: m) = (match fillL l 0 m with | some r => some (v :: r) | none => none) := rfl
theorem fillL_succ (c : V) (l m : List V) (j : Nat) : fillL (c :: l) (j + 1) m = (match fillL l j m with | some r => some (c :: r) | none => none) := rfl
theorem fillL_ok : ∀ (l : List V) (i : Nat) (m r : List V), fillL l i m = some r → r = l.take i ++ m ++ l.drop (i + m.length) ∧ i + m.length ≤ l.length
 | [], i, m, r, e => by
   rw [fillL_nil] at e
   split at e
   · cases e; simp
   · cases e
 | c :: l, 0, [], r, e => by
   rw [fillL_zero_nil] at e
   cases hr : fillL l 0 [] with
   | none => rw [hr] at e; cases e
   | some r' =>
     rw [hr] at e; cases e
     obtain ⟨h1, h2⟩ := fillL_ok l 0 [] r' hr
     simp at h1
     simp [h1]
 | c :: l, 0, v :: m, r, e => by
   rw [fillL_zero_cons] at e
   cases hr : fillL l 0 m with
   | none => rw [hr] at e; cases e
   | some r' =>
     rw [hr] at e; cases e
     obtain ⟨h1, h2⟩ := fillL_ok l 0 m r' hr
     simp only [Nat.zero_add, List.take_zero, List.nil_append] at h1 h2 ⊢
     refine ⟨by rw [h1]; simp, by simp; omega⟩
 | c :: l, j + 1, m, r, e => by
   rw [fillL_succ] at e
   cases hr : fillL l j m with
   | none => rw [hr] at e; cases e
   | some r' =>
     rw [hr] at e; cases e
     obtain ⟨h1, h2⟩ := fillL_ok l j m r' hr
     refine ⟨?_, by simp; omega⟩
     rw [h1, show j + 1 + m.length = (j + m.length) + 1 by omega]
     simp
theorem foldl_fill (off : Nat) : ∀ (vs : List Value) (k : Nat) (C : Array Value), off + k + vs.length ≤ C.size →
 ((vs.zipIdx k).foldl (fun cs (p : Value × Nat) => cs.setIfInBounds (off + p.2) p.1) C).toList = C.toList.take (off + k) ++ vs ++ C.toList.drop (off + k + vs.length)
 | [], k, C, h => by simp
 | u :: vs, k, C, h => by
   rw [List.zipIdx_cons, List.foldl_cons, foldl_fill off vs (k + 1) _ (by simp at h ⊢; omega)]
   have hk : off + k < C.toList.length := by simp at h ⊢; omega
   simp only [Array.toList_setIfInBounds]
   rw [show off + (k + 1) = (off + k) + 1 by omega]
   rw [List.take_set, List.drop_set_of_lt (by omega)]
   rw [List.take_succ_eq_append_getElem hk, List.set_append_right _ _ (by simp; omega)]
   simp
   have hm : off + k - min (off + k) C.size = 0 := by
    have : off + k < C.size := by simpa using hk
    omega
   rw [hm, show off + k + 1 + vs.length = off + k + (vs.length + 1) by omega]
   rfl
theorem buildL_cons (p : Nat × Nat × V) (ps : List (Nat × Nat × V)) (z : List V) : buildL (p :: ps) z = (bif hasCells p.2.2 p.2.1 then (match fillL z p.1 p.2.2.cells with | some z => buildL ps z | none => none) else none) := rfl
theorem partsF_cons (place : Nat → Option (Nat × Nat)) (p : Nat × Operand) (l : List (Nat × Operand)) : partsF place (p :: l) = (match place p.1, partsF place l with
 | some (o, z), some g => some (g.use fun g => (opn p.2).use fun f => ⟨fun s => (o, z, f s) :: g s⟩)
 | _, _ => none) := rfl
theorem concL_take {l : List V} {m : List Value} (hc : concL G φ l = some m) (n : Nat) : concL G φ (l.take n) = some (m.take n) := by
 have hl := concL_length hc
 refine concL_of_get (by simp [hl]) fun i v hi => ?_
 rw [List.getElem?_take] at hi ⊢
 split at hi
 · rename_i h; rw [if_pos h]; exact concL_get hc i v hi
 · cases hi
theorem concL_drop {l : List V} {m : List Value} (hc : concL G φ l = some m) (n : Nat) : concL G φ (l.drop n) = some (m.drop n) := by
 have hl := concL_length hc
 refine concL_of_get (by simp [hl]) fun i v hi => ?_
 rw [List.getElem?_drop] at hi ⊢
 exact concL_get hc _ v hi
theorem fill_ok {place place' : Nat → Option (Nat × Nat)} (hp : ∀ i p, place' i = some p → place i = some p) (T : TRel G φ s a.tmps) :
 ∀ {l : List (Nat × Operand)} {g : Box (Fr → List (Nat × Nat × V))}, partsF place' l = some g → (∀ p ∈ l, okOpn p.2 = true) →
 ∀ {cs r : List V} {C : Array Value}, concL G φ cs = some C.toList → buildL (g.v s) cs = some r →
 ∃ R, Instr.fill place C (l.map fun p => (p.1, a.eval p.2)) = some R ∧ concL G φ r = some R.toList
 | [], g, e, _, cs, r, C, hc, hb => by
   cases e
   cases hb
   exact ⟨C, rfl, hc⟩
 | p :: l, g, e, hx, cs, r, C, hc, hb => by
   rw [partsF_cons] at e
   cases hpl : place' p.1 with
   | none => rw [hpl] at e; cases e
   | some oz =>
     obtain ⟨off, sz⟩ := oz
     cases hg : partsF place' l with
     | none => rw [hpl, hg] at e; cases e
     | some g' =>
       rw [hpl, hg] at e
       cases e
       simp only [Box.use_v] at hb
       rw [buildL_cons] at hb
       have hv := opn_ok T (hx p (by simp))
       cases hbe0 : hasCells ((opn p.2).v s) sz with
       | false => dsimp only at hb; rw [hbe0] at hb; cases hb
       | true =>
         dsimp only at hb
         rw [hbe0, cond_true] at hb
         obtain ⟨hwo, hbe⟩ := hasCells_ok hbe0
         have hcv := cells_conc2 hv hwo
         have hlv := concL_length hcv
         simp only [Array.length_toList] at hlv
         rw [nbeq, decide_eq_true_eq] at hbe
         cases hfl : fillL cs off ((opn p.2).v s).cells with
         | none => rw [hfl] at hb; cases hb
         | some cs' =>
           rw [hfl] at hb
           obtain ⟨h1, h2⟩ := fillL_ok _ _ _ _ hfl
           have hlc := concL_length hc
           simp only [Array.length_toList] at hlc
           have hfold := foldl_fill off (a.eval p.2).cells.toList 0 C (by simp; omega)
           have hc' : concL G φ cs' = some (((a.eval p.2).cells.toList.zipIdx 0).foldl (fun cs (p : Value × Nat) => cs.setIfInBounds (off + p.2) p.1) C).toList := by
            rw [hfold, h1]
            simp only [Nat.add_zero, Array.length_toList, hlv]
            exact concL_append (concL_append (concL_take hc _) hcv) (concL_drop hc _)
           obtain ⟨R, hR1, hR2⟩ := fill_ok hp T hg (fun q hq => hx q (by simp [hq])) hc' hb
           refine ⟨R, ?_, hR2⟩
           rw [List.map_cons, Instr.fill, hp _ _ hpl]
           dsimp only
           rw [if_neg (by simp; omega)]
           rw [← hR1]
           congr 1
           rw [← Array.foldl_toList]
           simp
theorem places_ok : ∀ (fs : List Field), (∀ f ∈ fs, (mkTI P f.type).has = true) →
 fs.mapM (fun f => (P.info? f.type).map fun i => (f.offset, i.size)) = some (fs.map fun f => (f.offset, (mkTI P f.type).size))
 | [], _ => rfl
 | f :: fs, h => by
   obtain ⟨i, hi, hs, _⟩ := has_ok (h f (by simp))
   rw [List.mapM_cons, places_ok fs (fun g hg => h g (by simp [hg]))]
   simp [hi, hs]
theorem build_ok (ok : EnvOk E P G) {t : Nat} {parts : Array (Nat × Operand)} (ho : o.op = .build t parts) (hx : ∀ p ∈ parts.toList, okOpn p.2 = true) (T : TRel G φ s a.tmps) (r : HRel G φ h w)
 (e : (opF E o).v s h = .ok v h') : Did G φ h w v h' ((execOp a.eval o).run P w) := by
 unfold opF at e
 simp only [ho, ok.ty] at e
 have fin : ∀ (z : V) (zv : Value) (i : TypeInfo) (place place' : Nat → Option (Nat × Nat)), P.info? t = some i → i.zero = some zv → absV 4 zv = some z → (∀ i p, place' i = some p → place i = some p) →
  (∀ R, Instr.fill place zv.cells (parts.map fun (i, x) => (i, a.eval x)).toList = some R → P.built t (parts.map fun (i, x) => (i, a.eval x)).toList = some R) →
  (buildF t z (partsF place' parts.toList)).v s h = .ok v h' → Did G φ h w v h' ((execOp a.eval o).run P w) := by
  intro z zv i place place' hi hz habs hp hR e
  cases hg : partsF place' parts.toList with
  | none => rw [hg] at e; cases e
  | some g =>
    rw [hg] at e
    unfold buildF at e
    simp only [Box.use_v] at e
    obtain ⟨rr, hb, e1⟩ := onSome_ok e
    clear e
    cases e1
    obtain ⟨R, hR1, hR2⟩ := fill_ok hp T hg hx (cells_conc2 (absV_ok G φ 4 _ _ habs) (absV_narrow habs)) hb
    have hR1' : Instr.fill place zv.cells (parts.map fun (i, x) => (i, a.eval x)).toList = some R := by
     rw [← hR1]; simp
    refine ⟨φ, .agg R, w, .inl ?_, by rw [conc, hR2], r, Frame.refl _ _ _ _, Ext.refl _ _ _⟩
    have := run_build w t _ _ (hR R hR1')
    simp [execOp, ho, this]
 split at e
 · rename_i z fs hz hk
   obtain ⟨i, zv, hi, hz', habs, _, _⟩ := zero_ok hz
   obtain ⟨A, hu, hfs⟩ := k_struct hk
   cases hall : (fs.all fun f => (mkTI P f.2).has) with
   | false => rw [hall] at e; cases e
   | true =>
     rw [hall, Bool.not_true, cond_false] at e
     have hA : ∀ f ∈ A.toList, (mkTI P f.type).has = true := by
      intro f hf
      have := List.all_eq_true.1 hall (f.offset, f.type) (by rw [hfs]; exact List.mem_map.2 ⟨f, hf, rfl⟩)
      exact this
     refine fin z zv i (((A.toList.map fun f => (f.offset, (mkTI P f.type).size)).toArray)[·]?) _ hi hz' habs ?_ ?_ e
     · intro j p hj
       rw [hfs] at hj
       simp only [List.getElem?_map] at hj
       simp only [List.getElem?_toArray, List.getElem?_map]
       cases hg : A.toList[j]? with
       | none => rw [hg] at hj; cases hj
       | some f =>
         rw [hg] at hj
         simp only [Option.map_some] at hj ⊢
         rw [hA f (List.mem_of_getElem? hg)] at hj
         exact hj
     · intro R hR
       unfold Program.built
       rw [hi, hu]
       dsimp only
       rw [hz', places_ok A.toList hA]
       exact hR
 · rename_i z n el hz hk
   obtain ⟨i, zv, hi, hz', habs, _, _⟩ := zero_ok hz
   have hu := k_array hk
   cases hh : (mkTI P el).has with
   | false => rw [hh] at e; cases e
   | true =>
     rw [hh, Bool.not_true, cond_false] at e
     obtain ⟨ie, hie, hsz, _⟩ := has_ok hh
     refine fin z zv i (fun j => some (j * ie.size, ie.size)) _ hi hz' habs ?_ ?_ e
     · intro j p hj; rw [← hsz]; exact hj
     · intro R hR
       unfold Program.built
       rw [hi, hu]
       dsimp only
       rw [hz', hie]
       exact hR
 · cases e
theorem buildL_length : ∀ (ps : List (Nat × Nat × V)) (z r : List V), buildL ps z = some r → r.length = z.length
 | [], z, r, e => by cases e; rfl
 | p :: ps, z, r, e => by
   rw [buildL_cons] at e
   cases hb : hasCells p.2.2 p.2.1 with
   | false => rw [hb] at e; cases e
   | true =>
     rw [hb, cond_true] at e
     cases hf : fillL z p.1 p.2.2.cells with
     | none => rw [hf] at e; cases e
     | some z' =>
       rw [hf] at e
       obtain ⟨h1, h2⟩ := fillL_ok _ _ _ _ hf
       rw [buildL_length ps z' r e, h1]
       simp
       omega
theorem buildSlice_ok (ok : EnvOk E P G) {t n : Nat} {parts : Array (Nat × Operand)} (ho : o.op = .buildSlice t n parts) (hx : ∀ p ∈ parts.toList, okOpn p.2 = true) (T : TRel G φ s a.tmps) (r : HRel G φ h w) (hf : Free φ h.next h'.next)
 (e : (opF E o).v s h = .ok v h') : Did G φ h w v h' ((execOp a.eval o).run P w) := by
 unfold opF at e
 simp only [ho, ok.ty] at e
 split at e
 · rename_i el hk
   have hu := k_slice hk
   split at e
   · rename_i z g hz hg
     obtain ⟨i, zv, hi, hz', habs, hsz, _⟩ := zero_ok hz
     simp only [Box.use_v] at e
     obtain ⟨hb, e1⟩ := bif_ok e
     clear e
     rw [nble, decide_eq_true_eq] at hb
     obtain ⟨rr, hbl, e2⟩ := onSome_ok e1
     clear e1
     obtain ⟨hcell, hlen, e3⟩ := newRow_ok e2
     clear e2
     cases e3
     have hfn : φ h.next = none := hf _ (Nat.le_refl _) (by simp [H.new])
     have hcv := cells_conc2 (absV_ok G φ 4 _ _ habs) (absV_narrow habs)
     have hlz := concL_length hcv
     simp only [Array.length_toList] at hlz
     have hrl := buildL_length _ _ _ hbl
     rw [hlen, repl_length, ← hlz, hsz] at hrl
     have hC : concL G φ (repl z.cells n) = some (madeCells zv.cells (n * i.size)).toList := by
      rw [concL_repl hcv n]
      congr 1
      rw [hrl]
      apply List.ext_getElem?
      intro j
      by_cases hj : j < n * zv.cells.size
      · rw [← madeCells_get hj]; simp
      · rw [List.getElem?_eq_none (by rw [repV_length]; simpa using hj), List.getElem?_eq_none (by simp [size_madeCells]; omega)]
     obtain ⟨R, hR1, hR2⟩ := fill_ok (place := fun j => some (j * i.size, i.size)) (fun j p hj => by rw [← hsz]; exact hj) T hg hx hC hbl
     have hRl := concL_length hR2
     simp only [Array.length_toList] at hRl
     obtain ⟨r', hfr, hx'⟩ := r.newRow hfn (C := R) (sl := 0) (ex := true) (n := n * (mkTI P el).size) (sz := (mkTI P el).size) el hR2 (by omega) (fun j _ => by simp) (fun _ => rfl)
     refine ⟨_, .slice (some ⟨w.heap.size, 0, none⟩) n n, _, .inl ?_, by rw [conc, Mp.put_self]; rfl, r', hfr, hx'⟩
     have hparts : (parts.map fun (x : Nat × Operand) => (x.1, a.eval x.2)).toList = parts.toList.map fun p => (p.1, a.eval p.2) := by simp
     rw [hsz] at hb
     have hb' : ¬ (16777216 < n * i.size) := by omega
     rw [← hparts] at hR1
     by_cases h0 : n * i.size = 0
     · have hR1' : Instr.fill (fun j => some (j * i.size, i.size)) #[] (parts.map fun (x : Nat × Operand) => (x.1, a.eval x.2)).toList = some R := by
        rw [← hR1, h0, show madeCells zv.cells 0 = #[] from by simp [madeCells, Array.range_zero']]
       simp [execOp, ho, Instr.buildSlice, run_underlying hu, sizeOf, typeInfo, hi, h0, Array.range_zero']
       simp at hR1'
       simp [hR1', Go.newRow]
     · have hR1' : Instr.fill (fun j => some (j * i.size, i.size)) ((Array.range (n * i.size)).map (zv.cells[· % zv.cells.size]!)) (parts.map fun (x : Nat × Operand) => (x.1, a.eval x.2)).toList = some R := by
        rw [← hR1]; rfl
       simp [execOp, ho, Instr.buildSlice, run_underlying hu, sizeOf, typeInfo, hi, h0, hb', zeroValue, hz']
       simp at hR1'
       simp [hR1', Go.newRow]
   · cases e
 · cases e
end
end Go.Proofs.YtmfmjhklajmhoaaGreat.Gv
namespace Go.Proofs.YtmfmjhklajmhoaaGreat.Gv
open Go
section
variable {E : Env} {P : Program} {G : Gh} {φ : Mp} {h h' : H} {w : World} {s : Fr} {a : Act} {v : V} {o : Oper}
def KeyOk (P : Program) (G : Gh) (q : Eqs) (n t : Nat) : Prop :=
 ∀ (φ : Mp) (w : World) (x : V) (ux : Value) (d : Nat) (em : Bool), n ≤ d → q x x = some true → conc G φ x = some ux → (Instr.checkKey em d t ux).run P w = .ok () w
theorem eqFs_cons (E : Env) (q : Nat → Option (Box Eqs)) (f : Nat × Nat) (fs : List (Nat × Nat)) : eqFs E q (f :: fs) = (match q f.2, eqFs E q fs with
 | some q, some r => some (q.use fun q => r.use fun r => (partV (E.tyOf f.2) f.1).use fun p => ⟨fun l m => match p l, p m with
   | some a, some b => (match q a b with | some true => r l m | z => z)
   | _, _ => none⟩)
 | _, _ => none) := rfl
theorem keyFs_ok (ok : EnvOk E P G) {q : Nat → Option (Box Eqs)} {n : Nat} (hq : ∀ t r, q t = some r → KeyOk P G r.v n t ∧ (mkTI P t).has = true) :
 ∀ (fs : List (Nat × Nat)) (r : Box (List V → List V → Option Bool)), eqFs E q fs = some r → ∀ (φ : Mp) (l : List V) (ul : List Value), r.v l l = some true →
  concL G φ l = some ul → ∀ f ∈ fs, ∀ (w : World) (d : Nat) (em : Bool), n ≤ d → ∃ u, (part f.2 ul.toArray f.1).run P w = .ok u w ∧ (Instr.checkKey em d f.2 u).run P w = .ok () w
 | [], r, e, φ, l, ul, er, hl, f, hf => by cases hf
 | (off, t) :: fs, r, e, φ, l, ul, er, hl, f, hf => by
   intro w d em hd
   rw [eqFs_cons] at e
   cases h1 : q t with
   | none => rw [h1] at e; cases e
   | some q1 =>
     cases h2 : eqFs E q fs with
     | none => rw [h1, h2] at e; cases e
     | some r1 =>
       rw [h1, h2] at e
       cases e
       obtain ⟨hq1, hhas⟩ := hq _ _ h1
       simp only [Box.use_v, ok.ty] at er
       cases p1 : (partV (mkTI P t) off).v l with
       | none => rw [p1] at er; cases er
       | some x =>
         rw [p1] at er
         dsimp only at er
         cases hxy : q1.v x x with
         | none => rw [hxy] at er; cases er
         | some c =>
           rw [hxy] at er
           cases c with
           | false => cases er
           | true =>
             cases hf with
             | head =>
               obtain ⟨ux, rx, cx⟩ := partV_ok (w := w) (has_und hhas) hhas hl p1
               exact ⟨ux, rx, hq1 φ w x ux d em hd hxy cx⟩
             | tail _ hf => exact keyFs_ok ok hq fs r1 h2 φ l ul er hl f hf w d em hd
theorem forIn_same {α : Type} {P : Program} {w : World} (g : α → PUnit → Sem (ForInStep PUnit)) : ∀ (l : List α), (∀ x ∈ l, (g x PUnit.unit).run P w = .ok (ForInStep.yield PUnit.unit) w) →
 (forIn l PUnit.unit g).run P w = .ok PUnit.unit w
 | [], _ => rfl
 | x :: l, h => by
   simp only [List.forIn_cons, Sem.run_bind, h x (by simp), Result.andThen_ok]
   exact forIn_same g l (fun y hy => h y (by simp [hy]))
theorem key_ok (ok : EnvOk E P G) : ∀ (n t : Nat) (q : Box Eqs), eqTy E n t = some q → KeyOk P G q.v n t ∧ (mkTI P t).has = true
 | 0, t, q, e => by cases e
 | n + 1, t, q, e => by
   refine ⟨?_, (eqTy_ok ok (n + 1) t q e).2⟩
   intro φ w x ux d em hd hq hx
   obtain ⟨d, rfl⟩ : ∃ k, d = k + 1 := ⟨d - 1, by omega⟩
   rw [eqTy_succ, ok.ty] at e
   split at e
   · rename_i hk
     have hu := k_bool hk
     simp [Instr.checkKey, run_underlying hu]
   · rename_i k hk
     have hu := k_int hk
     simp [Instr.checkKey, run_underlying hu]
   · rename_i hk
     have hu := k_string hk
     simp [Instr.checkKey, run_underlying hu]
   · rename_i fs hk
     obtain ⟨fa, hu, hfs⟩ := k_struct hk
     cases hc : (mkTI P t).cmp with
     | false => rw [hc] at e; cases e
     | true =>
       rw [hc, cond_true] at e
       obtain ⟨r, l, m, hr, rfl, hm, hb⟩ := aggE_ok e hq
       cases hm
       obtain ⟨ul, hl, rfl⟩ := conc_agg hx
       have key := keyFs_ok ok (n := n) (fun u z hz => key_ok ok n u z hz) fs r hr φ l ul hb hl
       simp only [Instr.checkKey, run_underlying hu, Sem.run_bind, Result.andThen_ok]
       rw [← Array.forIn_toList, forIn_same _ fa.toList (by
        intro f hf
        obtain ⟨u, h1, h2⟩ := key (f.offset, f.type) (by rw [hfs]; exact List.mem_map.2 ⟨f, hf, rfl⟩) w d em (by omega)
        by_cases hn : f.name ≠ "_"
        · simp [hn, h1, h2]
        · simp [hn])]
       rfl
   · rename_i m e' hk
     have hu := k_array hk
     rw [ok.ty] at e
     cases hh : (mkTI P e').has with
     | false => rw [hh] at e; cases e
     | true =>
       rw [hh, Bool.not_true, cond_false] at e
       obtain ⟨r, l, k, hr, rfl, hm, hb⟩ := aggE_ok e hq
       cases hm
       obtain ⟨ul, hl, rfl⟩ := conc_agg hx
       obtain ⟨i, hi, hsz, _⟩ := has_ok hh
       have key := keyFs_ok ok (n := n) (fun u z hz => key_ok ok n u z hz) _ r hr φ l ul hb hl
       simp only [Instr.checkKey, run_underlying hu, Sem.run_bind, Result.andThen_ok]
       rw [Std.Legacy.Range.forIn_eq_forIn_range']
       have hrg : List.range' [:m].start [:m].size [:m].step = List.range m := by
        rw [List.range_eq_range']; simp [Std.Legacy.Range.size]
       rw [hrg, forIn_same _ (List.range m) (by
        intro j hj
        obtain ⟨u, h1, h2⟩ := key (j * (mkTI P e').size, e') (List.mem_map.2 ⟨j, hj, rfl⟩) w d em (by omega)
        rw [hsz] at h1
        simp [sizeOf, typeInfo, hi, h1, h2])]
       rfl
   · cases e
theorem okKey_ok {q : Eqs} {k : V} {x : RV} (e : okKey q k x = .ok v h') : q k k = some true ∧ x = .ok v h' := by
 unfold okKey at e
 split at e
 · rename_i hq; exact ⟨hq, e⟩
 · cases e
theorem idxK_cons (q : Eqs) (k : V) (e : V × V) (t : List (V × V)) : idxK q k (e :: t) = (match q k e.1 with
 | some true => some (some 0)
 | some false => (match idxK q k t with | some o => some (o.map (· + 1)) | none => none)
 | none => none) := by
 show (match q k e.1 with
  | some true => some (some 0)
  | some false => (match idxK q k t with | some (some i) => some (some (i + 1)) | some none => some none | none => none)
  | none => none) = _
 cases q k e.1 with
 | none => rfl
 | some c =>
   cases c with
   | true => rfl
   | false => rcases idxK q k t with _ | _ | _ <;> rfl
theorem findK_cons (q : Eqs) (k : V) (e : V × V) (t : List (V × V)) : findK q k (e :: t) = (match q k e.1 with
 | some true => some (some e.2)
 | some false => findK q k t
 | none => none) := rfl
theorem putK_cons (nl : List NL) (q : Eqs) (k v : V) (e : V × V) (t : List (V × V)) : putK nl q k v (e :: t) = (match q k e.1 with
 | some true => bif sameKey nl k e.1 then some ((k, v) :: t) else none
 | some false => (match putK nl q k v t with | some r => some (e :: r) | none => none)
 | none => none) := rfl
theorem delK_cons (q : Eqs) (k : V) (e : V × V) (t : List (V × V)) : delK q k (e :: t) = (match q k e.1 with
 | some true => some t
 | some false => (match delK q k t with | some r => some (e :: r) | none => none)
 | none => none) := rfl
theorem findK_idx {q : Eqs} {k : V} : ∀ {l : List (V × V)} {r : Option V}, findK q k l = some r → ∃ i, idxK q k l = some i ∧ (match i with | some i => ∃ e, l[i]? = some e ∧ r = some e.2 | none => r = none)
 | [], r, e => by cases e; exact ⟨none, rfl, rfl⟩
 | x :: t, r, e => by
   rw [findK_cons] at e
   rw [idxK_cons]
   cases hq : q k x.1 with
   | none => rw [hq] at e; cases e
   | some c =>
     rw [hq] at e
     cases c with
     | true => cases e; exact ⟨some 0, rfl, x, rfl, rfl⟩
     | false =>
       obtain ⟨i, hi, hr⟩ := findK_idx e
       dsimp only
       rw [hi]
       refine ⟨_, rfl, ?_⟩
       cases i with
       | none => exact hr
       | some i => obtain ⟨y, h1, h2⟩ := hr; exact ⟨y, by simpa using h1, h2⟩
theorem putK_idx {nl : List NL} {q : Eqs} {k v : V} : ∀ {l r : List (V × V)}, putK nl q k v l = some r → ∃ i, idxK q k l = some i ∧
 (match i with | some i => r = l.set i (k, v) ∧ ∃ e, l[i]? = some e ∧ sameKey nl k e.1 = true | none => r = l ++ [(k, v)])
 | [], r, e => by cases e; exact ⟨none, rfl, rfl⟩
 | x :: t, r, e => by
   rw [putK_cons] at e
   rw [idxK_cons]
   cases hq : q k x.1 with
   | none => rw [hq] at e; cases e
   | some c =>
     rw [hq] at e
     cases c with
     | true =>
       dsimp only at e
       cases hs : sameKey nl k x.1 with
       | false => rw [hs] at e; cases e
       | true => rw [hs] at e; cases e; exact ⟨some 0, rfl, rfl, x, rfl, hs⟩
     | false =>
       dsimp only at e
       cases hp : putK nl q k v t with
       | none => rw [hp] at e; cases e
       | some r' =>
         rw [hp] at e
         cases e
         obtain ⟨i, hi, hr⟩ := putK_idx hp
         dsimp only
         rw [hi]
         refine ⟨_, rfl, ?_⟩
         cases i with
         | none => show x :: r' = x :: t ++ [(k, v)]; rw [hr]; rfl
         | some i => obtain ⟨h1, y, h2, h3⟩ := hr; exact ⟨by rw [h1]; rfl, y, by simpa using h2, h3⟩
theorem delK_idx {q : Eqs} {k : V} : ∀ {l r : List (V × V)}, delK q k l = some r → ∃ i, idxK q k l = some i ∧
 (match i with | some i => r = l.eraseIdx i ∧ i < l.length | none => r = l)
 | [], r, e => by cases e; exact ⟨none, rfl, rfl⟩
 | x :: t, r, e => by
   rw [delK_cons] at e
   rw [idxK_cons]
   cases hq : q k x.1 with
   | none => rw [hq] at e; cases e
   | some c =>
     rw [hq] at e
     cases c with
     | true => cases e; exact ⟨some 0, rfl, rfl, by simp⟩
     | false =>
       dsimp only at e
       cases hp : delK q k t with
       | none => rw [hp] at e; cases e
       | some r' =>
         rw [hp] at e
         cases e
         obtain ⟨i, hi, hr⟩ := delK_idx hp
         dsimp only
         rw [hi]
         refine ⟨_, rfl, ?_⟩
         cases i with
         | none => show x :: r' = x :: t; rw [hr]
         | some i => obtain ⟨h1, h2⟩ := hr; exact ⟨by rw [h1]; rfl, by simp; omega⟩
theorem sameNow_ok {t : Nat} {d : TypeDesc} {x y : Value} {b : Bool} (hd : P.underlying t = some d) (e : Instr.sameNow d x y = some b) : (Op.equal t x y).run P w = .ok b w := by
 unfold Instr.sameNow at e
 split at e
 · split at e
   · rename_i hk
     subst hk
     cases e
     exact run_equalIn_int w 9999 t _ _ _ _ hd
   · cases e
 · cases e
   rw [beq_toListBytes]
   exact run_equalIn_string w 9999 t _ _ hd
 · cases e
   exact run_equalIn_bool' w 9999 t _ _ hd
 · cases e
def Ents (G : Gh) (φ : Mp) (es : List (V × V)) (El : List MapEntry) : Prop :=
 El.length = es.length ∧ ∀ (i : Nat) (k v : V), es[i]? = some (k, v) → ∃ e : MapEntry, El[i]? = some e ∧ conc G φ k = some e.key ∧ conc G φ v = some e.val
theorem Ents.tail {es : List (V × V)} {El : List MapEntry} {p : V × V} {e : MapEntry} (h : Ents G φ (p :: es) (e :: El)) : Ents G φ es El :=
 ⟨by simpa using h.1, fun i k v hi => by simpa using h.2 (i + 1) k v (by simpa using hi)⟩
def foundAt (El : List MapEntry) (j : Nat) (o : Option Nat) : Option (Nat × Value) := match o with | some i => (El[i]?).map fun e => (j + i, e.val) | none => none
theorem findAsking_ok (ok : EnvOk E P G) {t : Nat} {q : Box Eqs} (hq : eqTy E 8 t = some q) {k : V} {uk : Value} (hk : conc G φ k = some uk) :
 ∀ (es : List (V × V)) (El : List MapEntry) (j : Nat) (o : Option Nat), idxK q.v k es = some o → Ents G φ es El →
  (Instr.findAsking t uk El j).run P w = .ok (foundAt El j o) w
 | [], El, j, o, e, hE => by
   cases e
   have : El = [] := List.eq_nil_of_length_eq_zero (by simpa using hE.1)
   subst this
   rfl
 | p :: es, [], j, o, e, hE => by have := hE.1; simp at this
 | p :: es, x :: El, j, o, e, hE => by
   obtain ⟨e', he', hkey, hval⟩ := hE.2 0 p.1 p.2 (by simp)
   simp at he'
   subst he'
   rw [idxK_cons] at e
   cases hc : q.v k p.1 with
   | none => rw [hc] at e; cases e
   | some c =>
     rw [hc] at e
     have hrun := (eqTy_ok ok 8 t q hq).1 φ w k p.1 uk x.key c 10000 (by omega) hc hk hkey
     have hrun' : (Op.equal t uk x.key).run P w = .ok c w := hrun
     cases c with
     | true => cases e; simp [Instr.findAsking, hrun', foundAt]
     | false =>
       dsimp only at e
       cases hi : idxK q.v k es with
       | none => rw [hi] at e; cases e
       | some o' =>
         rw [hi] at e
         cases e
         have ih := findAsking_ok ok hq hk es El (j + 1) o' hi hE.tail
         simp only [Instr.findAsking, Sem.run_bind, hrun', Result.andThen_ok, Bool.false_eq_true, if_false, ih]
         cases o' with
         | none => rfl
         | some i => simp [foundAt, Nat.add_assoc, Nat.add_comm 1 i]
theorem findNow_ok (ok : EnvOk E P G) {t : Nat} {d : TypeDesc} (hd : P.underlying t = some d) {uk : Value} : ∀ (El : List MapEntry) (j : Nat) (r : Option (Nat × Value)), Instr.findNow d uk El j = some r →
 (Instr.findAsking t uk El j).run P w = .ok r w
 | [], j, r, e => by cases e; rfl
 | x :: El, j, r, e => by
   unfold Instr.findNow at e
   split at e
   · rename_i hs
     cases e
     simp [Instr.findAsking, sameNow_ok (w := w) hd hs]
   · rename_i hs
     simp only [Instr.findAsking, Sem.run_bind, sameNow_ok (w := w) hd hs, Result.andThen_ok, Bool.false_eq_true, if_false]
     exact findNow_ok ok hd El (j + 1) r e
   · cases e
theorem findKey_ok (ok : EnvOk E P G) {t : Nat} {q : Box Eqs} (hq : eqTy E 8 t = some q) {k : V} {uk : Value} (hk : conc G φ k = some uk)
 {es : List (V × V)} {El : List MapEntry} {o : Option Nat} (e : idxK q.v k es = some o) (hE : Ents G φ es El) :
 (Instr.findKey t uk El).run P w = .ok (foundAt El 0 o) w := by
 obtain ⟨d, hd⟩ := has_und (eqTy_ok ok 8 t q hq).2
 have h1 := findAsking_ok (w := w) ok hq hk es El 0 o e hE
 unfold Instr.findKey
 simp only [Sem.run_bind, run_underlying hd, Result.andThen_ok]
 split
 · rename_i r hr
   have h2 := findNow_ok (w := w) ok hd El 0 r hr
   rw [h1] at h2
   exact h2.symm
 · exact h1
theorem HRel.ents2 (r : HRel G φ h w) {b : Nat} {es : List (V × V)} {bs : List Nat} {clk : Nat} {l : Loc} (hb : h.t.get b = some (.map es bs clk)) (hl : φ b = some l) :
 ∃ (El : Array MapEntry), w.heap[l.blk]? = some (.map El clk) ∧ Ents G φ es El.toList ∧ Born El.toList clk ∧ El.toList.map (·.born) = bs := by
 obtain ⟨El, h1, hB, h2, h3⟩ := r.blk b _ l hb hl
 exact ⟨El, h1, ⟨by simpa using h2, fun i k v hi => by simpa using h3 i k v hi⟩, hB⟩
theorem HRel.ents (r : HRel G φ h w) {b : Nat} {es : List (V × V)} {bs : List Nat} {clk : Nat} {l : Loc} (hb : h.t.get b = some (.map es bs clk)) (hl : φ b = some l) :
 ∃ (El : Array MapEntry) (c : Nat), w.heap[l.blk]? = some (.map El c) ∧ Ents G φ es El.toList := by
 obtain ⟨El, h1, h2, _⟩ := r.ents2 hb hl
 exact ⟨El, clk, h1, h2⟩
theorem Ents.val {es : List (V × V)} {El : List MapEntry} (hE : Ents G φ es El) {i : Nat} {p : V × V} (hp : es[i]? = some p) :
 ∃ e : MapEntry, El[i]? = some e ∧ conc G φ p.1 = some e.key ∧ conc G φ p.2 = some e.val := hE.2 i p.1 p.2 hp
theorem getObj_at {b cl : Nat} {Es : Array MapEntry} (hb : w.heap[b]? = some (.map Es cl)) : (getObj b).run P w = .ok (.map Es cl) w := by simp [getObj, Sem.run, hb]
theorem getObj_iter {b c d : Nat} {m : Option Nat} {Es : Array Nat} (hb : w.heap[b]? = some (.mapIter m c Es d)) : (getObj b).run P w = .ok (.mapIter m c Es d) w := by simp [getObj, Sem.run, hb]
theorem setObj_map {b cl : Nat} {Es : Array MapEntry} (y : Obj) (hb : w.heap[b]? = some (.map Es cl)) : (setObj b y).run P w = .ok () { w with heap := w.heap.setIfInBounds b y } := by simp [setObj, Sem.run, hb]
def gotOf (c : Bool) (zv : Value) (found : Option (Nat × Value)) : Value := match found with | some p => (if c then .tuple #[p.2, .bool true] else p.2) | none => (if c then .tuple #[zv, .bool false] else zv)
def gotV (c : Bool) (z : V) (rv : Option V) : V := match c with | true => (match rv with | some v => V.tuple [v, .bool true] | none => .tuple [z, .bool false]) | false => (match rv with | some v => v | none => z)
theorem run_lookup_at {t kt el : Nat} (hu : P.underlying t = some (.map kt el)) {Es : Array MapEntry} {x uk zv : Value} {c : Bool} {found : Option (Nat × Value)}
 (hx : (x = .map none ∧ Es = #[]) ∨ ∃ b cl, x = .map (some b) ∧ w.heap[b]? = some (.map Es cl)) (hck : ∀ em, (Instr.checkKey em 10000 kt uk).run P w = .ok () w)
 (hf : (Instr.findKey kt uk Es.toList).run P w = .ok found w) (hz : (zeroValue el).run P w = .ok zv w) :
 (Instr.lookup t x uk c).run P w = .ok (gotOf c zv found) w := by
 rcases hx with ⟨rfl, rfl⟩ | ⟨b, cl, rfl, hb⟩
 · cases found <;> simp_all [Instr.lookup, run_underlying hu, gotOf]
 · cases found <;> simp [Instr.lookup, run_underlying hu, getObj_at hb, hck, hf, hz, gotOf]
theorem lookup_ok (ok : EnvOk E P G) {t : Nat} {x k : Operand} {c : Bool} (ho : o.op = .lookup t x k c) (hx : okOpn x = true) (hk : okOpn k = true) (T : TRel G φ s a.tmps) (r : HRel G φ h w)
 (e : (opF E o).v s h = .ok v h') : h' = h ∧ ∃ u, (execOp a.eval o).run P w = .ok (.value u) w ∧ conc G φ v = some u := by
 unfold opF at e
 simp only [ho, Box.use_v] at e
 have h1 := opn_ok T hx
 have h2 := opn_ok T hk
 unfold lookF at e
 simp only [ok.ty] at e
 split at e
 · rename_i kt el hm
   have hu := k_map hm
   split at e
   · rename_i z q hz hq
     cases hfl : (mkTI P kt).flat with
     | false => rw [hfl] at e; cases e
     | true =>
       rw [hfl, Bool.not_true, cond_false] at e
       obtain ⟨i, zv, hi, hz', habs, _, _⟩ := zero_ok hz
       have hzc : conc G φ z = some zv := absV_ok G φ 4 _ _ habs
       have hzrun : (zeroValue el).run P w = .ok zv w := by simp [zeroValue, typeInfo, hi, hz']
       have hbl : ∀ b : Bool, conc G φ (.bool b) = some (.bool b) := fun b => by rw [conc]
       have fin : ∀ (Es : Array MapEntry) (es : List (V × V)) (rv : Option V), ((a.eval x = .map none ∧ Es = #[]) ∨ ∃ b cl, a.eval x = .map (some b) ∧ w.heap[b]? = some (.map Es cl)) →
        q.v ((opn k).v s) ((opn k).v s) = some true → Ents G φ es Es.toList → findK q.v ((opn k).v s) es = some rv →
        v = gotV c z rv →
        ∃ u, (execOp a.eval o).run P w = .ok (.value u) w ∧ conc G φ v = some u := by
        intro Es es rv hmap hkk hE hfind hv
        obtain ⟨ix, hix, hrv⟩ := findK_idx hfind
        have hfk := findKey_ok (w := w) ok hq h2 hix hE
        have hck : ∀ em, (Instr.checkKey em 10000 kt (a.eval k)).run P w = .ok () w := fun em => (key_ok ok 8 kt q hq).1 φ w _ _ 10000 em (by omega) hkk h2
        have hrun := run_lookup_at (c := c) hu hmap hck hfk hzrun
        cases ix with
        | none =>
          dsimp only at hrv
          subst hrv
          refine ⟨_, by simp only [execOp, ho, Sem.run_bind, hrun, Result.andThen_ok]; rfl, ?_⟩
          rw [hv]
          cases c
          · exact hzc
          · show conc G φ (.tuple [z, .bool false]) = _
            rw [conc, concL_cons.2 ⟨_, _, hzc, concL_cons.2 ⟨_, _, hbl false, concL_nil, rfl⟩, rfl⟩]
            rfl
        | some j =>
          obtain ⟨p, hp, rfl⟩ := hrv
          obtain ⟨en, hen, _, hval⟩ := hE.val hp
          have hfa : foundAt Es.toList 0 (some j) = some (0 + j, en.val) := by simp only [foundAt, hen, Option.map_some]
          rw [hfa] at hrun
          refine ⟨_, by simp only [execOp, ho, Sem.run_bind, hrun, Result.andThen_ok]; rfl, ?_⟩
          rw [hv]
          cases c
          · exact hval
          · show conc G φ (.tuple [p.2, .bool true]) = _
            rw [conc, concL_cons.2 ⟨_, _, hval, concL_cons.2 ⟨_, _, hbl true, concL_nil, rfl⟩, rfl⟩]
            rfl
       have hres : ∀ (rv : Option V), RV.ok ((match c with | true => Box.mk (fun (o : Option V) => (match o with | some v => V.tuple [v, .bool true] | none => .tuple [z, .bool false])) | false => Box.mk (fun o => (match o with | some v => v | none => z))).v rv) h = .ok v h' →
        h' = h ∧ v = gotV c z rv := by
        intro rv hh
        cases c <;> · cases hh; exact ⟨rfl, rfl⟩
       simp only [Box.use_v] at e
       generalize hy : (opn x).v s = y at e h1
       cases y with
       | nilmap =>
         obtain ⟨hkk, e1⟩ := okKey_ok e
         clear e
         rw [conc] at h1
         obtain ⟨h3, h4⟩ := hres _ e1
         exact ⟨h3, fin #[] [] none (.inl ⟨(Option.some.inj h1).symm, rfl⟩) hkk ⟨rfl, fun i k v hi => by simp at hi⟩ rfl h4⟩
       | map b =>
         obtain ⟨es, bs, clk, hb, e1⟩ := onMap_ok e
         clear e
         obtain ⟨hkk, e2⟩ := okKey_ok e1
         clear e1
         obtain ⟨rv, hfind, e3⟩ := onSome_ok e2
         clear e2
         obtain ⟨l, hl, h5⟩ := conc_map h1
         obtain ⟨El, cl, hw, hE⟩ := r.ents hb hl
         obtain ⟨h3, h4⟩ := hres _ e3
         exact ⟨h3, fin El es rv (.inr ⟨l.blk, cl, h5, hw⟩) hkk hE hfind h4⟩
       | _ => cases e
   · cases e
 · cases e
end
end Go.Proofs.YtmfmjhklajmhoaaGreat.Gv
