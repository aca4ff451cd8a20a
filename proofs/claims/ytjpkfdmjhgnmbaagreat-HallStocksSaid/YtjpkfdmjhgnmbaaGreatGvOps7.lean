/- Operations, seventh part: making slices, building values. -/
import Derived.Test.YtjpkfdmjhgnmbaaGreatGvOps6
import Derived.Laws.MakeOwn
import Derived.Laws.Tables
namespace Go.Proofs.YtjpkfdmjhgnmbaaGreat.Gv
open Go

def repV (us : List Value) : Nat → List Value
  | 0 => []
  | n + 1 => us ++ repV us n
theorem repV_length (us : List Value) : ∀ n, (repV us n).length = n * us.length
  | 0 => by simp [repV]
  | n + 1 => by rw [repV, List.length_append, repV_length us n, Nat.add_mul]; omega
theorem repV_get {us : List Value} : ∀ {n j : Nat}, j < n * us.length → (repV us n)[j]? = us[j % us.length]?
  | 0, j, h => by omega
  | n + 1, j, h => by
    rw [repV]
    by_cases hj : j < us.length
    · rw [List.getElem?_append_left hj, Nat.mod_eq_of_lt hj]
    · rw [List.getElem?_append_right (by omega), repV_get (by rw [Nat.add_mul] at h; omega), ← Nat.mod_eq_sub_mod (by omega)]
theorem repl_succ (z : List V) (n : Nat) : repl z (n + 1) = z ++ repl z n := rfl
theorem repl_length (z : List V) : ∀ n, (repl z n).length = n * z.length
  | 0 => by show ([] : List V).length = _; simp
  | n + 1 => by rw [repl_succ, List.length_append, repl_length z n, Nat.add_mul]; omega
theorem concL_repl {G : Gh} {φ : Mp} {z : List V} {us : List Value} (h : concL G φ z = some us) : ∀ n, concL G φ (repl z n) = some (repV us n)
  | 0 => concL_nil
  | n + 1 => by rw [repl_succ, repV]; exact concL_append h (concL_repl h n)
theorem madeCells_get {z : Array Value} {n j : Nat} (hj : j < n * z.size) : (madeCells z (n * z.size))[j]? = (repV z.toList n)[j]? := by
  rw [repV_get (by simpa using hj)]
  have h0 : 0 < z.size := by
    rcases Nat.eq_zero_or_pos z.size with h | h
    · rw [h] at hj; omega
    · exact h
  have hm : j % z.size < z.size := Nat.mod_lt _ h0
  simp [madeCells, hj, hm]
/-- The cells of a value: what is not a whole has one. -/
theorem cells_conc2 {G : Gh} {φ : Mp} {v : V} {u : Value} (h : conc G φ v = some u) : concL G φ v.cells = some u.cells.toList := by
  have one : u.cells = #[u] → v.cells = [v] → concL G φ v.cells = some u.cells.toList := by
    intro h1 h2
    rw [h1, h2]
    exact concL_cons.2 ⟨u, [], h, concL_nil, rfl⟩
  cases hv : isCell v with
  | true =>
    refine one (isCell_conc hv h).2 ?_
    cases v <;> first | rfl | cases hv
  | false =>
    cases v with
    | agg l =>
      obtain ⟨m, hm, rfl⟩ := conc_agg h
      simpa [V.cells, Value.cells] using hm
    | tuple l =>
      obtain ⟨m, hm, rfl⟩ := conc_tuple h
      exact one rfl rfl
    | undef => rw [conc] at h; cases h; exact one rfl rfl
    | _ => cases hv

section
variable {E : Env} {P : Program} {G : Gh} {φ : Mp} {h h' : H} {w : World} {s : Fr} {a : Act} {v : V} {o : Oper}

theorem makeSlice_ok (ok : EnvOk E P G) {t : Nat} {x y : Operand} (ho : o.op = .makeSlice t x y) (hx : okOpn x = true) (hy : okOpn y = true) (T : TRel G φ s a.tmps) (r : HRel G φ h w) (hf : Free φ h.next h'.next)
    (e : (opF E o).v s h = .ok v h') : Did G φ h w v h' ((execOp a.eval o).run P w) := by
  unfold opF at e
  simp only [ho, ok.ty] at e
  have h1 := opn_ok T hx
  have h2 := opn_ok T hy
  split at e
  · rename_i el hk
    have hu := k_slice hk
    cases hz : (mkTI P el).zero with
    | none => rw [hz] at e; cases e
    | some z =>
      obtain ⟨i, zv, hi, hz', habs, hsz, hby⟩ := zero_ok hz
      rw [hz] at e
      simp only [Box.use_v] at e
      obtain ⟨k1, l, hl, e1⟩ := onNat_ok e
      clear e
      obtain ⟨k2, c, hc, e2⟩ := onNat_ok e1
      clear e1
      obtain ⟨hb, e⟩ := bif_ok e2
      clear e2
      simp only [Bool.and_eq_true, nble, decide_eq_true_eq] at hb
      obtain ⟨⟨hb1, hb2⟩, hb3⟩ := hb
      obtain ⟨hcell, hlen, e3⟩ := newRow_ok e
      clear e
      cases e3
      rw [hl, conc] at h1
      rw [hc, conc] at h2
      have g1 := (Option.some.inj h1).symm
      have g2 := (Option.some.inj h2).symm
      have hfn : φ h.next = none := hf _ (Nat.le_refl _) (by simp [H.new])
      have hcv := cells_conc2 (absV_ok G φ 4 _ _ habs)
      have hrv := concL_repl hcv c
      have hlz := concL_length hcv
      simp only [Array.length_toList] at hlz
      rw [repl_length] at hlen
      have hby2 : (i.bytes : Int) * (c : Int) ≤ 281474976710656 := by
        rw [hby] at hb2
        have h3 : ((c * i.bytes : Nat) : Int) ≤ 70368744177664 := by generalize c * i.bytes = q at hb2 ⊢; omega
        rw [Int.natCast_mul, Int.mul_comm] at h3
        generalize (i.bytes : Int) * (c : Int) = q at h3 ⊢
        omega
      have hrun := run_make (P := P) w t el i zv hu hi hz' k1 k2 (l : Int) (c : Int) (Int.natCast_nonneg _) (by exact_mod_cast hb1) hby2 (by omega)
      simp only [Int.toNat_natCast] at hrun
      have hsize : c * i.size = c * zv.cells.size := by rw [← hsz, ← hlen, hlz]
      rw [hsize] at hrun
      obtain ⟨r', hfr, hx'⟩ := r.newRow hfn (C := madeCells zv.cells (c * zv.cells.size)) (sl := 0) (ex := true) (n := c * (mkTI P el).size) (sz := (mkTI P el).size) el hrv (by rw [size_madeCells, ← hlen, hlz]; omega)
        (fun j hj => madeCells_get (by rw [← hlen, ← hlz] at hj; exact hj)) (fun _ => rfl)
      refine ⟨_, .slice (some ⟨w.heap.size, 0, none⟩) l c, _, .inl ?_, ?_, r', hfr, hx'⟩
      · simp only [execOp, ho, Sem.run_bind]
        rw [g1, g2]
        have : (Int.ofNat l : Int) = (l : Int) := rfl
        rw [show (Value.int k1 (Int.ofNat l)) = Value.int k1 (l : Int) from rfl, show (Value.int k2 (Int.ofNat c)) = Value.int k2 (c : Int) from rfl, hrun]
        rfl
      · rw [conc, Mp.put_self]
        rfl
  · cases e

/-! ### building -/
theorem fillL_nil (i : Nat) (m : List V) : fillL [] i m = (match i, m with | 0, [] => some [] | _, _ => none) := rfl
theorem fillL_zero_nil (c : V) (l : List V) : fillL (c :: l) 0 [] = (match fillL l 0 [] with | some r => some (c :: r) | none => none) := rfl
theorem fillL_zero_cons (c v : V) (l m : List V) : fillL (c :: l) 0 (v :: m) = (match fillL l 0 m with | some r => some (v :: r) | none => none) := rfl
theorem fillL_succ (c : V) (l m : List V) (j : Nat) : fillL (c :: l) (j + 1) m = (match fillL l j m with | some r => some (c :: r) | none => none) := rfl
theorem fillL_ok : ∀ (l : List V) (i : Nat) (m r : List V), fillL l i m = some r → r = l.take i ++ m ++ l.drop (i + m.length) ∧ i + m.length ≤ l.length
  | [], i, m, r, e => by
    rw [fillL_nil] at e
    split at e
    · cases e; simp
    · cases e
  | c :: l, 0, [], r, e => by
    rw [fillL_zero_nil] at e
    cases hr : fillL l 0 [] with
    | none => rw [hr] at e; cases e
    | some r' =>
      rw [hr] at e; cases e
      obtain ⟨h1, h2⟩ := fillL_ok l 0 [] r' hr
      simp at h1
      simp [h1]
  | c :: l, 0, v :: m, r, e => by
    rw [fillL_zero_cons] at e
    cases hr : fillL l 0 m with
    | none => rw [hr] at e; cases e
    | some r' =>
      rw [hr] at e; cases e
      obtain ⟨h1, h2⟩ := fillL_ok l 0 m r' hr
      simp only [Nat.zero_add, List.take_zero, List.nil_append] at h1 h2 ⊢
      refine ⟨by rw [h1]; simp, by simp; omega⟩
  | c :: l, j + 1, m, r, e => by
    rw [fillL_succ] at e
    cases hr : fillL l j m with
    | none => rw [hr] at e; cases e
    | some r' =>
      rw [hr] at e; cases e
      obtain ⟨h1, h2⟩ := fillL_ok l j m r' hr
      refine ⟨?_, by simp; omega⟩
      rw [h1, show j + 1 + m.length = (j + m.length) + 1 by omega]
      simp

theorem foldl_fill (off : Nat) : ∀ (vs : List Value) (k : Nat) (C : Array Value), off + k + vs.length ≤ C.size →
    ((vs.zipIdx k).foldl (fun cs (p : Value × Nat) => cs.setIfInBounds (off + p.2) p.1) C).toList = C.toList.take (off + k) ++ vs ++ C.toList.drop (off + k + vs.length)
  | [], k, C, h => by simp
  | u :: vs, k, C, h => by
    rw [List.zipIdx_cons, List.foldl_cons, foldl_fill off vs (k + 1) _ (by simp at h ⊢; omega)]
    have hk : off + k < C.toList.length := by simp at h ⊢; omega
    simp only [Array.toList_setIfInBounds]
    rw [show off + (k + 1) = (off + k) + 1 by omega]
    rw [List.take_set, List.drop_set_of_lt (by omega)]
    rw [List.take_succ_eq_append_getElem hk, List.set_append_right _ _ (by simp; omega)]
    simp
    have hm : off + k - min (off + k) C.size = 0 := by
      have : off + k < C.size := by simpa using hk
      omega
    rw [hm, show off + k + 1 + vs.length = off + k + (vs.length + 1) by omega]
    rfl
theorem buildL_cons (p : Nat × Nat × V) (ps : List (Nat × Nat × V)) (z : List V) : buildL (p :: ps) z = (bif Nat.beq p.2.2.cells.length p.2.1 then (match fillL z p.1 p.2.2.cells with | some z => buildL ps z | none => none) else none) := rfl
theorem partsF_cons (place : Nat → Option (Nat × Nat)) (p : Nat × Operand) (l : List (Nat × Operand)) : partsF place (p :: l) = (match place p.1, partsF place l with
      | some (o, z), some g => some (g.use fun g => (opn p.2).use fun f => ⟨fun s => (o, z, f s) :: g s⟩)
      | _, _ => none) := rfl
theorem concL_take {l : List V} {m : List Value} (hc : concL G φ l = some m) (n : Nat) : concL G φ (l.take n) = some (m.take n) := by
  have hl := concL_length hc
  refine concL_of_get (by simp [hl]) fun i v hi => ?_
  rw [List.getElem?_take] at hi ⊢
  split at hi
  · rename_i h; rw [if_pos h]; exact concL_get hc i v hi
  · cases hi
theorem concL_drop {l : List V} {m : List Value} (hc : concL G φ l = some m) (n : Nat) : concL G φ (l.drop n) = some (m.drop n) := by
  have hl := concL_length hc
  refine concL_of_get (by simp [hl]) fun i v hi => ?_
  rw [List.getElem?_drop] at hi ⊢
  exact concL_get hc _ v hi
theorem fill_ok {place place' : Nat → Option (Nat × Nat)} (hp : ∀ i p, place' i = some p → place i = some p) (T : TRel G φ s a.tmps) :
    ∀ {l : List (Nat × Operand)} {g : Box (Fr → List (Nat × Nat × V))}, partsF place' l = some g → (∀ p ∈ l, okOpn p.2 = true) →
    ∀ {cs r : List V} {C : Array Value}, concL G φ cs = some C.toList → buildL (g.v s) cs = some r →
    ∃ R, Instr.fill place C (l.map fun p => (p.1, a.eval p.2)) = some R ∧ concL G φ r = some R.toList
  | [], g, e, _, cs, r, C, hc, hb => by
    cases e
    cases hb
    exact ⟨C, rfl, hc⟩
  | p :: l, g, e, hx, cs, r, C, hc, hb => by
    rw [partsF_cons] at e
    cases hpl : place' p.1 with
    | none => rw [hpl] at e; cases e
    | some oz =>
      obtain ⟨off, sz⟩ := oz
      cases hg : partsF place' l with
      | none => rw [hpl, hg] at e; cases e
      | some g' =>
        rw [hpl, hg] at e
        cases e
        simp only [Box.use_v] at hb
        rw [buildL_cons] at hb
        have hv := opn_ok T (hx p (by simp))
        have hcv := cells_conc2 hv
        have hlv := concL_length hcv
        simp only [Array.length_toList] at hlv
        cases hbe : Nat.beq ((opn p.2).v s).cells.length sz with
        | false => dsimp only at hb; rw [hbe] at hb; cases hb
        | true =>
          dsimp only at hb
          rw [hbe, cond_true] at hb
          rw [nbeq, decide_eq_true_eq] at hbe
          cases hfl : fillL cs off ((opn p.2).v s).cells with
          | none => rw [hfl] at hb; cases hb
          | some cs' =>
            rw [hfl] at hb
            obtain ⟨h1, h2⟩ := fillL_ok _ _ _ _ hfl
            have hlc := concL_length hc
            simp only [Array.length_toList] at hlc
            have hfold := foldl_fill off (a.eval p.2).cells.toList 0 C (by simp; omega)
            have hc' : concL G φ cs' = some (((a.eval p.2).cells.toList.zipIdx 0).foldl (fun cs (p : Value × Nat) => cs.setIfInBounds (off + p.2) p.1) C).toList := by
              rw [hfold, h1]
              simp only [Nat.add_zero, Array.length_toList, hlv]
              exact concL_append (concL_append (concL_take hc _) hcv) (concL_drop hc _)
            obtain ⟨R, hR1, hR2⟩ := fill_ok hp T hg (fun q hq => hx q (by simp [hq])) hc' hb
            refine ⟨R, ?_, hR2⟩
            rw [List.map_cons, Instr.fill, hp _ _ hpl]
            dsimp only
            rw [if_neg (by simp; omega)]
            rw [← hR1]
            congr 1
            rw [← Array.foldl_toList]
            simp

theorem pairsOk {l : Array (Nat × Operand)} (h : (l.map (·.2)).toList.all okOpn = true) : ∀ p ∈ l.toList, okOpn p.2 = true := by
  intro p hp
  refine List.all_eq_true.1 h p.2 ?_
  simp only [Array.toList_map, List.mem_map]
  exact ⟨p, hp, rfl⟩
theorem places_ok : ∀ (fs : List Field), (∀ f ∈ fs, (mkTI P f.type).has = true) →
    fs.mapM (fun f => (P.info? f.type).map fun i => (f.offset, i.size)) = some (fs.map fun f => (f.offset, (mkTI P f.type).size))
  | [], _ => rfl
  | f :: fs, h => by
    obtain ⟨i, hi, hs, _⟩ := has_ok (h f (by simp))
    rw [List.mapM_cons, places_ok fs (fun g hg => h g (by simp [hg]))]
    simp [hi, hs]

theorem build_ok (ok : EnvOk E P G) {t : Nat} {parts : Array (Nat × Operand)} (ho : o.op = .build t parts) (hx : ∀ p ∈ parts.toList, okOpn p.2 = true) (T : TRel G φ s a.tmps) (r : HRel G φ h w)
    (e : (opF E o).v s h = .ok v h') : Did G φ h w v h' ((execOp a.eval o).run P w) := by
  unfold opF at e
  simp only [ho, ok.ty] at e
  have fin : ∀ (z : V) (zv : Value) (i : TypeInfo) (place place' : Nat → Option (Nat × Nat)), P.info? t = some i → i.zero = some zv → absV 4 zv = some z → (∀ i p, place' i = some p → place i = some p) →
      (∀ R, Instr.fill place zv.cells (parts.map fun (i, x) => (i, a.eval x)).toList = some R → P.built t (parts.map fun (i, x) => (i, a.eval x)).toList = some R) →
      (buildF t z (partsF place' parts.toList)).v s h = .ok v h' → Did G φ h w v h' ((execOp a.eval o).run P w) := by
    intro z zv i place place' hi hz habs hp hR e
    cases hg : partsF place' parts.toList with
    | none => rw [hg] at e; cases e
    | some g =>
      rw [hg] at e
      unfold buildF at e
      simp only [Box.use_v] at e
      obtain ⟨rr, hb, e1⟩ := onSome_ok e
      clear e
      cases e1
      obtain ⟨R, hR1, hR2⟩ := fill_ok hp T hg hx (cells_conc2 (absV_ok G φ 4 _ _ habs)) hb
      have hR1' : Instr.fill place zv.cells (parts.map fun (i, x) => (i, a.eval x)).toList = some R := by
        rw [← hR1]; simp
      refine ⟨φ, .agg R, w, .inl ?_, by rw [conc, hR2], r, Frame.refl _ _ _, Ext.refl _ _ _⟩
      have := run_build w t _ _ (hR R hR1')
      simp [execOp, ho, this]
  split at e
  · rename_i z fs hz hk
    obtain ⟨i, zv, hi, hz', habs, _, _⟩ := zero_ok hz
    obtain ⟨A, hu, hfs⟩ := k_struct hk
    cases hall : (fs.all fun f => (mkTI P f.2).has) with
    | false => rw [hall] at e; cases e
    | true =>
      rw [hall, Bool.not_true, cond_false] at e
      have hA : ∀ f ∈ A.toList, (mkTI P f.type).has = true := by
        intro f hf
        have := List.all_eq_true.1 hall (f.offset, f.type) (by rw [hfs]; exact List.mem_map.2 ⟨f, hf, rfl⟩)
        exact this
      refine fin z zv i (((A.toList.map fun f => (f.offset, (mkTI P f.type).size)).toArray)[·]?) _ hi hz' habs ?_ ?_ e
      · intro j p hj
        rw [hfs] at hj
        simp only [List.getElem?_map] at hj
        simp only [List.getElem?_toArray, List.getElem?_map]
        cases hg : A.toList[j]? with
        | none => rw [hg] at hj; cases hj
        | some f =>
          rw [hg] at hj
          simp only [Option.map_some] at hj ⊢
          rw [hA f (List.mem_of_getElem? hg)] at hj
          exact hj
      · intro R hR
        unfold Program.built
        rw [hi, hu]
        dsimp only
        rw [hz', places_ok A.toList hA]
        exact hR
  · rename_i z n el hz hk
    obtain ⟨i, zv, hi, hz', habs, _, _⟩ := zero_ok hz
    have hu := k_array hk
    cases hh : (mkTI P el).has with
    | false => rw [hh] at e; cases e
    | true =>
      rw [hh, Bool.not_true, cond_false] at e
      obtain ⟨ie, hie, hsz, _⟩ := has_ok hh
      refine fin z zv i (fun j => some (j * ie.size, ie.size)) _ hi hz' habs ?_ ?_ e
      · intro j p hj; rw [← hsz]; exact hj
      · intro R hR
        unfold Program.built
        rw [hi, hu]
        dsimp only
        rw [hz', hie]
        exact hR
  · cases e

theorem buildL_length : ∀ (ps : List (Nat × Nat × V)) (z r : List V), buildL ps z = some r → r.length = z.length
  | [], z, r, e => by cases e; rfl
  | p :: ps, z, r, e => by
    rw [buildL_cons] at e
    cases hb : Nat.beq p.2.2.cells.length p.2.1 with
    | false => rw [hb] at e; cases e
    | true =>
      rw [hb, cond_true] at e
      cases hf : fillL z p.1 p.2.2.cells with
      | none => rw [hf] at e; cases e
      | some z' =>
        rw [hf] at e
        obtain ⟨h1, h2⟩ := fillL_ok _ _ _ _ hf
        rw [buildL_length ps z' r e, h1]
        simp
        omega
theorem buildSlice_ok (ok : EnvOk E P G) {t n : Nat} {parts : Array (Nat × Operand)} (ho : o.op = .buildSlice t n parts) (hx : ∀ p ∈ parts.toList, okOpn p.2 = true) (T : TRel G φ s a.tmps) (r : HRel G φ h w) (hf : Free φ h.next h'.next)
    (e : (opF E o).v s h = .ok v h') : Did G φ h w v h' ((execOp a.eval o).run P w) := by
  unfold opF at e
  simp only [ho, ok.ty] at e
  split at e
  · rename_i el hk
    have hu := k_slice hk
    split at e
    · rename_i z g hz hg
      obtain ⟨i, zv, hi, hz', habs, hsz, _⟩ := zero_ok hz
      simp only [Box.use_v] at e
      obtain ⟨hb, e1⟩ := bif_ok e
      clear e
      rw [nble, decide_eq_true_eq] at hb
      obtain ⟨rr, hbl, e2⟩ := onSome_ok e1
      clear e1
      obtain ⟨hcell, hlen, e3⟩ := newRow_ok e2
      clear e2
      cases e3
      have hfn : φ h.next = none := hf _ (Nat.le_refl _) (by simp [H.new])
      have hcv := cells_conc2 (absV_ok G φ 4 _ _ habs)
      have hlz := concL_length hcv
      simp only [Array.length_toList] at hlz
      have hrl := buildL_length _ _ _ hbl
      rw [hlen, repl_length, ← hlz, hsz] at hrl
      have hC : concL G φ (repl z.cells n) = some (madeCells zv.cells (n * i.size)).toList := by
        rw [concL_repl hcv n]
        congr 1
        rw [hrl]
        apply List.ext_getElem?
        intro j
        by_cases hj : j < n * zv.cells.size
        · rw [← madeCells_get hj]; simp
        · rw [List.getElem?_eq_none (by rw [repV_length]; simpa using hj), List.getElem?_eq_none (by simp [size_madeCells]; omega)]
      obtain ⟨R, hR1, hR2⟩ := fill_ok (place := fun j => some (j * i.size, i.size)) (fun j p hj => by rw [← hsz]; exact hj) T hg hx hC hbl
      have hRl := concL_length hR2
      simp only [Array.length_toList] at hRl
      obtain ⟨r', hfr, hx'⟩ := r.newRow hfn (C := R) (sl := 0) (ex := true) (n := n * (mkTI P el).size) (sz := (mkTI P el).size) el hR2 (by omega) (fun j _ => by simp) (fun _ => rfl)
      refine ⟨_, .slice (some ⟨w.heap.size, 0, none⟩) n n, _, .inl ?_, by rw [conc, Mp.put_self]; rfl, r', hfr, hx'⟩
      have hparts : (parts.map fun (x : Nat × Operand) => (x.1, a.eval x.2)).toList = parts.toList.map fun p => (p.1, a.eval p.2) := by simp
      rw [hsz] at hb
      have hb' : ¬ (16777216 < n * i.size) := by omega
      rw [← hparts] at hR1
      by_cases h0 : n * i.size = 0
      · have hR1' : Instr.fill (fun j => some (j * i.size, i.size)) #[] (parts.map fun (x : Nat × Operand) => (x.1, a.eval x.2)).toList = some R := by
          rw [← hR1, h0, show madeCells zv.cells 0 = #[] from by simp [madeCells, Array.range_zero']]
        simp [execOp, ho, Instr.buildSlice, run_underlying hu, sizeOf, typeInfo, hi, h0, Array.range_zero']
        simp at hR1'
        simp [hR1', Go.newRow]
      · have hR1' : Instr.fill (fun j => some (j * i.size, i.size)) ((Array.range (n * i.size)).map (zv.cells[· % zv.cells.size]!)) (parts.map fun (x : Nat × Operand) => (x.1, a.eval x.2)).toList = some R := by
          rw [← hR1]; rfl
        simp [execOp, ho, Instr.buildSlice, run_underlying hu, sizeOf, typeInfo, hi, h0, hb', zeroValue, hz']
        simp at hR1'
        simp [hR1', Go.newRow]
    · cases e
  · cases e
end
end Go.Proofs.YtjpkfdmjhgnmbaaGreat.Gv
