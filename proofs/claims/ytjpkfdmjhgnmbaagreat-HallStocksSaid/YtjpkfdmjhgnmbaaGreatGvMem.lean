/- Reading, writing and making memory. -/
import Derived.Test.YtjpkfdmjhgnmbaaGreatGvTy
namespace Go.Proofs.YtjpkfdmjhgnmbaaGreat.Gv
open Go

/-- What one step of the evaluator says of one operation's run. -/
def Did (G : Gh) (φ : Mp) (h : H) (w : World) (v : V) (h' : H) (r : Result Next) : Prop :=
  ∃ φ' u w', (r = .ok (.value u) w' ∨ (r = .ok .skip w' ∧ u = undef)) ∧ conc G φ' v = some u ∧ HRel G φ' h' w' ∧ Frame φ h w w' ∧ Ext φ φ' h h' w
/-- The same of a run that hands back a value. -/
def DidV (G : Gh) (φ : Mp) (h : H) (w : World) (v : V) (h' : H) (r : Result Value) : Prop :=
  ∃ φ' u w', r = .ok u w' ∧ conc G φ' v = some u ∧ HRel G φ' h' w' ∧ Frame φ h w w' ∧ Ext φ φ' h h' w

section
variable {G : Gh} {φ : Mp} {h : H} {w : World}
theorem DidV.same {v : V} {u : Value} {r : Result Value} (hr : HRel G φ h w) (hv : conc G φ v = some u) (h1 : r = .ok u w) : DidV G φ h w v h r :=
  ⟨φ, u, w, h1, hv, hr, Frame.refl _ _ _, Ext.refl _ _ _⟩
theorem DidV.did {v : V} {h' : H} {P : Program} {s : Sem Value} (d : DidV G φ h w v h' (s.run P w)) : Did G φ h w v h' ((do pure (.value (← s)) : Sem Next).run P w) := by
  obtain ⟨φ', u, w', h1, rest⟩ := d
  refine ⟨φ', u, w', .inl ?_, rest⟩
  simp [h1]

theorem onCells_ok {b : Nat} {k : T V → Nat → Nat → Bool → RV} {v : V} {h' : H} (e : onCells h b k = .ok v h') :
    ∃ cs n sz ex, h.t.get b = some (.cells cs n sz ex) ∧ k cs n sz ex = .ok v h' := by
  unfold onCells at e
  cases hb : h.t.get b with
  | none => rw [hb] at e; cases e
  | some x =>
    rw [hb] at e
    cases x with
    | cells cs n sz ex => exact ⟨cs, n, sz, ex, rfl, e⟩
    | map es => cases e
    | iter m => cases e
theorem onMap_ok {b : Nat} {k : List (V × V) → RV} {v : V} {h' : H} (e : onMap h b k = .ok v h') :
    ∃ es, h.t.get b = some (.map es) ∧ k es = .ok v h' := by
  unfold onMap at e
  cases hb : h.t.get b with
  | none => rw [hb] at e; cases e
  | some x =>
    rw [hb] at e
    cases x with
    | cells cs n sz ex => cases e
    | map es => exact ⟨es, rfl, e⟩
    | iter m => cases e
theorem onPtr_ok {x : V} {k : Nat → Nat → RV} {v : V} {h' : H} (e : onPtr x k = .ok v h') : ∃ b o, x = .ptr b o ∧ k b o = .ok v h' := by
  cases x <;> first | cases e | exact ⟨_, _, rfl, e⟩
theorem onNat_ok {x : V} {k : Nat → RV} {v : V} {h' : H} (e : onNat x k = .ok v h') : ∃ kd n, x = .int kd (.ofNat n) ∧ k n = .ok v h' := by
  cases x with
  | int kd n =>
    cases n with
    | ofNat n => exact ⟨kd, n, rfl, e⟩
    | negSucc n => cases e
  | _ => cases e
theorem onBool_ok {x : V} {k : Bool → RV} {v : V} {h' : H} (e : onBool x k = .ok v h') : ∃ b, x = .bool b ∧ k b = .ok v h' := by
  cases x <;> first | cases e | exact ⟨_, rfl, e⟩
theorem onSome_ok {α : Type} {m : String} {o : Option α} {k : α → RV} {v : V} {h' : H} (e : onSome m o k = .ok v h') : ∃ x, o = some x ∧ k x = .ok v h' := by
  cases o with
  | none => cases e
  | some x => exact ⟨x, rfl, e⟩
theorem bif_ok {c : Bool} {x : RV} {m : String} {n : Nat} {v : V} {h' : H} (e : (bif c then x else .bad m n) = .ok v h') : c = true ∧ x = .ok v h' := by
  cases c with
  | false => cases e
  | true => exact ⟨rfl, e⟩

theorem conc_ptr {b o : Nat} {u : Value} (e : conc G φ (.ptr b o) = some u) : ∃ l, φ b = some l ∧ u = .pointer (some ⟨l.blk, o, none⟩) := by
  rw [conc] at e
  cases hb : φ b with
  | none => rw [hb] at e; cases e
  | some l => rw [hb] at e; cases e; exact ⟨l, rfl, rfl⟩
theorem conc_slice {b o n c : Nat} {x : Bool} {u : Value} (e : conc G φ (.slice b o n c x) = some u) :
    ∃ l, φ b = some l ∧ u = .slice (some ⟨l.blk, o, none⟩) n (bif x then c + l.slack else c) := by
  rw [conc] at e
  cases hb : φ b with
  | none => rw [hb] at e; cases e
  | some l => rw [hb] at e; cases e; exact ⟨l, rfl, rfl⟩
theorem conc_map {b : Nat} {u : Value} (e : conc G φ (.map b) = some u) : ∃ l, φ b = some l ∧ u = .map (some l.blk) := by
  rw [conc] at e
  cases hb : φ b with
  | none => rw [hb] at e; cases e
  | some l => rw [hb] at e; cases e; exact ⟨l, rfl, rfl⟩
theorem conc_agg {l : List V} {u : Value} (e : conc G φ (.agg l) = some u) : ∃ m, concL G φ l = some m ∧ u = .agg m.toArray := by
  rw [conc] at e
  cases hb : concL G φ l with
  | none => rw [hb] at e; cases e
  | some m => rw [hb] at e; cases e; exact ⟨m, rfl, rfl⟩
theorem conc_tuple {l : List V} {u : Value} (e : conc G φ (.tuple l) = some u) : ∃ m, concL G φ l = some m ∧ u = .tuple m.toArray := by
  rw [conc] at e
  cases hb : concL G φ l with
  | none => rw [hb] at e; cases e
  | some m => rw [hb] at e; cases e; exact ⟨m, rfl, rfl⟩

/-- The cells of a live block, as the world has them. -/
theorem HRel.cells (r : HRel G φ h w) {b n sz : Nat} {cs : T V} {ex : Bool} {l : Loc} (hb : h.t.get b = some (.cells cs n sz ex)) (hl : φ b = some l) :
    ∃ C e, w.heap[l.blk]? = some (.cells C e (0, 0)) ∧ C.size = n + l.slack * sz ∧ (ex = true → l.slack = 0) ∧
      ∀ (i : Nat) (v : V), i < n → cs.get i = some v → ∃ u, conc G φ v = some u ∧ C[i]? = some u := r.blk b _ l hb hl

/-- A run of cells that the abstract memory has. -/
theorem HRel.row (r : HRel G φ h w) {b n sz o m : Nat} {cs : T V} {ex : Bool} {l : Loc} {vs : List V} (hb : h.t.get b = some (.cells cs n sz ex)) (hl : φ b = some l)
    (hm : o + m ≤ n) (hv : T.range cs m o = some vs) :
    ∃ us, concL G φ vs = some us ∧ us.length = m ∧ ∀ (j : Nat) (u : Value), us[j]? = some u → w.cell? ⟨l.blk, o + j, none⟩ = some u := by
  obtain ⟨C, e, h1, h2, _, h5⟩ := r.cells hb hl
  obtain ⟨hlen, hget⟩ := T.range_some hv
  have key : ∀ (i : Nat) (v : V), vs[i]? = some v → ∃ u, (C.toList.drop o)[i]? = some u ∧ conc G φ v = some u := by
    intro i v hi
    have him : i < m := by have := (List.getElem?_eq_some_iff.1 hi).1; omega
    obtain ⟨u, a, c⟩ := h5 (o + i) v (by omega) ((hget i him).trans hi)
    exact ⟨u, by simpa using c, a⟩
  have hC : m ≤ (C.toList.drop o).length := by simp; omega
  refine ⟨(C.toList.drop o).take m, concL_of_get (by simp [hlen]; omega) ?_, by simp; omega, ?_⟩
  · intro i v hi
    have him : i < m := by have := (List.getElem?_eq_some_iff.1 hi).1; omega
    obtain ⟨u, a, c⟩ := key i v hi
    exact ⟨u, by rw [List.getElem?_take, if_pos him]; exact a, c⟩
  · intro j u hj
    rw [List.getElem?_take] at hj
    split at hj
    · simp only [List.getElem?_drop, Array.getElem?_toList] at hj
      simp [World.cell?, h1, hj]
    · cases hj

theorem loadF_ok {P : Program} {t b o : Nat} {v : V} {h' : H} (r : HRel G φ h w) (ht : (mkTI P t).has = true)
    {l : Loc} (hl : φ b = some l) (e : (loadF (mkTI P t)).v b o h = .ok v h') :
    h' = h ∧ ∃ u, (loadVar t ⟨l.blk, o, none⟩).run P w = .ok u w ∧ conc G φ v = some u := by
  obtain ⟨i, hi, hsz, _⟩ := has_ok ht
  obtain ⟨d, hd⟩ := has_und ht
  have ha := agg_ok ht (w := w) d hd
  unfold loadF at e
  cases hg : (mkTI P t).agg with
  | false =>
    rw [hg] at e ha
    obtain ⟨cs, n, sz, ex, hb, e⟩ := onCells_ok e
    obtain ⟨hlt, e⟩ := bif_ok e
    rw [nblt, decide_eq_true_eq] at hlt
    obtain ⟨x, hx, e⟩ := onSome_ok e
    cases e
    obtain ⟨C, el, h1, _, _, h5⟩ := r.cells hb hl
    obtain ⟨u, hu, hc⟩ := h5 o _ hlt hx
    refine ⟨rfl, u, ?_, hu⟩
    simp [loadVar, ha, World.cell?, h1, hc]
  | true =>
    rw [hg] at e ha
    simp only [Box.use_v] at e
    obtain ⟨cs, n, sz, ex, hb, e⟩ := onCells_ok e
    obtain ⟨hlt, e⟩ := bif_ok e
    rw [nble, decide_eq_true_eq] at hlt
    obtain ⟨x, hx, e⟩ := onSome_ok e
    cases e
    obtain ⟨us, hu, hlen, hcell⟩ := r.row hb hl hlt hx
    refine ⟨rfl, .agg us.toArray, ?_, by rw [conc, hu]⟩
    have hload := run_loadCells_list (P := P) w ⟨l.blk, o, none⟩ us (fun j u hj => by rw [Addr.add_lit]; exact hcell j u hj)
    rw [hlen, hsz] at hload
    simp [loadVar, ha, sizeOf, typeInfo, hi, hload]

/-! ### writing -/
theorem setRow_frame {φ : Mp} {h : H} {w : World} {k : Nat} (C : Array Value) (hk : Foot φ h k) : Frame φ h w (w.setRow k C) :=
  ⟨rfl, rfl, rfl, by simp [World.setRow], fun j hj hn => setRow_other w k j _ (fun e => hn (e ▸ hk))⟩
theorem get_put {b b' : Nat} {x y : B} (e : (h.put b x).t.get b' = some y) : (b' = b ∧ y = x) ∨ (b' ≠ b ∧ h.t.get b' = some y) := T.get_set e
/-- A live block's content turns, and the block behind it. -/
theorem HRel.put (r : HRel G φ h w) {b : Nat} {x0 x : B} {l : Loc} {w' : World} (hb : h.t.get b = some x0) (hl : φ b = some l)
    (hx : BRel G φ x l w') (hw : ∀ k, k ≠ l.blk → w'.heap[k]? = w.heap[k]?) : HRel G φ (h.put b x) w' := by
  refine ⟨?_, ?_, ?_⟩
  · intro b' y l' hb' hl'
    rcases get_put hb' with ⟨rfl, rfl⟩ | ⟨hne, hy⟩
    · rw [hl] at hl'; cases hl'; exact hx
    · refine (r.blk b' y l' hy hl').mono (Mp.le_refl _) (hw _ ?_)
      intro e
      exact hne (r.inj _ _ _ _ _ _ hy hb hl' hl e)
  · intro b1 b2 x1 x2 l1 l2 h1 h2 h3 h4 h5
    have g1 : ∃ y, h.t.get b1 = some y := by
      rcases get_put h1 with ⟨rfl, _⟩ | ⟨_, hy⟩
      · exact ⟨_, hb⟩
      · exact ⟨_, hy⟩
    have g2 : ∃ y, h.t.get b2 = some y := by
      rcases get_put h2 with ⟨rfl, _⟩ | ⟨_, hy⟩
      · exact ⟨_, hb⟩
      · exact ⟨_, hy⟩
    obtain ⟨y1, g1⟩ := g1
    obtain ⟨y2, g2⟩ := g2
    exact r.inj _ _ _ _ _ _ g1 g2 h3 h4 h5
  · intro b' hb'
    cases hy : (h.put b x).t.get b' with
    | none => rfl
    | some y =>
      rcases get_put hy with ⟨rfl, _⟩ | ⟨_, hy⟩
      · rw [r.fresh _ hb'] at hb; cases hb
      · rw [r.fresh _ hb'] at hy; cases hy
theorem Ext.put {b : Nat} (hb : ∃ x0, h.t.get b = some x0) {x : B} : Ext φ φ h (h.put b x) w :=
  ⟨Mp.le_refl _, fun _ e _ => e, Nat.le_refl _, fun k ⟨b', y, l, h1, h2, h3⟩ _ => by
    rcases get_put h1 with ⟨rfl, _⟩ | ⟨_, hy⟩
    · obtain ⟨x0, hb⟩ := hb; exact ⟨_, x0, l, hb, h2, h3⟩
    · exact ⟨b', y, l, hy, h2, h3⟩⟩

/-- Cells are stored into a live block. -/
theorem HRel.store (r : HRel G φ h w) {P : Program} {b n sz o : Nat} {cs : T V} {ex : Bool} {l : Loc} {vs : List V} {us : List Value} (hb : h.t.get b = some (.cells cs n sz ex)) (hl : φ b = some l)
    (hm : o + vs.length ≤ n) (hc : areCells vs = true) (hv : concL G φ vs = some us) :
    ∃ w', (storeCells ⟨l.blk, o, none⟩ us).run P w = .ok () w' ∧ HRel G φ (h.put b (.cells (T.setRow vs o cs) n sz ex)) w' ∧ Frame φ h w w' ∧
      Ext φ φ h (h.put b (.cells (T.setRow vs o cs) n sz ex)) w := by
  obtain ⟨C, e, h1, h2, h3, h5⟩ := r.cells hb hl
  have hlen := concL_length hv
  have hst := run_storeCells_at P l.blk o e us 0 C w h1 (by omega) (areCells_conc hc hv)
  simp only [Nat.add_zero] at hst
  refine ⟨_, hst, r.put hb hl ?_ (fun k hk => setRow_other w l.blk k _ (fun e => hk (by first | exact e | exact e.symm))), setRow_frame _ ⟨b, _, l, hb, hl, rfl⟩, Ext.put ⟨_, hb⟩⟩
  refine ⟨_, e, setRow_heap w l.blk C _ e _ h1, ?_, h3, ?_⟩
  · simp; omega
  · intro i v hi hg
    simp only [List.getElem?_toArray]
    rcases T.get_setRow hg with ⟨j, rfl, hj⟩ | ⟨hi', hg⟩
    · obtain ⟨u, hu, hcu⟩ := concL_get hv j v hj
      have hjl : j < us.length := (List.getElem?_eq_some_iff.1 hu).1
      refine ⟨u, hcu, ?_⟩
      rw [List.append_assoc, List.getElem?_append_right (by simp; omega), List.getElem?_append_left (by simp; omega)]
      rw [← hu]; congr 1; simp; omega
    · obtain ⟨u, hu, hcu⟩ := h5 i v hi hg
      refine ⟨u, hu, ?_⟩
      rcases hi' with hlt | hge
      · rw [List.append_assoc, List.getElem?_append_left (by simp; omega), List.getElem?_take, if_pos hlt]; simpa using hcu
      · rw [List.getElem?_append_right (by simp; omega), List.getElem?_drop]
        rw [← hcu]
        simp only [Array.getElem?_toList]
        congr 1; simp; omega
theorem storeL_ok {b o : Nat} {vs : List V} {k : H → RV} {v : V} {h' : H} (e : storeL h b o vs k = .ok v h') :
    ∃ cs n sz ex, h.t.get b = some (.cells cs n sz ex) ∧ o + vs.length ≤ n ∧ areCells vs = true ∧ k (h.put b (.cells (T.setRow vs o cs) n sz ex)) = .ok v h' := by
  obtain ⟨cs, n, sz, ex, hb, e⟩ := onCells_ok e
  obtain ⟨hlt, e⟩ := bif_ok e
  rw [nble, decide_eq_true_eq] at hlt
  obtain ⟨hc, e⟩ := bif_ok e
  exact ⟨cs, n, sz, ex, hb, hlt, hc, e⟩
theorem storeV_ok {b o : Nat} {x : V} {k : H → RV} {v : V} {h' : H} (e : storeV h b o x k = .ok v h') :
    ∃ cs n sz ex, h.t.get b = some (.cells cs n sz ex) ∧ o + x.cells.length ≤ n ∧ areCells x.cells = true ∧ k (h.put b (.cells (T.setRow x.cells o cs) n sz ex)) = .ok v h' := by
  cases x with
  | agg l => exact storeL_ok e
  | _ =>
    obtain ⟨cs, n, sz, ex, hb, e⟩ := onCells_ok e
    obtain ⟨hlt, e⟩ := bif_ok e
    rw [nblt, decide_eq_true_eq] at hlt
    obtain ⟨hc, e⟩ := bif_ok e
    refine ⟨cs, n, sz, ex, hb, by show _ + 1 ≤ n; omega, ?_, e⟩
    show areCells [_] = true
    rw [areCells_cons, hc]; rfl

/-! ### new blocks -/
theorem get_new {b' : Nat} {x y : B} (e : (h.new x).t.get b' = some y) : (b' = h.next ∧ y = x) ∨ (b' ≠ h.next ∧ h.t.get b' = some y) := T.get_set e
theorem heap_alloc_lt (w : World) (o : Obj) {k : Nat} (hk : k < w.heap.size) : (w.alloc o).heap[k]? = w.heap[k]? := by
  unfold World.alloc
  simp only [Array.getElem?_push]
  rw [if_neg (by omega)]
/-- A new block, known by the next number. -/
theorem HRel.alloc (r : HRel G φ h w) (hf : φ h.next = none) {x : B} {o : Obj} {sl : Nat}
    (hx : BRel G (φ.put h.next ⟨w.heap.size, 0, sl⟩) x ⟨w.heap.size, 0, sl⟩ (w.alloc o)) :
    HRel G (φ.put h.next ⟨w.heap.size, 0, sl⟩) (h.new x) (w.alloc o) ∧ Frame φ h w (w.alloc o) ∧ Ext φ (φ.put h.next ⟨w.heap.size, 0, sl⟩) h (h.new x) w := by
  have hle : φ.le (φ.put h.next ⟨w.heap.size, 0, sl⟩) := Mp.le_put hf
  refine ⟨⟨?_, ?_, ?_⟩, ⟨rfl, rfl, rfl, by simp, fun k hk _ => heap_alloc_lt w o hk⟩, ⟨hle, ?_, by simp [H.new], ?_⟩⟩
  · intro b y l hb hl
    rcases get_new hb with ⟨rfl, rfl⟩ | ⟨hne, hy⟩
    · rw [Mp.put_self] at hl; cases hl; exact hx
    · rw [Mp.put_other hne] at hl
      have := r.blk b y l hy hl
      exact this.mono hle (heap_alloc_lt w o this.lt)
  · intro b1 b2 x1 x2 l1 l2 h1 h2 h3 h4 h5
    rcases get_new h1 with ⟨e1, _⟩ | ⟨n1, g1⟩
    · rcases get_new h2 with ⟨e2, _⟩ | ⟨n2, g2⟩
      · rw [e1, e2]
      · rw [e1, Mp.put_self] at h3; cases h3
        rw [Mp.put_other n2] at h4
        have := (r.blk _ _ _ g2 h4).lt
        simp at h5; omega
    · rw [Mp.put_other n1] at h3
      rcases get_new h2 with ⟨e2, _⟩ | ⟨n2, g2⟩
      · rw [e2, Mp.put_self] at h4; cases h4
        have := (r.blk _ _ _ g1 h3).lt
        simp at h5; omega
      · rw [Mp.put_other n2] at h4
        exact r.inj _ _ _ _ _ _ g1 g2 h3 h4 h5
  · intro b hb
    cases hy : (h.new x).t.get b with
    | none => rfl
    | some y =>
      have hb' : h.next + 1 ≤ b := hb
      rcases get_new hy with ⟨rfl, _⟩ | ⟨_, hy⟩
      · omega
      · rw [r.fresh _ (by omega)] at hy; cases hy
  · intro b hb hr
    rw [Mp.put_other (by simp only [H.new] at hr; omega)]; exact hb
  · intro k ⟨b, y, l, h1, h2, h3⟩ hk
    rcases get_new h1 with ⟨rfl, _⟩ | ⟨hne, h1⟩
    · rw [Mp.put_self] at h2; cases h2; simp at h3; omega
    · rw [Mp.put_other hne] at h2; exact ⟨b, y, l, h1, h2, h3⟩
theorem newRow_ok {l : List V} {n sz : Nat} {ex : Bool} {k : Nat → H → RV} {v : V} {h' : H} (e : newRow h l n sz ex k = .ok v h') :
    areCells l = true ∧ l.length = n ∧ k h.next (h.new (.cells (T.ofList l) n sz ex)) = .ok v h' := by
  obtain ⟨hc, e⟩ := bif_ok e
  rw [Bool.and_eq_true, nbeq, decide_eq_true_eq] at hc
  exact ⟨hc.1, hc.2, e⟩
/-- A new row of cells. -/
theorem HRel.newRow (r : HRel G φ h w) (hf : φ h.next = none) {vs : List V} {us : List Value} {C : Array Value} {n sz sl : Nat} {ex : Bool} (t : TypeId)
    (hv : concL G φ vs = some us) (hC : C.size = n + sl * sz) (hpre : ∀ j : Nat, j < n → C[j]? = us[j]?) (hex : ex = true → sl = 0) :
    HRel G (φ.put h.next ⟨w.heap.size, 0, sl⟩) (h.new (.cells (T.ofList vs) n sz ex)) (w.alloc (.cells C t)) ∧ Frame φ h w (w.alloc (.cells C t)) ∧
      Ext φ (φ.put h.next ⟨w.heap.size, 0, sl⟩) h (h.new (.cells (T.ofList vs) n sz ex)) w := by
  refine r.alloc hf ⟨C, t, heap_alloc_new w _, hC, hex, ?_⟩
  intro i v hi hg
  have := T.get_ofList hg
  obtain ⟨u, hu, hc⟩ := concL_get hv i v this
  exact ⟨u, conc_mono (Mp.le_put hf) hc, (hpre i hi).trans hu⟩
end
end Go.Proofs.YtjpkfdmjhgnmbaaGreat.Gv
