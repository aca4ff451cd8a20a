/- Operations, thirteenth part: append and copy. -/
import Derived.Test.YtjpkfdmjhgnmbaaGreatGvOps12
namespace Go.Proofs.YtjpkfdmjhgnmbaaGreat.Gv
open Go

section
variable {E : Env} {P : Program} {G : Gh} {φ : Mp} {h h' : H} {w : World} {s : Fr} {a : Act} {v : V} {o : Oper}

/-- A new row behind old and new cells, its capacity unknown. -/
theorem HRel.grown (r : HRel G φ h w) (hfn : φ h.next = none) {zv : Value} {vs : List V} {C : Array Value} {need k sz : Nat} (el : TypeId) (hv : concL G φ vs = some C.toList) (hC : C.size = need * sz)
    (hz : zv.cells.size = sz) (_hk : k = grownCap w need 0 el ∨ True) (sl : Nat) :
    HRel G (φ.put h.next ⟨w.heap.size, 0, sl⟩) (h.new (.cells (T.ofList vs) (need * sz) sz false)) (w.drew.alloc (.cells (C ++ Builtin.zeroCells zv.cells sl) el)) ∧
      Frame φ h w (w.drew.alloc (.cells (C ++ Builtin.zeroCells zv.cells sl) el)) ∧ Ext φ (φ.put h.next ⟨w.heap.size, 0, sl⟩) h (h.new (.cells (T.ofList vs) (need * sz) sz false)) w := by
  have r0 : HRel G φ h w.drew := r.frame (Mp.le_refl _) (fun _ _ _ _ h => h) (fun _ _ => rfl)
  obtain ⟨r', f', x'⟩ := r0.newRow hfn (C := C ++ Builtin.zeroCells zv.cells sl) (sl := sl) (ex := false) (n := need * sz) (sz := sz) el hv (by simp [Builtin.zeroCells, hC, hz])
    (fun j hj => by rw [Array.getElem?_append_left (by omega)]; simp) (fun hh => by cases hh)
  exact ⟨r', ⟨f'.os, f'.tape, f'.output, f'.size, f'.block⟩, ⟨x'.le, x'.new, x'.next, x'.foot⟩⟩

theorem app_nil {t0 t1 ty el : TypeId} {ts : List TypeId} {i : TypeInfo} {zv ux : Value} {m : Nat} {new : List V} {unew : Array Value} (hu : P.underlying t0 = some (.slice el)) (hi : P.info? el = some i) (hz : i.zero = some zv)
    (hzs : zv.cells.size = i.size) (hs : Src P w t1 i zv ux m unew) (hnew : concL G φ new = some unew.toList) (r : HRel G φ h w) (hf : Free φ h.next h'.next)
    (e : (Nat.rec (motive := fun _ => RV) (.ok .nilslice h) (fun _ _ => bif Nat.ble (m * i.bytes) 70368744177664 && Nat.ble m 70368744177664 then newRow h new (m * i.size) i.size false fun b h => .ok (.slice b 0 m m true) h else .bad "append: great" 0) m : RV) = .ok v h') :
    DidV G φ h w v h' ((Builtin.append_ (t0 :: t1 :: ts).toArray ty #[.slice none 0 0, ux]).run P w) := by
  cases m with
  | zero =>
    cases e
    have hr := run_app_room (ty := ty) (ts := ts) hu hi hz hs (sLen := 0) (sCap := 0) (base := none) (Nat.le_refl 0) (w' := w) (.inl ⟨rfl, rfl⟩)
    exact DidV.same r (by rw [conc]) hr
  | succ m =>
    obtain ⟨hb, e1⟩ := bif_ok (x := newRow h new ((m + 1) * i.size) i.size false fun b h => .ok (.slice b 0 (m + 1) (m + 1) true) h) e
    clear e
    simp only [Bool.and_eq_true, nble, decide_eq_true_eq] at hb
    obtain ⟨hcell, hlen, e2⟩ := newRow_ok e1
    clear e1
    cases e2
    have hfn : φ h.next = none := hf _ (Nat.le_refl _) (by simp [H.new])
    have hr := run_app_grow (ty := ty) (ts := ts) (old := #[]) hu hi hz hs (sLen := 0) (sCap := 0) (base := none) (by omega) (by omega) (by simpa using hb.1) (fun w' _ => by simp [Builtin.firstCells])
    have hul := concL_length hnew
    simp only [Array.length_toList] at hul
    simp only [Nat.zero_add] at hr
    obtain ⟨r', f', x'⟩ := r.grown hfn (need := m + 1) (k := 0) el hnew (by omega) hzs (.inr trivial) (grownCap w (m + 1) 0 el - (m + 1))
    refine ⟨_, .slice (some ⟨w.heap.size, 0, none⟩) (m + 1) (grownCap w (m + 1) 0 el), _, ?_, ?_, r', f', x'⟩
    · rw [hr]; simp
    · rw [conc, Mp.put_self]
      have := grownCap_ge w (m + 1) 0 el
      simp only [cond_true]
      rw [show m + 1 + (grownCap w (m + 1) 0 el - (m + 1)) = grownCap w (m + 1) 0 el by omega]

/-- A dead block is out of the way. -/
theorem HRel.del (r : HRel G φ h w) (b : Nat) : HRel G φ { t := h.t.del b, next := h.next } w :=
  ⟨fun b' x l hb hl => r.blk b' x l (T.get_del hb).2 hl, fun b1 b2 x1 x2 l1 l2 h1 h2 => r.inj b1 b2 x1 x2 l1 l2 (T.get_del h1).2 (T.get_del h2).2, fun b' hb => by
    cases hy : (h.t.del b).get b' with
    | none => rfl
    | some y => have := (T.get_del hy).2; rw [r.fresh b' hb] at this; cases this⟩
theorem Frame.del {b : Nat} {w' : World} (f : Frame φ { t := h.t.del b, next := h.next } w w') : Frame φ h w w' :=
  ⟨f.os, f.tape, f.output, f.size, fun k hk hn => f.block k hk (fun ⟨b', x, l, h1, h2, h3⟩ => hn ⟨b', x, l, (T.get_del h1).2, h2, h3⟩)⟩
theorem Ext.del {b : Nat} {φ' : Mp} {h' : H} (x : Ext φ φ' { t := h.t.del b, next := h.next } h' w) : Ext φ φ' h h' w :=
  ⟨x.le, x.new, x.next, fun k hf hk => let ⟨b', y, l, h1, h2, h3⟩ := x.foot k hf hk; ⟨b', y, l, (T.get_del h1).2, h2, h3⟩⟩

theorem app_known {t0 t1 ty el : TypeId} {ts : List TypeId} {i : TypeInfo} {zv ux : Value} {m b off len cap n : Nat} {xx ex : Bool} {cs : T V} {lc : Loc} {old new : List V} {unew : Array Value} (hu : P.underlying t0 = some (.slice el)) (hi : P.info? el = some i) (hz : i.zero = some zv)
    (hzs : zv.cells.size = i.size) (hs : Src P w t1 i zv ux m unew) (hnew : concL G φ new = some unew.toList) (r : HRel G φ h w) (hf : φ h.next = none)
    (hb : h.t.get b = some (.cells cs n i.size ex)) (hlc : φ b = some lc) (hk : (bif xx then cap + lc.slack else cap) < len + m) (hbig : len + m ≤ 70368744177664) (hby : (len + m) * i.bytes ≤ 70368744177664)
    (hold : off + len * i.size ≤ n) (hrange : T.range cs (len * i.size) off = some old) (hnl : new.length = m * i.size) :
    DidV G φ h w (.slice h.next 0 (len + m) (len + m) true) (h.new (.cells (T.ofList (old ++ new)) ((len + m) * i.size) i.size false))
      ((Builtin.append_ (t0 :: t1 :: ts).toArray ty #[.slice (some ⟨lc.blk, off, none⟩) len (bif xx then cap + lc.slack else cap), ux]).run P w) := by
  obtain ⟨us, hus, hlen, hcell⟩ := r.row hb hlc hold hrange
  have hfo : ∀ w' : World, w'.heap = w.heap → (Builtin.firstCells i.size len (.slice (some ⟨lc.blk, off, none⟩) len (bif xx then cap + lc.slack else cap))).run P w' = .ok us.toArray w' := by
    intro w' hw'
    refine run_firstCells_some (P := P) w' i.size len ⟨lc.blk, off, none⟩ len _ us hlen ?_
    intro j u hj
    rw [Addr.add_lit]
    have := hcell j u hj
    unfold World.cell? at this ⊢
    rw [hw']
    exact this
  have hr := run_app_grow (ty := ty) (ts := ts) (old := us.toArray) hu hi hz hs (sLen := len) hk hbig hby hfo
  have hul := concL_length hnew
  simp only [Array.length_toList] at hul
  have hcat : concL G φ (old ++ new) = some (us.toArray ++ unew).toList := by
    rw [Array.toList_append]; exact concL_append hus hnew
  obtain ⟨r', f', x'⟩ := r.grown hf (need := len + m) (k := 0) el hcat (by simp [hlen, hul, hnl, Nat.add_mul]) hzs (.inr trivial) (grownCap w (len + m) (bif xx then cap + lc.slack else cap) el - (len + m))
  refine ⟨_, .slice (some ⟨w.heap.size, 0, none⟩) (len + m) (grownCap w (len + m) (bif xx then cap + lc.slack else cap) el), _, hr, ?_, r', f', x'⟩
  rw [conc, Mp.put_self]
  have := grownCap_ge w (len + m) (bif xx then cap + lc.slack else cap) el
  simp only [cond_true]
  rw [show len + m + (grownCap w (len + m) (bif xx then cap + lc.slack else cap) el - (len + m)) = grownCap w (len + m) (bif xx then cap + lc.slack else cap) el by omega]

/-- A block goes on under a new number. -/
theorem HRel.retake (r : HRel G φ h w) (hf : φ h.next = none) {b : Nat} {x0 x : B} {l lc' : Loc} {w' : World} (hb : h.t.get b = some x0) (hl : φ b = some l) (hlb : lc'.blk = l.blk)
    (hx : BRel G (φ.put h.next lc') x lc' w') (hw : ∀ k, k ≠ l.blk → w'.heap[k]? = w.heap[k]?) :
    HRel G (φ.put h.next lc') (H.new { t := h.t.del b, next := h.next } x) w' ∧ Ext φ (φ.put h.next lc') h (H.new { t := h.t.del b, next := h.next } x) w := by
  have hle : φ.le (φ.put h.next lc') := Mp.le_put hf
  have sp : ∀ {b' : Nat} {y : B}, (H.new { t := h.t.del b, next := h.next } x).t.get b' = some y → (b' = h.next ∧ y = x) ∨ (b' ≠ h.next ∧ b' ≠ b ∧ h.t.get b' = some y) := by
    intro b' y e
    rcases get_new e with ⟨h1, h2⟩ | ⟨h1, h2⟩
    · exact .inl ⟨h1, h2⟩
    · exact .inr ⟨h1, (T.get_del h2).1, (T.get_del h2).2⟩
  refine ⟨⟨?_, ?_, ?_⟩, ⟨hle, ?_, by simp [H.new], ?_⟩⟩
  · intro b' y l' hb' hl'
    rcases sp hb' with ⟨rfl, rfl⟩ | ⟨hne, hnb, hy⟩
    · rw [Mp.put_self] at hl'; cases hl'; exact hx
    · rw [Mp.put_other hne] at hl'
      refine (r.blk b' y l' hy hl').mono hle (hw _ fun e => hnb (r.inj _ _ _ _ _ _ hy hb hl' hl e))
  · intro b1 b2 x1 x2 l1 l2 h1 h2 h3 h4 h5
    rcases sp h1 with ⟨e1, _⟩ | ⟨n1, m1, g1⟩
    · rcases sp h2 with ⟨e2, _⟩ | ⟨n2, m2, g2⟩
      · rw [e1, e2]
      · rw [e1, Mp.put_self] at h3; cases h3
        rw [Mp.put_other n2] at h4
        exact absurd (r.inj _ _ _ _ _ _ g2 hb h4 hl (h5.symm.trans hlb)) m2
    · rw [Mp.put_other n1] at h3
      rcases sp h2 with ⟨e2, _⟩ | ⟨n2, m2, g2⟩
      · rw [e2, Mp.put_self] at h4; cases h4
        exact absurd (r.inj _ _ _ _ _ _ g1 hb h3 hl (h5.trans hlb)) m1
      · rw [Mp.put_other n2] at h4
        exact r.inj _ _ _ _ _ _ g1 g2 h3 h4 h5
  · intro b' hb'
    cases hy : (H.new { t := h.t.del b, next := h.next } x).t.get b' with
    | none => rfl
    | some y =>
      have hb'' : h.next + 1 ≤ b' := hb'
      rcases sp hy with ⟨rfl, _⟩ | ⟨_, _, hy⟩
      · omega
      · rw [r.fresh _ (by omega)] at hy; cases hy
  · intro b' hb' hr
    rw [Mp.put_other (by simp only [H.new] at hr; omega)]; exact hb'
  · intro k ⟨b', y, l', h1, h2, h3⟩ hk
    rcases sp h1 with ⟨rfl, _⟩ | ⟨hne, _, hy⟩
    · rw [Mp.put_self] at h2; cases h2; exact ⟨b, x0, l, hb, hl, hlb.symm.trans h3⟩
    · rw [Mp.put_other hne] at h2; exact ⟨b', y, l', hy, h2, h3⟩

theorem app_middle {t0 t1 ty el : TypeId} {ts : List TypeId} {i : TypeInfo} {zv ux : Value} {m b len cap n : Nat} {ex : Bool} {cs : T V} {lc : Loc} {new : List V} {unew : Array Value} (hu : P.underlying t0 = some (.slice el)) (hi : P.info? el = some i) (hz : i.zero = some zv)
    (hzs : zv.cells.size = i.size) (hs : Src P w t1 i zv ux m unew) (hnew : concL G φ new = some unew.toList) (hcell : areCells new = true) (r : HRel G φ h w) (hf : φ h.next = none)
    (hb : h.t.get b = some (.cells cs n i.size ex)) (hlc : φ b = some lc) (hcap : cap * i.size = n) (_hk : cap < len + m) (hbig : len + m ≤ 70368744177664) (hby : (len + m) * i.bytes ≤ 70368744177664)
    (hold : len * i.size ≤ n) (hnl : new.length = m * i.size) :
    DidV G φ h w (.slice h.next 0 (len + m) (len + m) true) (H.new { t := h.t.del b, next := h.next } (.cells (T.setRow new (len * i.size) cs) ((len + m) * i.size) i.size false))
      ((Builtin.append_ (t0 :: t1 :: ts).toArray ty #[.slice (some ⟨lc.blk, 0, none⟩) len (cap + lc.slack), ux]).run P w) := by
  obtain ⟨C, e, h1, h2, h3, h5⟩ := r.cells hb hlc
  have hul := concL_length hnew
  simp only [Array.length_toList] at hul
  have hbn : b ≠ h.next := fun hh => by rw [hh, r.fresh _ (Nat.le_refl _)] at hb; cases hb
  have rd := r.del b
  by_cases hroom : len + m ≤ cap + lc.slack
  · -- in place
    have hfit : (len + m) * i.size ≤ C.size := by
      rw [h2, ← hcap, ← Nat.add_mul]
      exact Nat.mul_le_mul_right _ hroom
    have hst := run_storeCells_at P lc.blk (len * i.size) e unew.toList 0 C w h1 (by simp; rw [hul, hnl, Nat.add_mul] at *; omega) (areCells_conc hcell hnew)
    simp only [Nat.add_zero] at hst
    have hr := run_app_room (ty := ty) (ts := ts) hu hi hz hs (base := some ⟨lc.blk, 0, none⟩) hroom (.inr ⟨_, rfl, by rw [Addr.add_lit, Nat.zero_add]; exact hst⟩)
    have hx : BRel G (φ.put h.next ⟨lc.blk, 0, cap + lc.slack - (len + m)⟩) (.cells (T.setRow new (len * i.size) cs) ((len + m) * i.size) i.size false) ⟨lc.blk, 0, cap + lc.slack - (len + m)⟩ (w.setRow lc.blk (C.toList.take (len * i.size) ++ unew.toList ++ C.toList.drop (len * i.size + unew.toList.length)).toArray) := by
      refine ⟨_, e, setRow_heap w lc.blk C _ e _ h1, ?_, (fun hh => Bool.noConfusion hh), ?_⟩
      · have h6 : (len + m) * i.size + (cap + lc.slack - (len + m)) * i.size = (cap + lc.slack) * i.size := by rw [← Nat.add_mul]; congr 1; omega
        rw [Nat.add_mul cap, hcap] at h6
        simp
        rw [Nat.add_mul] at hfit h6 ⊢
        omega
      · intro j v hj hg
        simp only [List.getElem?_toArray]
        rcases T.get_setRow hg with ⟨q, rfl, hq⟩ | ⟨hi', hg⟩
        · obtain ⟨u, hu1, hcu⟩ := concL_get hnew q v hq
          refine ⟨u, conc_mono (Mp.le_put hf) hcu, ?_⟩
          have hql : q < unew.toList.length := (List.getElem?_eq_some_iff.1 hu1).1
          rw [Nat.add_mul] at hfit
          have h7 : (C.toList.take (len * i.size)).length = len * i.size := by simp; omega
          rw [List.append_assoc, List.getElem?_append_right (by omega), h7, List.getElem?_append_left (by omega), ← hu1]
          congr 1; omega
        · have hlt : j < len * i.size := by
            rcases hi' with hlt | hge
            · exact hlt
            · rw [Nat.add_mul] at hj; omega
          obtain ⟨u, hu1, hcu⟩ := h5 j v (by omega) hg
          refine ⟨u, conc_mono (Mp.le_put hf) hu1, ?_⟩
          rw [List.append_assoc, List.getElem?_append_left (by simp; rw [Nat.add_mul] at hfit; omega), List.getElem?_take, if_pos hlt]
          simpa using hcu
    obtain ⟨r', x'⟩ := r.retake (lc' := ⟨lc.blk, 0, cap + lc.slack - (len + m)⟩) hf hb hlc rfl hx (fun k hk => setRow_other w lc.blk k _ (fun e => hk (by first | exact e | exact e.symm)))
    refine ⟨_, .slice (some ⟨lc.blk, 0, none⟩) (len + m) (cap + lc.slack), _, hr, ?_, r', setRow_frame _ ⟨b, _, lc, hb, hlc, rfl⟩, x'⟩
    rw [conc, Mp.put_self]
    simp only [cond_true]
    rw [show len + m + (cap + lc.slack - (len + m)) = cap + lc.slack by omega]
  · -- a new block
    have hus : (C.toList.take (len * i.size)).length = len * i.size := by simp; omega
    have hfo : ∀ w' : World, w'.heap = w.heap → (Builtin.firstCells i.size len (.slice (some ⟨lc.blk, 0, none⟩) len (cap + lc.slack))).run P w' = .ok (C.toList.take (len * i.size)).toArray w' := by
      intro w' hw'
      refine run_firstCells_some (P := P) w' i.size len ⟨lc.blk, 0, none⟩ len _ _ hus ?_
      intro j u hj
      rw [Addr.add_lit]
      rw [List.getElem?_take] at hj
      split at hj
      · simp only [Array.getElem?_toList] at hj
        simp [World.cell?, hw', h1, hj]
      · cases hj
    have hr := run_app_grow (ty := ty) (ts := ts) (old := (C.toList.take (len * i.size)).toArray) hu hi hz hs (sLen := len) (by omega) hbig hby hfo
    have r0 : HRel G φ { t := h.t.del b, next := h.next } w.drew := rd.frame (Mp.le_refl _) (fun _ _ _ _ h => h) (fun _ _ => rfl)
    obtain ⟨r', f', x'⟩ := r0.alloc hf (x := .cells (T.setRow new (len * i.size) cs) ((len + m) * i.size) i.size false) (sl := grownCap w (len + m) (cap + lc.slack) el - (len + m))
      (o := .cells ((C.toList.take (len * i.size)).toArray ++ unew ++ Builtin.zeroCells zv.cells (grownCap w (len + m) (cap + lc.slack) el - (len + m))) el) (by
        refine ⟨_, el, heap_alloc_new w.drew _, ?_, (fun hh => Bool.noConfusion hh), ?_⟩
        · simp [Builtin.zeroCells, hzs, hul, hnl, Nat.add_mul]
          omega
        · intro j v hj hg
          have hup : ∀ k, k < len * i.size + unew.size → ((C.toList.take (len * i.size)).toArray ++ unew ++ Builtin.zeroCells zv.cells (grownCap w (len + m) (cap + lc.slack) el - (len + m)))[k]? = ((C.toList.take (len * i.size)).toArray ++ unew)[k]? := by
            intro k hk
            rw [Array.getElem?_append_left (by simp; omega)]
          rw [Nat.add_mul] at hj
          rw [hup j (by omega)]
          rcases T.get_setRow hg with ⟨q, rfl, hq⟩ | ⟨hi', hg⟩
          · obtain ⟨u, hu1, hcu⟩ := concL_get hnew q v hq
            refine ⟨u, conc_mono (Mp.le_put hf) hcu, ?_⟩
            rw [Array.getElem?_append_right (by simp; omega)]
            have h8 : len * i.size + q - (C.toList.take (len * i.size)).toArray.size = q := by simp; omega
            rw [h8]
            simpa using hu1
          · have hlt : j < len * i.size := by
              rcases hi' with hlt | hge
              · exact hlt
              · omega
            obtain ⟨u, hu1, hcu⟩ := h5 j v (by omega) hg
            refine ⟨u, conc_mono (Mp.le_put hf) hu1, ?_⟩
            rw [Array.getElem?_append_left (by simp; omega)]
            simp [hlt, hcu])
    have f2 : Frame φ h w (w.drew.alloc (.cells ((C.toList.take (len * i.size)).toArray ++ unew ++ Builtin.zeroCells zv.cells (grownCap w (len + m) (cap + lc.slack) el - (len + m))) el)) := by
      have := f'.del
      exact ⟨this.os, this.tape, this.output, this.size, this.block⟩
    have x2 := x'.del
    refine ⟨_, .slice (some ⟨w.heap.size, 0, none⟩) (len + m) (grownCap w (len + m) (cap + lc.slack) el), _, hr, ?_, r', f2, ⟨x2.le, x2.new, x2.next, x2.foot⟩⟩
    rw [conc, Mp.put_self]
    have := grownCap_ge w (len + m) (cap + lc.slack) el
    simp only [cond_true]
    rw [show len + m + (grownCap w (len + m) (cap + lc.slack) el - (len + m)) = grownCap w (len + m) (cap + lc.slack) el by omega]
    rfl
end
end Go.Proofs.YtjpkfdmjhgnmbaaGreat.Gv
