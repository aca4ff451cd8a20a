/- Operations, twelfth part: append. -/
import Derived.Test.YtmfmjhklajmhoaaGreatGvOps11
namespace Go.Proofs.YtmfmjhklajmhoaaGreat.Gv
open Go
section
variable {E : Env} {P : Program} {G : Gh} {φ : Mp} {h h' : H} {w : World} {s : Fr} {a : Act} {v : V} {o : Oper}
def Src (P : Program) (w : World) (t1 : TypeId) (i : TypeInfo) (zv x : Value) (n : Nat) (new : Array Value) : Prop :=
 (∃ d, P.underlying t1 = some d ∧ (∀ k, d ≠ .int k) ∧ (∀ w' : World, (Builtin.lenOf x).run P w' = .ok n w') ∧ ∀ w' : World, w'.heap = w.heap → (Builtin.firstCells i.size n x).run P w' = .ok new w') ∨
 (∃ k kd, P.underlying t1 = some (.int k) ∧ x = .int kd (n : Int) ∧ n ≤ 70368744177664 ∧ n * i.bytes ≤ 70368744177664 ∧ zv.cells.size = i.size ∧ new = Builtin.zeroCells zv.cells n)
theorem run_app_room {t0 t1 ty el : TypeId} {ts : List TypeId} {i : TypeInfo} {zv x : Value} {n sLen sCap : Nat} {new : Array Value} {base : Option Addr} (hu : P.underlying t0 = some (.slice el)) (hi : P.info? el = some i) (hz : i.zero = some zv)
 (hs : Src P w t1 i zv x n new) (hroom : sLen + n ≤ sCap) {w' : World} (hst : (base = none ∧ w' = w) ∨ ∃ ad, base = some ad ∧ (storeCells (ad.add (sLen * i.size)) new.toList).run P w = .ok () w') :
 (Builtin.append_ (t0 :: t1 :: ts).toArray ty #[.slice base sLen sCap, x]).run P w = .ok (.slice base (sLen + n) sCap) w' := by
 rcases hs with ⟨d, hd, hne, hlen, hfc⟩ | ⟨k, kd, hd, rfl, hn1, hn2, hzs, rfl⟩
 · have hm : (match d with | .int _ => true | _ => false) = false := by cases d <;> first | rfl | exact absurd rfl (hne _)
   have hfc' := hfc w rfl
   have hnk : ∀ k, ¬ (d = .int k) := hne
   rcases hst with ⟨rfl, rfl⟩ | ⟨ad, rfl, hst⟩
   · simp [Builtin.append_, run_underlying hu, run_underlying hd, sizeOf, typeInfo, hi, hlen, hroom, hfc']
   · simp [Builtin.append_, run_underlying hu, run_underlying hd, sizeOf, typeInfo, hi, hlen, hroom, hfc', hst]
 · have hw : IntKind.i64.wrap (n : Int) = n := by rw [IntKind.wrap_i64]; omega
   have h0 : ¬ ((n : Int) < 0) := by omega
   have h1 : ¬ (281474976710656 < (n : Int) * (i.bytes : Int)) := by
    have : ((n * i.bytes : Nat) : Int) = (n : Int) * (i.bytes : Int) := Int.natCast_mul _ _
    rw [← this]
    generalize n * i.bytes = q at hn2
    omega
   have hzv : ∀ w' : World, (zeroValue el).run P w' = .ok zv w' := fun w' => by simp [zeroValue, typeInfo, hi, hz]
   have hz0 : n * i.size = 0 → Builtin.zeroCells zv.cells n = #[] := fun h0 => by
    apply Array.eq_empty_of_size_eq_zero
    simp [Builtin.zeroCells, hzs, h0]
   rcases hst with ⟨rfl, rfl⟩ | ⟨ad, rfl, hst⟩
   · simp [Builtin.append_, run_underlying hu, run_underlying hd, sizeOf, typeInfo, hi, asInt, asIntOf, hw, h0, h1, hroom, hzv]
   · by_cases hc : n * i.size = 0
     · rw [hz0 hc] at hst
       simp [Builtin.append_, run_underlying hu, run_underlying hd, sizeOf, typeInfo, hi, asInt, asIntOf, hw, h0, h1, hroom, hzv, hc]
       simp at hst
       simp [hst]
     · simp [Builtin.append_, run_underlying hu, run_underlying hd, sizeOf, typeInfo, hi, asInt, asIntOf, hw, h0, h1, hroom, hzv, hc, hst]
theorem run_app_grow {t0 t1 ty el : TypeId} {ts : List TypeId} {i : TypeInfo} {zv x : Value} {n sLen sCap : Nat} {old new : Array Value} {base : Option Addr} (hu : P.underlying t0 = some (.slice el)) (hi : P.info? el = some i) (hz : i.zero = some zv)
 (hs : Src P w t1 i zv x n new) (hroom : sCap < sLen + n) (hbig : sLen + n ≤ 70368744177664) (hby : (sLen + n) * i.bytes ≤ 70368744177664)
 (hold : ∀ w' : World, w'.heap = w.heap → (Builtin.firstCells i.size sLen (.slice base sLen sCap)).run P w' = .ok old w') :
 (Builtin.append_ (t0 :: t1 :: ts).toArray ty #[.slice base sLen sCap, x]).run P w =
  .ok (.slice (some ⟨w.heap.size, 0, none⟩) (sLen + n) (grownCap w (sLen + n) sCap el))
   (w.drew.alloc (.cells (old ++ new ++ Builtin.zeroCells zv.cells (grownCap w (sLen + n) sCap el - (sLen + n))) el)) := by
 have hr : ¬ (sLen + n ≤ sCap) := by omega
 have h63 : ¬ (9223372036854775807 < (sLen : Int) + (n : Int)) := by omega
 have h48 : ¬ (281474976710656 < Builtin.nextslicecap (sLen + n) sCap * i.bytes) := by
  have := growslice_fits (bytes := i.bytes) hroom (by omega)
  omega
 have hzv : ∀ w' : World, (zeroValue el).run P w' = .ok zv w' := fun w' => by simp [zeroValue, typeInfo, hi, hz]
 have hold' := hold w.drew rfl
 rcases hs with ⟨d, hd, hne, hlen, hfc⟩ | ⟨k, kd, hd, rfl, hn1, hn2, hzs, rfl⟩
 · have hm : (match d with | .int _ => true | _ => false) = false := by cases d <;> first | rfl | exact absurd rfl (hne _)
   have hfc' := hfc w.drew rfl
   simp [Builtin.append_, run_underlying hu, run_underlying hd, sizeOf, typeInfo, hi, hlen, hr, hfc', h63, h48, hzv, hold', Question.forced, Go.newRow, grownCap]
 · have hw : IntKind.i64.wrap (n : Int) = n := by rw [IntKind.wrap_i64]; omega
   have h0 : ¬ ((n : Int) < 0) := by omega
   have h1 : ¬ (281474976710656 < (n : Int) * (i.bytes : Int)) := by
    have : ((n * i.bytes : Nat) : Int) = (n : Int) * (i.bytes : Int) := Int.natCast_mul _ _
    rw [← this]
    generalize n * i.bytes = q at hn2
    omega
   have hz0 : n * i.size = 0 → Builtin.zeroCells zv.cells n = #[] := fun h0 => by
    apply Array.eq_empty_of_size_eq_zero
    simp [Builtin.zeroCells, hzs, h0]
   by_cases hc : n * i.size = 0
   · rw [hz0 hc]
     simp [Builtin.append_, run_underlying hu, run_underlying hd, sizeOf, typeInfo, hi, asInt, asIntOf, hw, h0, h1, hr, hzv, hc, h63, h48, hold', Question.forced, Go.newRow, grownCap]
   · simp [Builtin.append_, run_underlying hu, run_underlying hd, sizeOf, typeInfo, hi, asInt, asIntOf, hw, h0, h1, hr, hzv, hc, h63, h48, hold', Question.forced, Go.newRow, grownCap]
theorem strCells_ok : ∀ (n x : Nat), concL G φ (strCells n x) = some ((strL n x).map fun b => Value.int .u8 b.toNat)
 | 0, x => concL_nil
 | n + 1, x => by
   show concL G φ (.int .u8 (Int.ofNat (x % 256)) :: strCells n (x / 256)) = _
   refine concL_cons.2 ⟨_, _, by rw [conc], strCells_ok n (x / 256), ?_⟩
   rw [strL, List.map_cons]
   congr 1
   have : x % 256 < 256 := Nat.mod_lt _ (by omega)
   simp
theorem src_ok {t1 : TypeId} {i : TypeInfo} {zv : Value} {x : V} {ux : Value} {g : Nat → List V → RV} {d : TypeDesc} (hd : P.underlying t1 = some d) (hne : ∀ k, d ≠ .int k) (hx : conc G φ x = some ux) (r : HRel G φ h w)
 (e : srcF i.size h x (fun n => n) g = .ok v h') : ∃ m new unew, Src P w t1 i zv ux m unew ∧ concL G φ new = some unew.toList ∧ g m new = .ok v h' := by
 unfold srcF at e
 split at e
 · rw [conc] at hx; cases hx
   exact ⟨0, [], #[], .inl ⟨d, hd, hne, fun w' => by simp [Builtin.lenOf], fun w' _ => by simp [Builtin.firstCells]⟩, concL_nil, e⟩
 · rename_i j
   rw [conc] at hx
   cases hj : φ j with
   | none => rw [hj] at hx; cases hx
   | some lc =>
     rw [hj] at hx; cases hx
     refine ⟨0, [], #[], .inl ⟨d, hd, hne, fun w' => by simp [Builtin.lenOf], fun w' _ => ?_⟩, concL_nil, e⟩
     simpa using run_firstCells_some (P := P) w' i.size 0 ⟨lc.blk, lc.off, none⟩ 0 lc.slack [] (by simp) (by simp)
 · rename_i b off len c xx
   obtain ⟨yb, cs, n, hb, hrd, e1⟩ := onRead_ok e
   clear e
   obtain ⟨hlt, e2⟩ := bif_ok e1
   clear e1
   rw [nble, decide_eq_true_eq] at hlt
   obtain ⟨l, hl, e3⟩ := onSome_ok e2
   clear e2
   obtain ⟨lc, hlc, rfl⟩ := conc_slice hx
   obtain ⟨us, hus, hlen, hcell⟩ := r.rrow hb hrd hlc hlt hl
   refine ⟨len, l, us.toArray, .inl ⟨d, hd, hne, fun w' => by simp [Builtin.lenOf], fun w' hw' => ?_⟩, by simpa using hus, e3⟩
   have hc' : ∀ (j : Nat) (v : Value), us[j]? = some v → w'.cell? (Addr.add ⟨lc.blk, off, none⟩ j) = some v := by
    intro j u hj
    rw [Addr.add_lit]
    have := hcell j u hj
    unfold World.cell? at this ⊢
    rw [hw']
    exact this
   exact run_firstCells_some (P := P) w' i.size len ⟨lc.blk, off, none⟩ len _ us hlen hc'
 · rename_i n z
   rw [conc] at hx; cases hx
   refine ⟨n, strCells n z, ((strL n z).map fun b => Value.int .u8 b.toNat).toArray, .inl ⟨d, hd, hne, fun w' => by simp [Builtin.lenOf, strL_size], fun w' _ => ?_⟩, by simpa using strCells_ok n z, e⟩
   have hext : (⟨(strL n z).toArray⟩ : ByteArray).extract 0 n = ⟨(strL n z).toArray⟩ := by
    apply ByteArray.ext
    rw [ByteArray.data_extract]
    apply Array.ext'
    simp only [Array.toList_extract, List.extract_eq_take_drop, Nat.sub_zero, List.drop_zero]
    exact List.take_of_length_le (by rw [strL_length]; exact Nat.le_refl n)
   simp [Builtin.firstCells, hext]
 · cases e
end
end Go.Proofs.YtmfmjhklajmhoaaGreat.Gv
namespace Go.Proofs.YtmfmjhklajmhoaaGreat.Gv
open Go
section
variable {E : Env} {P : Program} {G : Gh} {φ : Mp} {h h' : H} {w : World} {s : Fr} {a : Act} {v : V} {o : Oper}
theorem HRel.grown (r : HRel G φ h w) (hfn : φ h.next = none) {zv : Value} {vs : List V} {C : Array Value} {need k sz : Nat} (el : TypeId) (hv : concL G φ vs = some C.toList) (hC : C.size = need * sz)
 (hz : zv.cells.size = sz) (_hk : k = grownCap w need 0 el ∨ True) (sl : Nat) :
 HRel G (φ.put h.next ⟨w.heap.size, 0, sl⟩) (h.new (.cells (T.ofList vs) (need * sz) sz false)) (w.drew.alloc (.cells (C ++ Builtin.zeroCells zv.cells sl) el)) ∧
  Frame G φ h w (w.drew.alloc (.cells (C ++ Builtin.zeroCells zv.cells sl) el)) ∧ Ext φ (φ.put h.next ⟨w.heap.size, 0, sl⟩) h (h.new (.cells (T.ofList vs) (need * sz) sz false)) w := by
 have r0 : HRel G φ h w.drew := r.frame (Mp.le_refl _) (fun _ _ _ _ h => h) (fun _ _ => rfl)
 obtain ⟨r', f', x'⟩ := r0.newRow hfn (C := C ++ Builtin.zeroCells zv.cells sl) (sl := sl) (ex := false) (n := need * sz) (sz := sz) el hv (by simp [Builtin.zeroCells, hC, hz])
  (fun j hj => by rw [Array.getElem?_append_left (by omega)]; simp) (fun hh => by cases hh)
 exact ⟨r', ⟨fun hm => Nat.le_trans (Nat.le_succ _) (f'.drawn hm), f'.os, f'.tape, f'.output, f'.size, f'.block⟩, ⟨x'.le, x'.new, x'.next, x'.foot⟩⟩
theorem app_nil {t0 t1 ty el : TypeId} {ts : List TypeId} {i : TypeInfo} {zv ux : Value} {m : Nat} {new : List V} {unew : Array Value} (hu : P.underlying t0 = some (.slice el)) (hi : P.info? el = some i) (hz : i.zero = some zv)
 (hzs : zv.cells.size = i.size) (hs : Src P w t1 i zv ux m unew) (hnew : concL G φ new = some unew.toList) (r : HRel G φ h w) (hf : Free φ h.next h'.next)
 (e : (Nat.rec (motive := fun _ => RV) (.ok .nilslice h) (fun _ _ => bif Nat.ble (m * i.bytes) 70368744177664 && Nat.ble m 70368744177664 then newRow h new (m * i.size) i.size false fun b h => .ok (.slice b 0 m m true) h else .bad "append: great" 0) m : RV) = .ok v h') :
 DidV G φ h w v h' ((Builtin.append_ (t0 :: t1 :: ts).toArray ty #[.slice none 0 0, ux]).run P w) := by
 cases m with
 | zero =>
   cases e
   have hr := run_app_room (ty := ty) (ts := ts) hu hi hz hs (sLen := 0) (sCap := 0) (base := none) (Nat.le_refl 0) (w' := w) (.inl ⟨rfl, rfl⟩)
   exact DidV.same r (by rw [conc]) hr
 | succ m =>
   obtain ⟨hb, e1⟩ := bif_ok (x := newRow h new ((m + 1) * i.size) i.size false fun b h => .ok (.slice b 0 (m + 1) (m + 1) true) h) e
   clear e
   simp only [Bool.and_eq_true, nble, decide_eq_true_eq] at hb
   obtain ⟨hcell, hlen, e2⟩ := newRow_ok e1
   clear e1
   cases e2
   have hfn : φ h.next = none := hf _ (Nat.le_refl _) (by simp [H.new])
   have hr := run_app_grow (ty := ty) (ts := ts) (old := #[]) hu hi hz hs (sLen := 0) (sCap := 0) (base := none) (by omega) (by omega) (by simpa using hb.1) (fun w' _ => by simp [Builtin.firstCells])
   have hul := concL_length hnew
   simp only [Array.length_toList] at hul
   simp only [Nat.zero_add] at hr
   obtain ⟨r', f', x'⟩ := r.grown hfn (need := m + 1) (k := 0) el hnew (by omega) hzs (.inr trivial) (grownCap w (m + 1) 0 el - (m + 1))
   refine ⟨_, .slice (some ⟨w.heap.size, 0, none⟩) (m + 1) (grownCap w (m + 1) 0 el), _, ?_, ?_, r', f', x'⟩
   · rw [hr]; simp
   · rw [conc, Mp.put_self]
     have := grownCap_ge w (m + 1) 0 el
     simp only [cond_true]
     rw [show m + 1 + (grownCap w (m + 1) 0 el - (m + 1)) = grownCap w (m + 1) 0 el by omega]
theorem HRel.del (r : HRel G φ h w) (b : Nat) : HRel G φ { t := h.t.del b, next := h.next } w :=
 ⟨fun b' x l hb hl => r.blk b' x l (T.get_del hb).2 hl, fun b1 b2 x1 x2 l1 l2 h1 h2 => r.inj b1 b2 x1 x2 l1 l2 (T.get_del h1).2 (T.get_del h2).2, fun b' hb => by
  cases hy : (h.t.del b).get b' with
  | none => rfl
  | some y => have := (T.get_del hy).2; rw [r.fresh b' hb] at this; cases this⟩
theorem Frame.del {b : Nat} {w' : World} (f : Frame G φ { t := h.t.del b, next := h.next } w w') : Frame G φ h w w' :=
 ⟨f.drawn, f.os, f.tape, f.output, f.size, fun k hk hn => f.block k hk (fun ⟨b', x, l, h1, h2, h3⟩ => hn ⟨b', x, l, (T.get_del h1).2, h2, h3⟩)⟩
theorem Ext.del {b : Nat} {φ' : Mp} {h' : H} (x : Ext φ φ' { t := h.t.del b, next := h.next } h' w) : Ext φ φ' h h' w :=
 ⟨x.le, x.new, x.next, fun k hf hk => let ⟨b', y, l, h1, h2, h3⟩ := x.foot k hf hk; ⟨b', y, l, (T.get_del h1).2, h2, h3⟩⟩
theorem app_known {t0 t1 ty el : TypeId} {ts : List TypeId} {i : TypeInfo} {zv ux : Value} {m b off len cap n : Nat} {xx ex : Bool} {cs : T V} {lc : Loc} {old new : List V} {unew : Array Value} (hu : P.underlying t0 = some (.slice el)) (hi : P.info? el = some i) (hz : i.zero = some zv)
 (hzs : zv.cells.size = i.size) (hs : Src P w t1 i zv ux m unew) (hnew : concL G φ new = some unew.toList) (r : HRel G φ h w) (hf : φ h.next = none)
 (hb : h.t.get b = some (.cells cs n i.size ex)) (hlc : φ b = some lc) (hk : (bif xx then cap + lc.slack else cap) < len + m) (hbig : len + m ≤ 70368744177664) (hby : (len + m) * i.bytes ≤ 70368744177664)
 (hold : off + len * i.size ≤ n) (hrange : T.range cs (len * i.size) off = some old) (hnl : new.length = m * i.size) :
 DidV G φ h w (.slice h.next 0 (len + m) (len + m) true) (h.new (.cells (T.ofList (old ++ new)) ((len + m) * i.size) i.size false))
  ((Builtin.append_ (t0 :: t1 :: ts).toArray ty #[.slice (some ⟨lc.blk, off, none⟩) len (bif xx then cap + lc.slack else cap), ux]).run P w) := by
 obtain ⟨us, hus, hlen, hcell⟩ := r.row hb hlc hold hrange
 have hfo : ∀ w' : World, w'.heap = w.heap → (Builtin.firstCells i.size len (.slice (some ⟨lc.blk, off, none⟩) len (bif xx then cap + lc.slack else cap))).run P w' = .ok us.toArray w' := by
  intro w' hw'
  refine run_firstCells_some (P := P) w' i.size len ⟨lc.blk, off, none⟩ len _ us hlen ?_
  intro j u hj
  rw [Addr.add_lit]
  have := hcell j u hj
  unfold World.cell? at this ⊢
  rw [hw']
  exact this
 have hr := run_app_grow (ty := ty) (ts := ts) (old := us.toArray) hu hi hz hs (sLen := len) hk hbig hby hfo
 have hul := concL_length hnew
 simp only [Array.length_toList] at hul
 have hcat : concL G φ (old ++ new) = some (us.toArray ++ unew).toList := by
  rw [Array.toList_append]; exact concL_append hus hnew
 obtain ⟨r', f', x'⟩ := r.grown hf (need := len + m) (k := 0) el hcat (by simp [hlen, hul, hnl, Nat.add_mul]) hzs (.inr trivial) (grownCap w (len + m) (bif xx then cap + lc.slack else cap) el - (len + m))
 refine ⟨_, .slice (some ⟨w.heap.size, 0, none⟩) (len + m) (grownCap w (len + m) (bif xx then cap + lc.slack else cap) el), _, hr, ?_, r', f', x'⟩
 rw [conc, Mp.put_self]
 have := grownCap_ge w (len + m) (bif xx then cap + lc.slack else cap) el
 simp only [cond_true]
 rw [show len + m + (grownCap w (len + m) (bif xx then cap + lc.slack else cap) el - (len + m)) = grownCap w (len + m) (bif xx then cap + lc.slack else cap) el by omega]
theorem HRel.retake (r : HRel G φ h w) (hf : φ h.next = none) {b : Nat} {x0 x : B} {l lc' : Loc} {w' : World} (hb : h.t.get b = some x0) (hl : φ b = some l) (hlb : lc'.blk = l.blk)
 (hx : BRel G (φ.put h.next lc') x lc' w') (hw : ∀ k, k ≠ l.blk → w'.heap[k]? = w.heap[k]?) (h0 : x0.isRo = false := by rfl) :
 HRel G (φ.put h.next lc') (H.new { t := h.t.del b, next := h.next } x) w' ∧ Ext φ (φ.put h.next lc') h (H.new { t := h.t.del b, next := h.next } x) w := by
 have hle : φ.le (φ.put h.next lc') := Mp.le_put hf
 have sp : ∀ {b' : Nat} {y : B}, (H.new { t := h.t.del b, next := h.next } x).t.get b' = some y → (b' = h.next ∧ y = x) ∨ (b' ≠ h.next ∧ b' ≠ b ∧ h.t.get b' = some y) := by
  intro b' y e
  rcases get_new e with ⟨h1, h2⟩ | ⟨h1, h2⟩
  · exact .inl ⟨h1, h2⟩
  · exact .inr ⟨h1, (T.get_del h2).1, (T.get_del h2).2⟩
 refine ⟨⟨?_, ?_, ?_⟩, ⟨hle, ?_, by simp [H.new], ?_⟩⟩
 · intro b' y l' hb' hl'
   rcases sp hb' with ⟨rfl, rfl⟩ | ⟨hne, hnb, hy⟩
   · rw [Mp.put_self] at hl'; cases hl'; exact hx
   · rw [Mp.put_other hne] at hl'
     refine (r.blk b' y l' hy hl').mono hle (hw _ fun e => hnb (r.inj1 hy hb hl' hl h0 e))
 · intro b1 b2 x1 x2 l1 l2 h1 h2 h3 h4 h5
   rcases sp h1 with ⟨e1, _⟩ | ⟨n1, m1, g1⟩
   · rcases sp h2 with ⟨e2, _⟩ | ⟨n2, m2, g2⟩
     · exact .inl (by rw [e1, e2])
     · rw [e1, Mp.put_self] at h3; cases h3
       rw [Mp.put_other n2] at h4
       exact absurd (r.inj1 g2 hb h4 hl h0 (h5.symm.trans hlb)) m2
   · rw [Mp.put_other n1] at h3
     rcases sp h2 with ⟨e2, _⟩ | ⟨n2, m2, g2⟩
     · rw [e2, Mp.put_self] at h4; cases h4
       exact absurd (r.inj1 g1 hb h3 hl h0 (h5.trans hlb)) m1
     · rw [Mp.put_other n2] at h4
       exact r.inj _ _ _ _ _ _ g1 g2 h3 h4 h5
 · intro b' hb'
   cases hy : (H.new { t := h.t.del b, next := h.next } x).t.get b' with
   | none => rfl
   | some y =>
     have hb'' : h.next + 1 ≤ b' := hb'
     rcases sp hy with ⟨rfl, _⟩ | ⟨_, _, hy⟩
     · omega
     · rw [r.fresh _ (by omega)] at hy; cases hy
 · intro b' hb' hr
   rw [Mp.put_other (by simp only [H.new] at hr; omega)]; exact hb'
 · intro k ⟨b', y, l', h1, h2, h3⟩ hk
   rcases sp h1 with ⟨rfl, _⟩ | ⟨hne, _, hy⟩
   · rw [Mp.put_self] at h2; cases h2; exact ⟨b, x0, l, hb, hl, hlb.symm.trans h3⟩
   · rw [Mp.put_other hne] at h2; exact ⟨b', y, l', hy, h2, h3⟩
theorem app_middle {t0 t1 ty el : TypeId} {ts : List TypeId} {i : TypeInfo} {zv ux : Value} {m b len cap n : Nat} {ex : Bool} {cs : T V} {lc : Loc} {new : List V} {unew : Array Value} (hu : P.underlying t0 = some (.slice el)) (hi : P.info? el = some i) (hz : i.zero = some zv)
 (hzs : zv.cells.size = i.size) (hs : Src P w t1 i zv ux m unew) (hnew : concL G φ new = some unew.toList) (hcell : areCells new = true) (r : HRel G φ h w) (hf : φ h.next = none)
 (hb : h.t.get b = some (.cells cs n i.size ex)) (hlc : φ b = some lc) (hcap : cap * i.size = n) (_hk : cap < len + m) (hbig : len + m ≤ 70368744177664) (hby : (len + m) * i.bytes ≤ 70368744177664)
 (hold : len * i.size ≤ n) (hnl : new.length = m * i.size) :
 DidV G φ h w (.slice h.next 0 (len + m) (len + m) true) (H.new { t := h.t.del b, next := h.next } (.cells (T.setRow new (len * i.size) cs) ((len + m) * i.size) i.size false))
  ((Builtin.append_ (t0 :: t1 :: ts).toArray ty #[.slice (some ⟨lc.blk, 0, none⟩) len (cap + lc.slack), ux]).run P w) := by
 obtain ⟨C, e, h1, h2, h3, h5⟩ := r.cells hb hlc
 have hul := concL_length hnew
 simp only [Array.length_toList] at hul
 have hbn : b ≠ h.next := fun hh => by rw [hh, r.fresh _ (Nat.le_refl _)] at hb; cases hb
 have rd := r.del b
 by_cases hroom : len + m ≤ cap + lc.slack
 ·
  have hfit : (len + m) * i.size ≤ C.size := by
   rw [h2, ← hcap, ← Nat.add_mul]
   exact Nat.mul_le_mul_right _ hroom
  have hst := run_storeCells_at P lc.blk (len * i.size) e unew.toList 0 C w h1 (by simp; rw [hul, hnl, Nat.add_mul] at *; omega) (areCells_conc hcell hnew)
  simp only [Nat.add_zero] at hst
  have hr := run_app_room (ty := ty) (ts := ts) hu hi hz hs (base := some ⟨lc.blk, 0, none⟩) hroom (.inr ⟨_, rfl, by rw [Addr.add_lit, Nat.zero_add]; exact hst⟩)
  have hx : BRel G (φ.put h.next ⟨lc.blk, 0, cap + lc.slack - (len + m)⟩) (.cells (T.setRow new (len * i.size) cs) ((len + m) * i.size) i.size false) ⟨lc.blk, 0, cap + lc.slack - (len + m)⟩ (w.setRow lc.blk (C.toList.take (len * i.size) ++ unew.toList ++ C.toList.drop (len * i.size + unew.toList.length)).toArray) := by
   refine ⟨_, e, setRow_heap w lc.blk C _ e _ h1, ?_, (fun hh => Bool.noConfusion hh), ?_⟩
   · have h6 : (len + m) * i.size + (cap + lc.slack - (len + m)) * i.size = (cap + lc.slack) * i.size := by rw [← Nat.add_mul]; congr 1; omega
     rw [Nat.add_mul cap, hcap] at h6
     simp
     rw [Nat.add_mul] at hfit h6 ⊢
     omega
   · intro j v hj hg
     simp only [List.getElem?_toArray]
     rcases T.get_setRow hg with ⟨q, rfl, hq⟩ | ⟨hi', hg⟩
     · obtain ⟨u, hu1, hcu⟩ := concL_get hnew q v hq
       refine ⟨u, conc_mono (Mp.le_put hf) hcu, ?_⟩
       have hql : q < unew.toList.length := (List.getElem?_eq_some_iff.1 hu1).1
       rw [Nat.add_mul] at hfit
       have h7 : (C.toList.take (len * i.size)).length = len * i.size := by simp; omega
       rw [List.append_assoc, List.getElem?_append_right (by omega), h7, List.getElem?_append_left (by omega), ← hu1]
       congr 1; omega
     · have hlt : j < len * i.size := by
        rcases hi' with hlt | hge
        · exact hlt
        · rw [Nat.add_mul] at hj; omega
       obtain ⟨u, hu1, hcu⟩ := h5 j v (by omega) hg
       refine ⟨u, conc_mono (Mp.le_put hf) hu1, ?_⟩
       rw [List.append_assoc, List.getElem?_append_left (by simp; rw [Nat.add_mul] at hfit; omega), List.getElem?_take, if_pos hlt]
       simpa using hcu
  obtain ⟨r', x'⟩ := r.retake (lc' := ⟨lc.blk, 0, cap + lc.slack - (len + m)⟩) hf hb hlc rfl hx (fun k hk => setRow_other w lc.blk k _ (fun e => hk (by first | exact e | exact e.symm)))
  refine ⟨_, .slice (some ⟨lc.blk, 0, none⟩) (len + m) (cap + lc.slack), _, hr, ?_, r', setRow_frame _ ⟨b, _, lc, hb, hlc, rfl⟩, x'⟩
  rw [conc, Mp.put_self]
  simp only [cond_true]
  rw [show len + m + (cap + lc.slack - (len + m)) = cap + lc.slack by omega]
 ·
  have hus : (C.toList.take (len * i.size)).length = len * i.size := by simp; omega
  have hfo : ∀ w' : World, w'.heap = w.heap → (Builtin.firstCells i.size len (.slice (some ⟨lc.blk, 0, none⟩) len (cap + lc.slack))).run P w' = .ok (C.toList.take (len * i.size)).toArray w' := by
   intro w' hw'
   refine run_firstCells_some (P := P) w' i.size len ⟨lc.blk, 0, none⟩ len _ _ hus ?_
   intro j u hj
   rw [Addr.add_lit]
   rw [List.getElem?_take] at hj
   split at hj
   · simp only [Array.getElem?_toList] at hj
     simp [World.cell?, hw', h1, hj]
   · cases hj
  have hr := run_app_grow (ty := ty) (ts := ts) (old := (C.toList.take (len * i.size)).toArray) hu hi hz hs (sLen := len) (by omega) hbig hby hfo
  have r0 : HRel G φ { t := h.t.del b, next := h.next } w.drew := rd.frame (Mp.le_refl _) (fun _ _ _ _ h => h) (fun _ _ => rfl)
  obtain ⟨r', f', x'⟩ := r0.alloc hf (x := .cells (T.setRow new (len * i.size) cs) ((len + m) * i.size) i.size false) (sl := grownCap w (len + m) (cap + lc.slack) el - (len + m))
   (o := .cells ((C.toList.take (len * i.size)).toArray ++ unew ++ Builtin.zeroCells zv.cells (grownCap w (len + m) (cap + lc.slack) el - (len + m))) el) (by
    refine ⟨_, el, heap_alloc_new w.drew _, ?_, (fun hh => Bool.noConfusion hh), ?_⟩
    · simp [Builtin.zeroCells, hzs, hul, hnl, Nat.add_mul]
      omega
    · intro j v hj hg
      have hup : ∀ k, k < len * i.size + unew.size → ((C.toList.take (len * i.size)).toArray ++ unew ++ Builtin.zeroCells zv.cells (grownCap w (len + m) (cap + lc.slack) el - (len + m)))[k]? = ((C.toList.take (len * i.size)).toArray ++ unew)[k]? := by
       intro k hk
       rw [Array.getElem?_append_left (by simp; omega)]
      rw [Nat.add_mul] at hj
      rw [hup j (by omega)]
      rcases T.get_setRow hg with ⟨q, rfl, hq⟩ | ⟨hi', hg⟩
      · obtain ⟨u, hu1, hcu⟩ := concL_get hnew q v hq
        refine ⟨u, conc_mono (Mp.le_put hf) hcu, ?_⟩
        rw [Array.getElem?_append_right (by simp; omega)]
        have h8 : len * i.size + q - (C.toList.take (len * i.size)).toArray.size = q := by simp; omega
        rw [h8]
        simpa using hu1
      · have hlt : j < len * i.size := by
         rcases hi' with hlt | hge
         · exact hlt
         · omega
        obtain ⟨u, hu1, hcu⟩ := h5 j v (by omega) hg
        refine ⟨u, conc_mono (Mp.le_put hf) hu1, ?_⟩
        rw [Array.getElem?_append_left (by simp; omega)]
        simp [hlt, hcu])
  have f2 : Frame G φ h w (w.drew.alloc (.cells ((C.toList.take (len * i.size)).toArray ++ unew ++ Builtin.zeroCells zv.cells (grownCap w (len + m) (cap + lc.slack) el - (len + m))) el)) := by
   have := f'.del
   exact ⟨fun hm => Nat.le_trans (Nat.le_succ _) (this.drawn hm), this.os, this.tape, this.output, this.size, this.block⟩
  have x2 := x'.del
  refine ⟨_, .slice (some ⟨w.heap.size, 0, none⟩) (len + m) (grownCap w (len + m) (cap + lc.slack) el), _, hr, ?_, r', f2, ⟨x2.le, x2.new, x2.next, x2.foot⟩⟩
  rw [conc, Mp.put_self]
  have := grownCap_ge w (len + m) (cap + lc.slack) el
  simp only [cond_true]
  rw [show len + m + (grownCap w (len + m) (cap + lc.slack) el - (len + m)) = grownCap w (len + m) (cap + lc.slack) el by omega]
  rfl
theorem HRel.share (r : HRel G φ h w) (hf : φ h.next = none) {b : Nat} {x0 : B} {l lc' : Loc} {w' : World} {cs1 cs2 : T V} {n1 n2 : Nat} (hb : h.t.get b = some x0) (hl : φ b = some l) (h0 : x0.isRo = false) (hlb : lc'.blk = l.blk ∨ w.heap.size ≤ lc'.blk)
 (hx1 : BRel G (φ.put h.next lc') (.ro cs1 n1) l w') (hx : BRel G (φ.put h.next lc') (.ro cs2 n2) lc' w') (hw : ∀ k, k < w.heap.size → k ≠ l.blk → w'.heap[k]? = w.heap[k]?) :
 HRel G (φ.put h.next lc') (H.new { t := h.t.set b (.ro cs1 n1), next := h.next } (.ro cs2 n2)) w' ∧ Ext φ (φ.put h.next lc') h (H.new { t := h.t.set b (.ro cs1 n1), next := h.next } (.ro cs2 n2)) w := by
 have hle : φ.le (φ.put h.next lc') := Mp.le_put hf
 have hbn : b ≠ h.next := fun hh => by rw [hh, r.fresh _ (Nat.le_refl _)] at hb; cases hb
 have sp : ∀ {b' : Nat} {y : B}, (H.new { t := h.t.set b (.ro cs1 n1), next := h.next } (.ro cs2 n2)).t.get b' = some y → (b' = h.next ∧ y = .ro cs2 n2) ∨ (b' = b ∧ y = .ro cs1 n1) ∨ (b' ≠ h.next ∧ b' ≠ b ∧ h.t.get b' = some y) := by
  intro b' y e
  rcases get_new e with ⟨h1, h2⟩ | ⟨h1, h2⟩
  · exact .inl ⟨h1, h2⟩
  · have h2 : (h.t.set b (.ro cs1 n1)).get b' = some y := h2
    rcases T.get_set h2 with ⟨h3, h4⟩ | ⟨h3, h4⟩
    · exact .inr (.inl ⟨h3, h4⟩)
    · exact .inr (.inr ⟨h1, h3, h4⟩)
 have far : ∀ {b' : Nat} {y : B} {l' : Loc}, b' ≠ b → h.t.get b' = some y → φ b' = some l' → l'.blk ≠ l.blk := fun hne hy hl' e => hne (r.inj1 hy hb hl' hl h0 e)
 have far2 : ∀ {b' : Nat} {y : B} {l' : Loc}, b' ≠ b → h.t.get b' = some y → φ b' = some l' → l'.blk ≠ lc'.blk := fun hne hy hl' e => by
  rcases hlb with h1 | h1
  · exact far hne hy hl' (e.trans h1)
  · have := (r.blk _ _ _ hy hl').lt
    omega
 refine ⟨⟨?_, ?_, ?_⟩, ⟨hle, ?_, by simp [H.new], ?_⟩⟩
 · intro b' y l' hb' hl'
   rcases sp hb' with ⟨rfl, rfl⟩ | ⟨rfl, rfl⟩ | ⟨hne, hnb, hy⟩
   · rw [Mp.put_self] at hl'; cases hl'; exact hx
   · rw [Mp.put_other hbn, hl] at hl'; cases hl'; exact hx1
   · rw [Mp.put_other hne] at hl'
     have := r.blk b' y l' hy hl'
     exact this.mono hle (hw _ this.lt (far hnb hy hl'))
 · intro b1 b2 x1 x2 l1 l2 h1 h2 h3 h4 h5
   rcases sp h1 with ⟨rfl, rfl⟩ | ⟨rfl, rfl⟩ | ⟨n1, m1, g1⟩
   · rcases sp h2 with ⟨rfl, rfl⟩ | ⟨rfl, rfl⟩ | ⟨n2, m2, g2⟩
     · exact .inl rfl
     · exact .inr ⟨rfl, rfl⟩
     · rw [Mp.put_self] at h3; cases h3
       rw [Mp.put_other n2] at h4
       exact absurd h5.symm (far2 m2 g2 h4)
   · rcases sp h2 with ⟨rfl, rfl⟩ | ⟨rfl, rfl⟩ | ⟨n2, m2, g2⟩
     · exact .inr ⟨rfl, rfl⟩
     · exact .inl rfl
     · rw [Mp.put_other hbn, hl] at h3; cases h3
       rw [Mp.put_other n2] at h4
       exact absurd h5.symm (far m2 g2 h4)
   · rw [Mp.put_other n1] at h3
     rcases sp h2 with ⟨rfl, rfl⟩ | ⟨rfl, rfl⟩ | ⟨n2, m2, g2⟩
     · rw [Mp.put_self] at h4; cases h4
       exact absurd h5 (far2 m1 g1 h3)
     · rw [Mp.put_other hbn, hl] at h4; cases h4
       exact absurd h5 (far m1 g1 h3)
     · rw [Mp.put_other n2] at h4
       exact r.inj _ _ _ _ _ _ g1 g2 h3 h4 h5
 · intro b' hb'
   cases hy : (H.new { t := h.t.set b (.ro cs1 n1), next := h.next } (.ro cs2 n2)).t.get b' with
   | none => rfl
   | some y =>
     have hb'' : h.next + 1 ≤ b' := hb'
     rcases sp hy with ⟨rfl, _⟩ | ⟨rfl, _⟩ | ⟨_, _, hy⟩
     · omega
     · rw [r.fresh _ (by omega)] at hb; cases hb
     · rw [r.fresh _ (by omega)] at hy; cases hy
 · intro b' hb' hr
   rw [Mp.put_other (by simp only [H.new] at hr; omega)]; exact hb'
 · intro k ⟨b', y, l', h1, h2, h3⟩ hk
   rcases sp h1 with ⟨rfl, _⟩ | ⟨rfl, _⟩ | ⟨hne, _, hy⟩
   · rw [Mp.put_self] at h2; cases h2
     rcases hlb with h4 | h4
     · exact ⟨b, x0, l, hb, hl, h4.symm.trans h3⟩
     · omega
   · rw [Mp.put_other hbn] at h2; exact ⟨_, x0, l', hb, h2, h3⟩
   · rw [Mp.put_other hne] at h2; exact ⟨b', y, l', hy, h2, h3⟩
theorem app_share {t0 t1 ty el : TypeId} {ts : List TypeId} {i : TypeInfo} {zv ux : Value} {m b len cap n : Nat} {ex : Bool} {cs : T V} {lc : Loc} {new : List V} {unew : Array Value} (hu : P.underlying t0 = some (.slice el)) (hi : P.info? el = some i) (hz : i.zero = some zv)
 (_hzs : zv.cells.size = i.size) (hs : Src P w t1 i zv ux m unew) (hnew : concL G φ new = some unew.toList) (hcell : areCells new = true) (r : HRel G φ h w) (hf : φ h.next = none)
 (hb : h.t.get b = some (.cells cs n i.size ex)) (hlc : φ b = some lc) (hcap : cap * i.size = n) (_hk : cap < len + m) (hbig : len + m ≤ 70368744177664) (hby : (len + m) * i.bytes ≤ 70368744177664)
 (hold : len * i.size ≤ n) (hnl : new.length = m * i.size) :
 DidV G φ h w (.slice h.next 0 (len + m) (len + m) true) (H.new { t := h.t.set b (.ro cs (len * i.size)), next := h.next } (.ro (T.setRow new (len * i.size) cs) ((len + m) * i.size)))
  ((Builtin.append_ (t0 :: t1 :: ts).toArray ty #[.slice (some ⟨lc.blk, 0, none⟩) len (cap + lc.slack), ux]).run P w) := by
 obtain ⟨C, e, h1, h2, h3, h5⟩ := r.cells hb hlc
 have hul := concL_length hnew
 simp only [Array.length_toList] at hul
 have hblt : lc.blk < w.heap.size := (Array.getElem?_eq_some_iff.1 h1).1
 by_cases hroom : len + m ≤ cap + lc.slack
 ·
  have hfit : (len + m) * i.size ≤ C.size := by
   rw [h2, ← hcap, ← Nat.add_mul]
   exact Nat.mul_le_mul_right _ hroom
  have hst := run_storeCells_at P lc.blk (len * i.size) e unew.toList 0 C w h1 (by simp; rw [hul, hnl, Nat.add_mul] at *; omega) (areCells_conc hcell hnew)
  simp only [Nat.add_zero] at hst
  have hr := run_app_room (ty := ty) (ts := ts) hu hi hz hs (base := some ⟨lc.blk, 0, none⟩) hroom (.inr ⟨_, rfl, by rw [Addr.add_lit, Nat.zero_add]; exact hst⟩)
  have hsz : (C.toList.take (len * i.size) ++ unew.toList ++ C.toList.drop (len * i.size + unew.toList.length)).toArray.size = C.size := by
   simp
   rw [Nat.add_mul] at hfit
   omega
  have old : ∀ (j : Nat), j < len * i.size → (C.toList.take (len * i.size) ++ unew.toList ++ C.toList.drop (len * i.size + unew.toList.length)).toArray[j]? = C[j]? := by
   intro j hlt
   simp only [List.getElem?_toArray]
   rw [List.append_assoc, List.getElem?_append_left (by simp; rw [Nat.add_mul] at hfit; omega), List.getElem?_take, if_pos hlt]
   simp
  have hx1 : BRel G (φ.put h.next ⟨lc.blk, 0, cap + lc.slack - (len + m)⟩) (.ro cs (len * i.size)) lc (w.setRow lc.blk (C.toList.take (len * i.size) ++ unew.toList ++ C.toList.drop (len * i.size + unew.toList.length)).toArray) := by
   refine ⟨_, e, setRow_heap w lc.blk C _ e _ h1, by rw [hsz]; rw [Nat.add_mul] at hfit; omega, fun j v hj hg => ?_⟩
   obtain ⟨u, hu1, hcu⟩ := h5 j v (by omega) hg
   exact ⟨u, conc_mono (Mp.le_put hf) hu1, by rw [old j hj]; exact hcu⟩
  have hx : BRel G (φ.put h.next ⟨lc.blk, 0, cap + lc.slack - (len + m)⟩) (.ro (T.setRow new (len * i.size) cs) ((len + m) * i.size)) ⟨lc.blk, 0, cap + lc.slack - (len + m)⟩ (w.setRow lc.blk (C.toList.take (len * i.size) ++ unew.toList ++ C.toList.drop (len * i.size + unew.toList.length)).toArray) := by
   refine ⟨_, e, setRow_heap w lc.blk C _ e _ h1, by rw [hsz]; exact hfit, ?_⟩
   intro j v hj hg
   rcases T.get_setRow hg with ⟨q, rfl, hq⟩ | ⟨hi', hg⟩
   · simp only [List.getElem?_toArray]
     obtain ⟨u, hu1, hcu⟩ := concL_get hnew q v hq
     refine ⟨u, conc_mono (Mp.le_put hf) hcu, ?_⟩
     have hql : q < unew.toList.length := (List.getElem?_eq_some_iff.1 hu1).1
     rw [Nat.add_mul] at hfit
     have h7 : (C.toList.take (len * i.size)).length = len * i.size := by simp; omega
     rw [List.append_assoc, List.getElem?_append_right (by omega), h7, List.getElem?_append_left (by omega), ← hu1]
     congr 1; omega
   · have hlt : j < len * i.size := by
      rcases hi' with hlt | hge
      · exact hlt
      · rw [Nat.add_mul] at hj; omega
     obtain ⟨u, hu1, hcu⟩ := h5 j v (by omega) hg
     exact ⟨u, conc_mono (Mp.le_put hf) hu1, by rw [old j hlt]; exact hcu⟩
  obtain ⟨r', x'⟩ := r.share (lc' := ⟨lc.blk, 0, cap + lc.slack - (len + m)⟩) hf hb hlc rfl (.inl rfl) hx1 hx (fun k _ hk => setRow_other w lc.blk k _ (fun e => hk (by first | exact e | exact e.symm)))
  refine ⟨_, .slice (some ⟨lc.blk, 0, none⟩) (len + m) (cap + lc.slack), _, hr, ?_, r', setRow_frame _ ⟨b, _, lc, hb, hlc, rfl⟩, x'⟩
  rw [conc, Mp.put_self]
  simp only [cond_true]
  rw [show len + m + (cap + lc.slack - (len + m)) = cap + lc.slack by omega]
 ·
  have hus : (C.toList.take (len * i.size)).length = len * i.size := by simp; omega
  have hfo : ∀ w' : World, w'.heap = w.heap → (Builtin.firstCells i.size len (.slice (some ⟨lc.blk, 0, none⟩) len (cap + lc.slack))).run P w' = .ok (C.toList.take (len * i.size)).toArray w' := by
   intro w' hw'
   refine run_firstCells_some (P := P) w' i.size len ⟨lc.blk, 0, none⟩ len _ _ hus ?_
   intro j u hj
   rw [Addr.add_lit]
   rw [List.getElem?_take] at hj
   split at hj
   · simp only [Array.getElem?_toList] at hj
     simp [World.cell?, hw', h1, hj]
   · cases hj
  have hr := run_app_grow (ty := ty) (ts := ts) (old := (C.toList.take (len * i.size)).toArray) hu hi hz hs (sLen := len) (by omega) hbig hby hfo
  obtain ⟨sl, hsl⟩ : ∃ sl, sl = grownCap w (len + m) (cap + lc.slack) el - (len + m) := ⟨_, rfl⟩
  rw [← hsl] at hr
  have hblkold : ∀ k, k < w.heap.size → (w.drew.alloc (.cells ((C.toList.take (len * i.size)).toArray ++ unew ++ Builtin.zeroCells zv.cells sl) el)).heap[k]? = w.heap[k]? := fun k hk => heap_alloc_lt w.drew _ hk
  have hx1 : BRel G (φ.put h.next ⟨w.heap.size, 0, sl⟩) (.ro cs (len * i.size)) lc (w.drew.alloc (.cells ((C.toList.take (len * i.size)).toArray ++ unew ++ Builtin.zeroCells zv.cells sl) el)) := by
   refine ⟨C, e, (hblkold _ hblt).trans h1, by omega, fun j v hj hg => ?_⟩
   obtain ⟨u, hu1, hcu⟩ := h5 j v (by omega) hg
   exact ⟨u, conc_mono (Mp.le_put hf) hu1, hcu⟩
  have hx : BRel G (φ.put h.next ⟨w.heap.size, 0, sl⟩) (.ro (T.setRow new (len * i.size) cs) ((len + m) * i.size)) ⟨w.heap.size, 0, sl⟩ (w.drew.alloc (.cells ((C.toList.take (len * i.size)).toArray ++ unew ++ Builtin.zeroCells zv.cells sl) el)) := by
   refine ⟨_, el, heap_alloc_new w.drew _, ?_, ?_⟩
   · simp [Builtin.zeroCells, hul, hnl, Nat.add_mul]
     omega
   · intro j v hj hg
     have hup : ∀ k, k < len * i.size + unew.size → ((C.toList.take (len * i.size)).toArray ++ unew ++ Builtin.zeroCells zv.cells sl)[k]? = ((C.toList.take (len * i.size)).toArray ++ unew)[k]? := by
      intro k hk
      rw [Array.getElem?_append_left (by simp; omega)]
     rw [Nat.add_mul] at hj
     rw [hup j (by omega)]
     rcases T.get_setRow hg with ⟨q, rfl, hq⟩ | ⟨hi', hg⟩
     · obtain ⟨u, hu1, hcu⟩ := concL_get hnew q v hq
       refine ⟨u, conc_mono (Mp.le_put hf) hcu, ?_⟩
       rw [Array.getElem?_append_right (by simp; omega)]
       have h8 : len * i.size + q - (C.toList.take (len * i.size)).toArray.size = q := by simp; omega
       rw [h8]
       simpa using hu1
     · have hlt : j < len * i.size := by
        rcases hi' with hlt | hge
        · exact hlt
        · omega
       obtain ⟨u, hu1, hcu⟩ := h5 j v (by omega) hg
       refine ⟨u, conc_mono (Mp.le_put hf) hu1, ?_⟩
       rw [Array.getElem?_append_left (by simp; omega)]
       simp [hlt, hcu]
  obtain ⟨r', x'⟩ := r.share (lc' := ⟨w.heap.size, 0, sl⟩) hf hb hlc rfl (.inr (Nat.le_refl _)) hx1 hx (fun k hk _ => hblkold k hk)
  refine ⟨_, .slice (some ⟨w.heap.size, 0, none⟩) (len + m) (grownCap w (len + m) (cap + lc.slack) el), _, hr, ?_, r', ⟨fun _ => Nat.le_succ _, rfl, rfl, rfl, by simp, fun k hk _ => hblkold k hk⟩, x'⟩
  rw [conc, Mp.put_self]
  have := grownCap_ge w (len + m) (cap + lc.slack) el
  simp only [cond_true]
  rw [show len + m + sl = grownCap w (len + m) (cap + lc.slack) el by omega]
end
end Go.Proofs.YtmfmjhklajmhoaaGreat.Gv
namespace Go.Proofs.YtmfmjhklajmhoaaGreat.Gv
open Go
section
variable {E : Env} {P : Program} {G : Gh} {φ : Mp} {h h' : H} {w : World} {s : Fr} {a : Act} {v : V} {o : Oper}
theorem app_on {ro : Bool} {t0 t1 ty el : TypeId} {ts : List TypeId} {i : TypeInfo} {zv us ux : Value} {m : Nat} {y : V} {new : List V} {unew : Array Value} (hu : P.underlying t0 = some (.slice el)) (hi : P.info? el = some i) (hz : i.zero = some zv)
 (hzs : zv.cells.size = i.size) (hs : Src P w t1 i zv ux m unew) (hnew : concL G φ new = some unew.toList) (r : HRel G φ h w) (hf : Free φ h.next h'.next) (hy : conc G φ y = some us)
 (e : (match y with
  | .nilslice => (Nat.rec (motive := fun _ => RV) (.ok .nilslice h)
   (fun _ _ => bif Nat.ble (m * i.bytes) 70368744177664 && Nat.ble m 70368744177664 then newRow h new (m * i.size) i.size false fun b h => .ok (.slice b 0 m m true) h else .bad "append: great" 0) m : RV)
  | .slice b off len cap xx => onCells h b fun cs n sz' ex =>
    bif Nat.ble (len + m) cap then storeL h b (off + len * i.size) new fun h => .ok (.slice b off (len + m) cap xx) h
    else bif not (Nat.beq i.size sz' && Nat.ble ((len + m + cap) * i.bytes) 70368744177664 && Nat.ble (len + m) 70368744177664 && Nat.ble (off + len * i.size) n && Nat.beq new.length (m * i.size)) then .bad "append: great" b
    else bif ex || not xx then onSome "append: old" (T.range cs (len * i.size) off) fun old => newRow h (old ++ new) ((len + m) * i.size) i.size false fun b h => .ok (.slice b 0 (len + m) (len + m) true) h
    else bif Nat.beq off 0 && Nat.beq (cap * i.size) n && areCells new then .ok (.slice h.next 0 (len + m) (len + m) true) (bif ro then H.new { t := h.t.set b (.ro cs (len * i.size)), next := h.next } (.ro (T.setRow new (len * i.size) cs) ((len + m) * i.size)) else H.new { t := h.t.del b, next := h.next } (.cells (T.setRow new (len * i.size) cs) ((len + m) * i.size) i.size false))
    else .bad "append: middle" b
  | _ => .bad "append: dst" 0) = .ok v h') :
 DidV G φ h w v h' ((Builtin.append_ (t0 :: t1 :: ts).toArray ty #[us, ux]).run P w) := by
 split at e
 · rw [conc] at hy; cases hy
   exact app_nil hu hi hz hzs hs hnew r hf e
 · rename_i b off len cap xx
   obtain ⟨lc, hlc, rfl⟩ := conc_slice hy
   obtain ⟨cs, n, sz', ex, hb, e1⟩ := onCells_ok e
   clear e
   cases hroom : Nat.ble (len + m) cap with
   | true =>
     rw [hroom, cond_true] at e1
     rw [nble, decide_eq_true_eq] at hroom
     obtain ⟨cs', n', sz2, ex', hb', hm, hcell, e2⟩ := storeL_ok e1
     clear e1
     cases e2
     obtain ⟨w', hrun, r', f', x'⟩ := r.store (P := P) hb' hlc hm hcell hnew
     have hcap : len + m ≤ (bif xx then cap + lc.slack else cap) := by cases xx <;> simp <;> omega
     have hr := run_app_room (ty := ty) (ts := ts) hu hi hz hs (base := some ⟨lc.blk, off, none⟩) hcap (.inr ⟨_, rfl, by rw [Addr.add_lit]; exact hrun⟩)
     refine ⟨φ, _, w', hr, ?_, r', f', x'⟩
     rw [conc, hlc]
   | false =>
     rw [hroom, cond_false] at e1
     rw [nble, decide_eq_false_iff_not] at hroom
     cases hchk : (Nat.beq i.size sz' && Nat.ble ((len + m + cap) * i.bytes) 70368744177664 && Nat.ble (len + m) 70368744177664 && Nat.ble (off + len * i.size) n && Nat.beq new.length (m * i.size)) with
     | false => rw [hchk] at e1; cases e1
     | true =>
       rw [hchk, Bool.not_true, cond_false] at e1
       simp only [Bool.and_eq_true, nble, nbeq, decide_eq_true_eq] at hchk
       obtain ⟨⟨⟨⟨hsz, hc1⟩, hc2⟩, hc3⟩, hc4⟩ := hchk
       subst hsz
       have hby : (len + m) * i.bytes ≤ 70368744177664 := Nat.le_trans (Nat.mul_le_mul_right _ (Nat.le_add_right _ _)) hc1
       cases hex : (ex || not xx) with
       | true =>
         rw [hex, cond_true] at e1
         obtain ⟨old, hold, e2⟩ := onSome_ok e1
         clear e1
         obtain ⟨hcell, hlen, e3⟩ := newRow_ok e2
         clear e2
         cases e3
         have hfn : φ h.next = none := hf _ (Nat.le_refl _) (by simp [H.new])
         have hk : (bif xx then cap + lc.slack else cap) < len + m := by
          cases xx with
          | false => simp; omega
          | true =>
            simp at hex
            obtain ⟨C, e, _, _, h3, _⟩ := r.cells hb hlc
            have := h3 hex
            simp; omega
         exact app_known hu hi hz hzs hs hnew r hfn hb hlc hk hc2 hby hc3 hold hc4
       | false =>
         rw [hex, cond_false] at e1
         obtain ⟨hchk2, e2⟩ := bif_ok e1
         clear e1
         simp only [Bool.and_eq_true, nbeq, decide_eq_true_eq] at hchk2
         obtain ⟨⟨hoff, hcn⟩, hcell⟩ := hchk2
         have hnx : h'.next = h.next + 1 := by
          cases ro <;> cases e2 <;> rfl
         subst hoff
         have hfn : φ h.next = none := hf _ (Nat.le_refl _) (by omega)
         have hxx : xx = true := by
          cases xx with
          | true => rfl
          | false => simp at hex
         subst hxx
         simp only [Nat.zero_add] at hc3
         cases ro with
         | false => cases e2; exact app_middle hu hi hz hzs hs hnew hcell r hfn hb hlc hcn (by omega) hc2 hby hc3 hc4
         | true => cases e2; exact app_share hu hi hz hzs hs hnew hcell r hfn hb hlc hcn (by omega) hc2 hby hc3 hc4
 · cases e
theorem append_ok (ok : EnvOk E P G) {ts : List Nat} {ty : TypeId} {cs : Array Bool} {l : List V} {ul : List Value} (hl : concL G φ l = some ul) (r : HRel G φ h w) (hf : Free φ h.next h'.next)
 (e : (builtF E .append ts).v l h = .ok v h') : Did G φ h w v h' ((builtin .append ts.toArray ty cs ul.toArray).run P w) := by
 refine DidV.builtin rfl ?_
 cases ts with
 | nil => cases e
 | cons t0 ts =>
   unfold builtF at e
   simp only [ok.ty] at e
   split at e
   · rename_i el t1 ts hk
     have hu := k_slice hk
     cases hz : (mkTI P el).zero with
     | none => rw [hz] at e; cases e
     | some z =>
       obtain ⟨i, zv, hi, hz', habs, hsz, hby⟩ := zero_ok hz
       rw [hz] at e
       dsimp only at e
       cases hh : ((mkTI P t1).has && Nat.beq z.cells.length (mkTI P el).size) with
       | false => rw [hh] at e; cases e
       | true =>
         rw [hh] at e
         rw [Bool.and_eq_true, nbeq, decide_eq_true_eq] at hh
         obtain ⟨d, hd⟩ := has_und hh.1
         simp only [Bool.not_true, cond_false, Box.use_v] at e
         split at e
         · rename_i y x
           obtain ⟨us, ux, h1, h2, rfl⟩ := two_conc hl
           have hzc := cells_conc2 (absV_ok G φ 4 _ _ habs) (absV_narrow habs)
           have hzl := concL_length hzc
           simp only [Array.length_toList] at hzl
           have hzs : zv.cells.size = i.size := by rw [hzl, hh.2, hsz]
           unfold appendF at e
           rw [hsz, hby] at e
           by_cases hint : ∃ k, (mkTI P t1).k = .int k
           · obtain ⟨k, hk1⟩ := hint
             have hu1 := k_int hk1
             rw [hk1] at e
             dsimp only [cond_true] at e
             obtain ⟨kd, n, hx, e1⟩ := onNat_ok e
             clear e
             obtain ⟨hc, e2⟩ := bif_ok e1
             clear e1
             simp only [Bool.and_eq_true, nble, nbeq, decide_eq_true_eq] at hc
             rw [hx, conc] at h2
             have h3 := (Option.some.inj h2).symm
             refine app_on (m := n) (new := repl z.cells n) (unew := Builtin.zeroCells zv.cells n) hu hi hz' hzs (.inr ⟨k, kd, hu1, h3, hc.2, hc.1.2, hzs, rfl⟩) ?_ r hf h1 e2
             rw [zeroCells_list]
             exact concL_repl hzc n
           · have hk1 : ∀ k, (mkTI P t1).k ≠ .int k := fun k hk2 => hint ⟨k, hk2⟩
             have hne : ∀ k, d ≠ .int k := by
              intro k hdk
              subst hdk
              refine hk1 k ?_
              obtain ⟨j, hj, _, _⟩ := has_ok hh.1
              unfold mkTI
              rw [hj]
              show mkK P t1 = _
              unfold mkK
              rw [hd]
             cases hk2 : (mkTI P t1).k with
             | int k => exact absurd hk2 (hk1 k)
             | _ =>
               rw [hk2] at e
               dsimp only [cond_false] at e
               obtain ⟨m, new, unew, hs, hnew, e2⟩ := src_ok (zv := zv) hd hne h2 r e
               exact app_on hu hi hz' hzs hs hnew r hf h1 e2
         · cases e
   · cases e
end
end Go.Proofs.YtmfmjhklajmhoaaGreat.Gv
