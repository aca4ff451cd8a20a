/- (*wire.Writer).Text: texts put. -/
import Derived.Test.YthlpdficpmdebaaGreatJ0
namespace Go.Proofs.YthlpdficpmdebaaGreat.Wire
open Go Go.RowKit Go.Lib
/-- Texts in memory, one behind the other. -/
def TextsAt (w : World) (A : Option Addr) (xs : List ByteArray) : Prop := xs ≠ [] → ∃ ad, A = some ad ∧ ∀ j x, xs[j]? = some x → w.cell? (ad.add j) = some (.string x)
def tb (s : ByteArray) : List UInt8 := textB s.data.toList
theorem sz (s : ByteArray) : s.data.toList.length = s.size := by rw [Array.length_toList]; rfl
theorem tb_len (s : ByteArray) (h : s.size ≤ 1000) : (tb s).length ≤ 1010 := by
  have h0 := sz s
  have h1 := vb_len10 (zz_lt (v := (s.data.toList.length : Int)) (by omega) (by omega))
  simp only [tb, textB, numB, List.length_append] at h1 ⊢
  omega
theorem flat_tlen (xs : List ByteArray) (h : ∀ x ∈ xs, x.size ≤ 1000) : ((xs.map tb).flatten).length ≤ 1010 * xs.length := by
  induction xs with
  | nil => simp
  | cons x xs ih =>
    have h1 := tb_len x (h x (by simp))
    have h2 := ih (fun u hu => h u (by simp [hu]))
    simp only [List.map_cons, List.flatten_cons, List.length_append, List.length_cons] at h2 ⊢
    omega
/-- A writer's error is set. -/
theorem Wr.fail {B p : Nat} {l : List UInt8} {w : World} (h : Wr B p 0 l w) (x : Int) : Wr B p x l (w.setCell ⟨p, 0, none⟩ (.int .i64 x)) := by
  obtain ⟨hB, v, hp, hown, hne⟩ := h
  exact ⟨hB, v, Go.Lib.heap_setCell_same (i := 0) hp _, hown.kept (grownBy_setCell w p 0 _) (Or.inr hne), hne⟩
theorem strB (x : ByteArray) (l : List Value) : l ++ strCells x = l ++ byteCells x.data.toList := rfl
/-- Text's end: all is put, or one is too long. -/
def TextPost (B p : Nat) (l : List UInt8) (xs : List ByteArray) (w : World) (en : Ending) (w' : World) : Prop :=
  (∃ u, en = .returned u) ∧ Below B w w' ∧ (((∀ x ∈ xs, x.size ≤ 1000) ∧ Wr B p 0 (l ++ (xs.map tb).flatten) w') ∨ ((∃ x ∈ xs, 1000 < x.size) ∧ ∃ l', Wr B p 2 l' w'))
set_option maxRecDepth 20000 in
theorem wtexts_any (B p : Nat) (l : List UInt8) (A : Option Addr) (n c : Nat) (xs : List ByteArray) (w : World) (h : Wr B p 0 l w) (hx : TextsAt w A xs) (hn : xs.length = n) (hs : n ≤ 1 ∨ ∀ ad, A = some ad → ad.block < B)
    (hmax : ∀ x ∈ xs, x.size ≤ maxLen) (hl : l.length + 1010 * n ≤ 1000000) (hn2 : n ≤ 1000000) :
    Calls Tryz.prog 33 #[.pointer (some ⟨p, 0, none⟩), .slice A n c] w (TextPost B p l xs w) := by
  obtain ⟨i0, hi0, hz0, hz1, hz2⟩ := info_parts u8_info
  have HW := Lib.hid h
  have HX := Lib.hid hx
  have HNN := Lib.hid hn
  have HS := Lib.hid hs
  have HM := Lib.hid hmax
  have HL := Lib.hid hl
  clear h hx hn hs hmax hl
  go_enter Tryz.func33, Tryz.ntmps33
  go_wp2_with fail
  go_loopw [8] (fun i wr => ∃ k : Nat, i = .int .i64 k ∧ k ≤ n ∧ (k = 0 → wr = w) ∧ (∀ x ∈ xs.take k, x.size ≤ 1000) ∧ Wr B p 0 (l ++ ((xs.take k).map tb).flatten) wr ∧ Below B w wr) (fun i _ => n - (intOf i).toNat)
  case atStart => exact ⟨0, rfl, Nat.zero_le _, fun _ => rfl, by simp, by simpa using HW.out, Below.refl _ _⟩
  case round =>
    obtain ⟨k, rfl, hk, hk0, hfit, hW, hb⟩ := hrel
    obtain ⟨d0, d1, d2⟩ := hW.cells
    have HK0 := Lib.hid hk0
    have HF := Lib.hid hfit
    have HW1 := Lib.hid hW
    clear hk0 hW hfit
    by_cases hlt : k < n
    · have hxl : k < xs.length := by have := HNN.out; omega
      obtain ⟨ad, hA, hcs⟩ := HX.out (by intro e0; rw [e0] at hxl; simp at hxl)
      subst hA
      have hxk : xs[k]? = some xs[k] := List.getElem?_eq_getElem hxl
      have hcell : wr.cell? (ad.add k) = some (.string xs[k]) := by
        by_cases hk1 : k = 0
        · rw [HK0.out hk1]; exact hcs _ _ hxk
        · rcases HS.out with hs | hs
          · omega
          · rw [hb.cell (p := ad.add k) (by unfold Addr.add; split <;> exact hs ad rfl)]
            exact hcs _ _ hxk
      have HC := Lib.hid hcs
      have HXK := Lib.hid hxk
      have HMk := Lib.hid (HM.out _ (List.getElem_mem hxl))
      have HIn := Lib.hid (List.getElem_mem hxl)
      generalize xs[k] = x at hcell HXK HMk HIn
      clear hcs hxk
      have HFL := Lib.hid (flat_tlen (xs.take k) HF.out)
      have HNB : Hid ((numB (x.size : Int)).length ≤ 10 ∨ 1000 < x.size) := by
        by_cases h9 : 1000 < x.size
        · exact .inr h9
        · exact .inl (vb_len10 (zz_lt (by omega) (by omega)))
      by_cases hlong : 1000 < x.size
      · go_wp2_with (first
          | (go_at_call 133; refine (wrong_any _ _ _ d0).mono ?_; rintro e w1 ⟨rfl, rfl⟩)
          | (go_at_call 135; refine (fail_any _ _ _ d0 d1).mono ?_; rintro e w1 ⟨⟨u, rfl⟩, rfl⟩))
        refine bodyPost_ret (results_none rfl _ _ _) rfl ?_
        exact ⟨⟨_, rfl⟩, hb.setCell (p := ⟨p, 0, none⟩) HW1.out.1 _, .inr ⟨⟨x, HIn.out, hlong⟩, _, HW1.out.fail 2⟩⟩
      · go_wp2_with (first
          | (go_at_call 133; refine (wrong_any _ _ _ d0).mono ?_; rintro e w1 ⟨rfl, rfl⟩)
          | (go_at_call 134
             refine (wnum_any B p 0 (x.size : Int) _ _ HW1.out ⟨by omega, by omega⟩ (by have h1 := HL.out; have h2 := HFL.out; simp only [List.length_append, List.length_take] at h2 ⊢; omega)).mono ?_
             rintro e w1 ⟨⟨u, rfl⟩, ⟨_, v1, hp1, hown1, hne1⟩, hb1⟩
             obtain ⟨N1, hN1⟩ : ∃ N, (l ++ (List.map tb (List.take k xs)).flatten ++ numB (x.size : Int)).length = N := ⟨_, rfl⟩
             rw [hN1] at hown1
             have HN1 := Lib.hid hN1
             clear hN1
             have e0 : w1.cell? ⟨p, 1, none⟩ = some v1 := (by rw [cell_p hp1]; rfl)
             have HP1 := Lib.hid hp1
             have hbs1 : B ≤ w1.heap.size := (by have := hb1.size; omega)
             clear hp1)
          | (at_builtin
             refine wpList_append_own_string _ rfl (.tmp 38) (.tmp 39) _ _ rfl B 5 i0 Tryz.underlying91 Tryz.underlying9 hi0 hz0 hz1 hz2 v1 _ _ rfl hown1 x rfl (by have h1 := HL.out; have h2 := HFL.out; have h3 := HNB.out; have h4 := HN1.out; simp only [List.length_append, List.length_take] at h2 h3 h4 ⊢; unfold maxLen; omega) (by have h1 := HL.out; have h2 := HFL.out; have h3 := HNB.out; have h4 := HN1.out; simp only [List.length_append, List.length_take] at h2 h3 h4 ⊢; omega) hbs1 ?_
             intro v2 w2 hown2 hg2 _
             obtain ⟨g2, cap2, rfl, hf2, hf3⟩ := hown2.form (by have := vb_pos (zz (x.size : Int)); have h4 := HN1.out; simp only [List.length_append, numB] at h4; omega)
             have hp2 := (hg2.block p (blk_lt HP1.out) (fun hh => own_ne hown1 HP1.out (by decide) hh.symm)).trans HP1.out
             have e1 : w2.cell? ⟨p, 1, none⟩ = some v1 := (by rw [cell_p hp2]; rfl)
             have e2 : w2.frozen? ⟨p, 1, none⟩ = false := frozen_p hp2
             clear hp2))
        go_roundw
        case rel =>
          have hst := Wr.step x.data.toList HW1.out.1 HP1.out (by rw [HN1.out]; exact hown1) hown2 (by rw [HN1.out, sz]) (by rw [strB]) hg2
          refine ⟨k + 1, by go_num, by omega, fun h => absurd h (by omega), ?_, ?_, (below_grown (hb.trans hb1) hg2 hbs1 (own_ge hown1)).setCell (p := ⟨p, 1, none⟩) HW1.out.1 _⟩
          · intro y hy
            rw [List.take_succ_eq_append_getElem hxl, List.mem_append] at hy
            rcases hy with hy | hy
            · exact HF.out y hy
            · have hxx : xs[k] = x := by have := HXK.out; rw [List.getElem?_eq_getElem hxl] at this; injection this
              rw [hxx, List.mem_singleton] at hy
              rw [hy]; omega
          · rw [flat_snoc tb xs k x HXK.out, ← List.append_assoc]
            rw [List.append_assoc] at hst
            have he : tb x = numB (x.size : Int) ++ x.data.toList := by rw [tb, textB, sz]
            rw [he]
            exact hst
        case measure => simp [intOf]; omega
    · go_wp2
      go_end0
      have h3 := HW1.out
      have h4 := HF.out
      rw [List.take_of_length_le (by have := HNN.out; omega)] at h3 h4
      exact ⟨⟨_, rfl⟩, hb, .inl ⟨h4, h3⟩⟩
end Go.Proofs.YthlpdficpmdebaaGreat.Wire
/- Text behind an error; (*wire.Writer).Bytes; wire.NewWriter. -/
namespace Go.Proofs.YthlpdficpmdebaaGreat.Wire
open Go Go.RowKit Go.Lib
set_option maxRecDepth 20000 in
/-- Behind an error no text is put. -/
theorem wtexts_bad (B p : Nat) (e : Int) (he : e ≠ 0) (l : List UInt8) (A : Option Addr) (n c : Nat) (xs : List ByteArray) (w : World) (h : Wr B p e l w) (hx : TextsAt w A xs) (hn : xs.length = n) (hn2 : n ≤ 1000000) :
    Calls Tryz.prog 33 #[.pointer (some ⟨p, 0, none⟩), .slice A n c] w fun en w' => (∃ u, en = .returned u) ∧ w = w' := by
  obtain ⟨d0, d1, d2⟩ := h.cells
  clear h
  have HX := Lib.hid hx
  have HNN := Lib.hid hn
  clear hx hn
  by_cases h0 : 0 < n
  · have hxl : 0 < xs.length := by have := HNN.out; omega
    obtain ⟨ad, hA, hcs⟩ := HX.out (by intro e0; rw [e0] at hxl; simp at hxl)
    subst hA
    have hcell : w.cell? ad = some (.string xs[0]) := by
      have := hcs 0 _ (List.getElem?_eq_getElem hxl)
      simpa [Addr.add] using this
    generalize xs[0] = x at hcell
    clear hcs
    have hb1 : (e == 0) = false := by simpa using he
    have hb2 : (e != 0) = true := by simpa using he
    go_enter Tryz.func33, Tryz.ntmps33
    go_wp2_with fail
    refine wp_loop_rounds 1 ?_
    rw [rounds_succ]
    go_wp2_with (go_at_call 133; refine (wrong_any _ _ _ d0).mono ?_; rintro e w1 ⟨rfl, rfl⟩)
    refine bodyPost_ret (results_none rfl _ _ _) rfl ?_
    exact ⟨⟨_, rfl⟩, rfl⟩
  · go_enter Tryz.func33, Tryz.ntmps33
    go_wp2_with fail
    refine wp_loop_rounds 1 ?_
    rw [rounds_succ]
    go_wp2
    go_end0
    exact ⟨⟨_, rfl⟩, rfl⟩
theorem conv_nil (w : World) (c : Nat) : (convert 91 9 (.slice none 0 c)).run Tryz.prog w = .ok (.string ⟨#[]⟩) w := by
  rw [run_convert_bytes_string w 91 9 5 none 0 c Tryz.underlying91 Tryz.underlying5 Tryz.underlying9]
  simp [Conv.bytesToString]
  rfl
/-- A row's bytes as a string. -/
theorem conv_row {B : Nat} {w : World} {v : Value} {l : List UInt8} (h : w.ownsRow B 5 1 v l.length (byteCells l)) : (convert 91 9 v).run Tryz.prog w = .ok (.string ⟨l.toArray⟩) w := by
  rcases h.2 with ⟨rfl, h0⟩ | ⟨g, cap, cur, rfl, _, hh, _, _, _, htk⟩
  · have : l = [] := List.eq_nil_of_length_eq_zero h0
    subst this
    exact conv_nil w 0
  · refine run_convert_bytes_back w _ _ 5 ⟨g, 0, none⟩ cap l Tryz.underlying91 Tryz.underlying5 Tryz.underlying9 ?_
    intro j hj
    refine h.cells (g := g) rfl j _ ?_
    simp [byteCells, hj]
/-- What was put, as a string. -/
theorem wbytes_any (B p : Nat) (l : List UInt8) (w : World) (h : Wr B p 0 l w) :
    Calls Tryz.prog 136 #[.pointer (some ⟨p, 0, none⟩)] w fun en w' => en = .returned (.tuple #[.string ⟨l.toArray⟩, .int .i64 0]) ∧ w = w' := by
  obtain ⟨hB, v, hp, hown, hne⟩ := h
  have d0 : w.cell? ⟨p, 0, none⟩ = some (.int .i64 0) := by rw [cell_p hp]; rfl
  have d1 : w.cell? ⟨p, 1, none⟩ = some v := by rw [cell_p hp]; rfl
  have hcv := conv_row hown
  clear hp hown hne
  go_enter Tryz.func136, Tryz.ntmps136
  go_wp2_with (go_at_call 133; refine (wrong_any _ _ _ d0).mono ?_; rintro e w1 ⟨rfl, rfl⟩)
  go_ret2
  exact ⟨rfl, rfl⟩
theorem wbytes_bad (B p : Nat) (e : Int) (he : e ≠ 0) (l : List UInt8) (w : World) (h : Wr B p e l w) :
    Calls Tryz.prog 136 #[.pointer (some ⟨p, 0, none⟩)] w fun en w' => en = .returned (.tuple #[.string ⟨#[]⟩, .int .i64 e]) ∧ w = w' := by
  obtain ⟨d0, d1, d2⟩ := h.cells
  clear h
  have hb1 : (e == 0) = false := by simpa using he
  have hb2 : (e != 0) = true := by simpa using he
  go_enter Tryz.func136, Tryz.ntmps136
  go_wp2_with (go_at_call 133; refine (wrong_any _ _ _ d0).mono ?_; rintro e w1 ⟨rfl, rfl⟩)
  go_ret2
  exact ⟨rfl, rfl⟩
/-- A new writer. -/
theorem newW_any (w : World) : Calls Tryz.prog 31 #[] w fun en w' => en = .returned (.pointer (some ⟨w.heap.size, 0, none⟩)) ∧ Wr w.heap.size w.heap.size 0 [] w' ∧ Below w.heap.size w w' := by
  go_enter Tryz.func31, Tryz.ntmps31
  go_wp2
  go_ret
  refine ⟨rfl, ⟨Nat.le_refl _, .slice none 0 0, heap_alloc_new w _, World.ownsRow_nil _ _ _ _, by simp [Value.ownBlock]⟩, (Below.refl _ w).alloc (Nat.le_refl _) _⟩
end Go.Proofs.YthlpdficpmdebaaGreat.Wire
/- (*wire.Writer).num puts a number's bytes, and leaves every row that is none of bytes alone. -/
namespace Go.Proofs.YthlpdficpmdebaaGreat.Wire
open Go Go.RowKit Go.Lib
/-- All blocks of other types, but for the writer's, stay. -/
def Keeps (p : Nat) (w w' : World) : Prop := ∀ b cs t, w.heap[b]? = some (.cells cs t (0, 0)) → t ≠ 5 → b ≠ p → w'.heap[b]? = w.heap[b]?
theorem Keeps.refl (p : Nat) (w : World) : Keeps p w w := fun _ _ _ _ _ _ => rfl
theorem Keeps.trans {p : Nat} {a b c : World} (h : Keeps p a b) (k : Keeps p b c) : Keeps p a c := fun x cs t e n m => (k x cs t ((h x cs t e n m).trans e) n m).trans (h x cs t e n m)
theorem Keeps.put {p i : Nat} {w w1 : World} {o : Obj} {base size n : Nat} {v : Value} {xs : List Value} (hown : (w.alloc o).ownsRow base 5 size v n xs) (hg : (w.alloc o).grownBy w1 v.ownBlock) (u : Value) : Keeps p w (w1.setCell ⟨p, i, none⟩ u) := by
  intro b cs t hb hne hbp
  have h1 := (Below.heap_alloc w o b (blk_lt hb)).trans hb
  have h2 := (hg.block b (blk_lt h1) (fun hh => own_ne hown h1 (Ne.symm hne) hh.symm)).trans h1
  exact ((grownBy_setCell w1 p i u).block b (blk_lt h2) (fun e => hbp (Option.some.inj e))).trans (h2.trans hb.symm)
theorem Keeps.put0 {p i : Nat} {w w1 : World} {base size n : Nat} {v : Value} {xs : List Value} (hown : w.ownsRow base 5 size v n xs) (hg : w.grownBy w1 v.ownBlock) (u : Value) : Keeps p w (w1.setCell ⟨p, i, none⟩ u) := by
  intro b cs t hb hne hbp
  have h2 := (hg.block b (blk_lt hb) (fun hh => own_ne hown hb (Ne.symm hne) hh.symm)).trans hb
  exact ((grownBy_setCell w1 p i u).block b (blk_lt h2) (fun e => hbp (Option.some.inj e))).trans (h2.trans hb.symm)
theorem Keeps.set (p i : Nat) (w : World) (u : Value) : Keeps p w (w.setCell ⟨p, i, none⟩ u) := fun b _ _ hb _ hbp => (grownBy_setCell w p i u).block b (blk_lt hb) (fun e => hbp (Option.some.inj e))
theorem cell_of_heap {w w' : World} {b : Nat} (h : w'.heap[b]? = w.heap[b]?) (o : Nat) : w'.cell? ⟨b, o, none⟩ = w.cell? ⟨b, o, none⟩ := by simp only [World.cell?, h]
theorem cell_add_of_heap {w w' : World} {q : Nat} (h : w'.heap[q]? = w.heap[q]?) (k : Nat) : w'.cell? ((⟨q, 0, none⟩ : Addr).add k) = w.cell? ((⟨q, 0, none⟩ : Addr).add k) := by unfold Addr.add; split <;> exact cell_of_heap h _
set_option maxRecDepth 20000 in
theorem wnum_k (B p : Nat) (e v : Int) (l : List UInt8) (w : World) (h : Wr B p e l w) (hv : okI v) (hl : l.length ≤ 2000000000000) :
    Calls Tryz.prog 134 #[.pointer (some ⟨p, 0, none⟩), .int .i64 v] w fun en w' => (∃ u, en = .returned u) ∧ Wr B p e (l ++ numB v) w' ∧ Below B w w' ∧ Keeps p w w' := by
  obtain ⟨i0, hi0, hz0, hz1, hz2⟩ := info_parts u8_info
  obtain ⟨hB, vv, hp, hown, hne⟩ := h
  have c0 : w.cell? ⟨p, 0, none⟩ = some (.int .i64 e) := by rw [cell_p hp]; rfl
  have c1 : w.cell? ⟨p, 1, none⟩ = some vv := by rw [cell_p hp]; rfl
  have f1 : w.frozen? ⟨p, 1, none⟩ = false := frozen_p hp
  have HP := Lib.hid hp
  have HV := Lib.hid hv
  have HLL := Lib.hid hl
  clear hp hv hl
  go_enter Tryz.func134, Tryz.ntmps134
  go_wp2_with fail
  rw [xor_zz HV.out]
  have HZ := Lib.hid (zz_lt HV.out.1 HV.out.2)
  go_loopw [4] (fun n wr => ∃ (k : Nat) (l' : List UInt8), n = .int .u64 k ∧ k < 18446744073709551616 ∧ l' ++ vb k = l ++ numB v ∧ l'.length + (vb k).length ≤ 2000000000010 ∧ Wr B p e l' wr ∧ Below B w wr ∧ Keeps p w wr) (fun n _ => (intOf n).toNat)
  case atStart => exact ⟨zz v, l, rfl, HZ.out, rfl, by have := vb_len10 HZ.out; have := HLL.out; omega, ⟨hB, vv, HP.out, hown, hne⟩, Below.refl _ _, Keeps.refl _ _⟩
  case round =>
    obtain ⟨k, l', rfl, hk, hl', hlen, ⟨_, v1, hp1, hown1, hne1⟩, hb, hkp⟩ := hrel
    have d0 : wr.cell? ⟨p, 0, none⟩ = some (.int .i64 e) := by rw [cell_p hp1]; rfl
    have d1 : wr.cell? ⟨p, 1, none⟩ = some v1 := by rw [cell_p hp1]; rfl
    have g1 : wr.frozen? ⟨p, 1, none⟩ = false := frozen_p hp1
    have HP1 := Lib.hid hp1
    have HL := Lib.hid hl'
    have HK := Lib.hid hk
    have HN := Lib.hid hlen
    clear hp1 hl' hk hlen
    have hbs : B ≤ wr.heap.size := by have := blk_lt HP1.out; omega
    by_cases h7 : k < 128
    · go_wp2_with ((at_builtin
                    refine wpList_append_own_at _ rfl (.tmp 32) (.tmp 35) _ rfl B 5 i0 _ 1 1 Tryz.underlying91 hi0 hz0 hz1 hz2 rfl (by omega) v1 l'.length (byteCells l') rfl (hown1.alloc _) ⟨wr.heap.size, 0, none⟩ 1 1 [.int .u8 k] rfl rfl (cell_one_new _ _ _) (by simp [Value.oneCell']) (by have := HN.out; unfold maxLen; omega) (by have := HN.out; omega) (by simp; omega) ?_
                    intro v2 w2 hown2 hg2 _ hat2
                    obtain ⟨g2, cap2, rfl, hf2, hf3⟩ := hown2.form (by omega)
                    clear hat2
                    have hpa := (Below.heap_alloc wr (.cells #[.int .u8 (k : Int)] 5) p (blk_lt HP1.out)).trans HP1.out
                    have hp2 := (hg2.block p (blk_lt hpa) (fun hh => own_ne (hown1.alloc _) hpa (by decide) hh.symm)).trans hpa
                    have e1 : w2.cell? ⟨p, 1, none⟩ = some v1 := by rw [cell_p hp2]; rfl
                    have e2 : w2.frozen? ⟨p, 1, none⟩ = false := frozen_p hp2
                    have HP2 := Lib.hid hpa
                    clear hpa hp2))
      go_end0
      have hl2 : l' ++ [UInt8.ofNat k] = l ++ numB v := by rw [← HL.out, vb_small h7]
      refine ⟨⟨_, rfl⟩, ?_, (below_grown (hb.alloc hbs _) hg2 (by simp; omega) (own_ge hown1)).setCell (p := ⟨p, 1, none⟩) hB _, hkp.trans (Keeps.put (hown1.alloc _) hg2 _)⟩
      rw [← hl2]
      exact Wr.step [UInt8.ofNat k] hB HP2.out (hown1.alloc _) hown2 rfl (by simp [byteCells, byte_of (show k < 256 by omega)]) hg2
    · have h8 : 128 ≤ k := by omega
      go_wp2_with ((at_builtin
                    refine wpList_append_own_at _ rfl (.tmp 20) (.tmp 24) _ rfl B 5 i0 _ 1 1 Tryz.underlying91 hi0 hz0 hz1 hz2 rfl (by omega) v1 l'.length (byteCells l') rfl (hown1.alloc _) ⟨wr.heap.size, 0, none⟩ 1 1 [.int .u8 (bits .or .u8 ((k : Int) % 256) 128)] rfl rfl (cell_one_new _ _ _) (by simp [Value.oneCell']) (by have := HN.out; unfold maxLen; omega) (by have := HN.out; omega) (by simp; omega) ?_
                    intro v2 w2 hown2 hg2 _ hat2
                    obtain ⟨g2, cap2, rfl, hf2, hf3⟩ := hown2.form (by omega)
                    clear hat2
                    have hpa := (Below.heap_alloc wr (.cells #[.int .u8 (bits .or .u8 ((k : Int) % 256) 128)] 5) p (blk_lt HP1.out)).trans HP1.out
                    have hp2 := (hg2.block p (blk_lt hpa) (fun hh => own_ne (hown1.alloc _) hpa (by decide) hh.symm)).trans hpa
                    have e1 : w2.cell? ⟨p, 1, none⟩ = some v1 := by rw [cell_p hp2]; rfl
                    have e2 : w2.frozen? ⟨p, 1, none⟩ = false := frozen_p hp2
                    have HP2 := Lib.hid hpa
                    clear hpa hp2))
      go_roundw
      case rel =>
        have hvb := vb_big h7
        refine ⟨k / 128, l' ++ [UInt8.ofNat (k % 128 + 128)], by simp, by have := HK.out; omega, ?_, ?_, ?_, (below_grown (hb.alloc hbs _) hg2 (by simp; omega) (own_ge hown1)).setCell (p := ⟨p, 1, none⟩) hB _, hkp.trans (Keeps.put (hown1.alloc _) hg2 _)⟩
        · rw [← HL.out, hvb]; simp
        · have := HN.out; rw [hvb] at this; simp only [List.length_cons, List.length_append, List.length_nil] at this ⊢; omega
        · refine Wr.step [UInt8.ofNat (k % 128 + 128)] hB HP2.out (hown1.alloc _) hown2 rfl ?_ hg2
          have := byte_more k
          rw [wrap_u8] at this
          simp [byteCells, this]
      case measure => simp [intOf]; omega
end Go.Proofs.YthlpdficpmdebaaGreat.Wire
