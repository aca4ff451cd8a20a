/- (*wire.Writer).Text: texts put. -/
import Derived.Test.YtgmbppfkkiobhaaGreatWireNums
namespace Go.Proofs.YtgmbppfkkiobhaaGreat.Wire
open Go Go.RowKit Go.Lib
/-- Texts in memory, one behind the other. -/
def TextsAt (w : World) (A : Option Addr) (xs : List ByteArray) : Prop := xs ≠ [] → ∃ ad, A = some ad ∧ ∀ j x, xs[j]? = some x → w.cell? (ad.add j) = some (.string x)
def tb (s : ByteArray) : List UInt8 := textB s.data.toList
theorem sz (s : ByteArray) : s.data.toList.length = s.size := by rw [Array.length_toList]; rfl
theorem tb_len (s : ByteArray) (h : s.size ≤ 1000) : (tb s).length ≤ 1010 := by
  have h0 := sz s
  have h1 := vb_len10 (zz_lt (v := (s.data.toList.length : Int)) (by omega) (by omega))
  simp only [tb, textB, numB, List.length_append] at h1 ⊢
  omega
theorem flat_tlen (xs : List ByteArray) (h : ∀ x ∈ xs, x.size ≤ 1000) : ((xs.map tb).flatten).length ≤ 1010 * xs.length := by
  induction xs with
  | nil => simp
  | cons x xs ih =>
    have h1 := tb_len x (h x (by simp))
    have h2 := ih (fun u hu => h u (by simp [hu]))
    simp only [List.map_cons, List.flatten_cons, List.length_append, List.length_cons] at h2 ⊢
    omega
/-- A writer's error is set. -/
theorem Wr.fail {B p : Nat} {l : List UInt8} {w : World} (h : Wr B p 0 l w) (x : Int) : Wr B p x l (w.setCell ⟨p, 0, none⟩ (.int .i64 x)) := by
  obtain ⟨hB, v, hp, hown, hne⟩ := h
  exact ⟨hB, v, Go.Lib.heap_setCell_same (i := 0) hp _, hown.kept (grownBy_setCell w p 0 _) (Or.inr hne), hne⟩
theorem strB (x : ByteArray) (l : List Value) : l ++ strCells x = l ++ byteCells x.data.toList := rfl
/-- Text's end: all is put, or one is too long. -/
def TextPost (B p : Nat) (l : List UInt8) (xs : List ByteArray) (w : World) (en : Ending) (w' : World) : Prop :=
  (∃ u, en = .returned u) ∧ Below B w w' ∧ (((∀ x ∈ xs, x.size ≤ 1000) ∧ Wr B p 0 (l ++ (xs.map tb).flatten) w') ∨ ((∃ x ∈ xs, 1000 < x.size) ∧ ∃ l', Wr B p 2 l' w'))
set_option maxRecDepth 20000 in
theorem wtexts_any (B p : Nat) (l : List UInt8) (A : Option Addr) (n c : Nat) (xs : List ByteArray) (w : World) (h : Wr B p 0 l w) (hx : TextsAt w A xs) (hn : xs.length = n) (hs : n ≤ 1 ∨ ∀ ad, A = some ad → ad.block < B)
    (hmax : ∀ x ∈ xs, x.size ≤ maxLen) (hl : l.length + 1010 * n ≤ 1000000) (hn2 : n ≤ 1000000) :
    Calls Tryz.prog 34 #[.pointer (some ⟨p, 0, none⟩), .slice A n c] w (TextPost B p l xs w) := by
  obtain ⟨i0, hi0, hz0, hz1, hz2⟩ := info_parts u8_info
  have HW := Lib.hid h
  have HX := Lib.hid hx
  have HNN := Lib.hid hn
  have HS := Lib.hid hs
  have HM := Lib.hid hmax
  have HL := Lib.hid hl
  clear h hx hn hs hmax hl
  go_enter Tryz.func34, Tryz.ntmps34
  go_wp2_with fail
  go_loopw [8] (fun i wr => ∃ k : Nat, i = .int .i64 k ∧ k ≤ n ∧ (k = 0 → wr = w) ∧ (∀ x ∈ xs.take k, x.size ≤ 1000) ∧ Wr B p 0 (l ++ ((xs.take k).map tb).flatten) wr ∧ Below B w wr) (fun i _ => n - (intOf i).toNat)
  case atStart => exact ⟨0, rfl, Nat.zero_le _, fun _ => rfl, by simp, by simpa using HW.out, Below.refl _ _⟩
  case round =>
    obtain ⟨k, rfl, hk, hk0, hfit, hW, hb⟩ := hrel
    obtain ⟨d0, d1, d2⟩ := hW.cells
    have HK0 := Lib.hid hk0
    have HF := Lib.hid hfit
    have HW1 := Lib.hid hW
    clear hk0 hW hfit
    by_cases hlt : k < n
    · have hxl : k < xs.length := by have := HNN.out; omega
      obtain ⟨ad, hA, hcs⟩ := HX.out (by intro e0; rw [e0] at hxl; simp at hxl)
      subst hA
      have hxk : xs[k]? = some xs[k] := List.getElem?_eq_getElem hxl
      have hcell : wr.cell? (ad.add k) = some (.string xs[k]) := by
        by_cases hk1 : k = 0
        · rw [HK0.out hk1]; exact hcs _ _ hxk
        · rcases HS.out with hs | hs
          · omega
          · rw [hb.cell (p := ad.add k) (by unfold Addr.add; split <;> exact hs ad rfl)]
            exact hcs _ _ hxk
      have HC := Lib.hid hcs
      have HXK := Lib.hid hxk
      have HMk := Lib.hid (HM.out _ (List.getElem_mem hxl))
      have HIn := Lib.hid (List.getElem_mem hxl)
      generalize xs[k] = x at hcell HXK HMk HIn
      clear hcs hxk
      have HFL := Lib.hid (flat_tlen (xs.take k) HF.out)
      have HNB : Hid ((numB (x.size : Int)).length ≤ 10 ∨ 1000 < x.size) := by
        by_cases h9 : 1000 < x.size
        · exact .inr h9
        · exact .inl (vb_len10 (zz_lt (by omega) (by omega)))
      by_cases hlong : 1000 < x.size
      · go_wp2_with (first
          | (go_at_call 17; refine (wrong_any _ _ _ d0).mono ?_; rintro e w1 ⟨rfl, rfl⟩)
          | (go_at_call 122; refine (fail_any _ _ _ d0 d1).mono ?_; rintro e w1 ⟨⟨u, rfl⟩, rfl⟩))
        refine bodyPost_ret (results_none rfl _ _ _) rfl ?_
        exact ⟨⟨_, rfl⟩, hb.setCell (p := ⟨p, 0, none⟩) HW1.out.1 _, .inr ⟨⟨x, HIn.out, hlong⟩, _, HW1.out.fail 2⟩⟩
      · go_wp2_with (first
          | (go_at_call 17; refine (wrong_any _ _ _ d0).mono ?_; rintro e w1 ⟨rfl, rfl⟩)
          | (go_at_call 121
             refine (wnum_any B p 0 (x.size : Int) _ _ HW1.out ⟨by omega, by omega⟩ (by have h1 := HL.out; have h2 := HFL.out; simp only [List.length_append, List.length_take] at h2 ⊢; omega)).mono ?_
             rintro e w1 ⟨⟨u, rfl⟩, ⟨_, v1, hp1, hown1, hne1⟩, hb1⟩
             obtain ⟨N1, hN1⟩ : ∃ N, (l ++ (List.map tb (List.take k xs)).flatten ++ numB (x.size : Int)).length = N := ⟨_, rfl⟩
             rw [hN1] at hown1
             have HN1 := Lib.hid hN1
             clear hN1
             have e0 : w1.cell? ⟨p, 1, none⟩ = some v1 := (by rw [cell_p hp1]; rfl)
             have HP1 := Lib.hid hp1
             have hbs1 : B ≤ w1.heap.size := (by have := hb1.size; omega)
             clear hp1)
          | (at_builtin
             refine wpList_append_own_string _ rfl (.tmp 38) (.tmp 39) _ _ rfl B 5 i0 Tryz.underlying28 Tryz.underlying9 hi0 hz0 hz1 hz2 v1 _ _ rfl hown1 x rfl (by have h1 := HL.out; have h2 := HFL.out; have h3 := HNB.out; have h4 := HN1.out; simp only [List.length_append, List.length_take] at h2 h3 h4 ⊢; unfold maxLen; omega) (by have h1 := HL.out; have h2 := HFL.out; have h3 := HNB.out; have h4 := HN1.out; simp only [List.length_append, List.length_take] at h2 h3 h4 ⊢; omega) hbs1 ?_
             intro v2 w2 hown2 hg2 _
             obtain ⟨g2, cap2, rfl, hf2, hf3⟩ := hown2.form (by have := vb_pos (zz (x.size : Int)); have h4 := HN1.out; simp only [List.length_append, numB] at h4; omega)
             have hp2 := (hg2.block p (blk_lt HP1.out) (fun hh => own_ne hown1 HP1.out (by decide) hh.symm)).trans HP1.out
             have e1 : w2.cell? ⟨p, 1, none⟩ = some v1 := (by rw [cell_p hp2]; rfl)
             have e2 : w2.frozen? ⟨p, 1, none⟩ = false := frozen_p hp2
             clear hp2))
        go_roundw
        case rel =>
          have hst := Wr.step x.data.toList HW1.out.1 HP1.out (by rw [HN1.out]; exact hown1) hown2 (by rw [HN1.out, sz]) (by rw [strB]) hg2
          refine ⟨k + 1, by go_num, by omega, fun h => absurd h (by omega), ?_, ?_, (below_grown (hb.trans hb1) hg2 hbs1 (own_ge hown1)).setCell (p := ⟨p, 1, none⟩) HW1.out.1 _⟩
          · intro y hy
            rw [List.take_succ_eq_append_getElem hxl, List.mem_append] at hy
            rcases hy with hy | hy
            · exact HF.out y hy
            · have hxx : xs[k] = x := by have := HXK.out; rw [List.getElem?_eq_getElem hxl] at this; injection this
              rw [hxx, List.mem_singleton] at hy
              rw [hy]; omega
          · rw [flat_snoc tb xs k x HXK.out, ← List.append_assoc]
            rw [List.append_assoc] at hst
            have he : tb x = numB (x.size : Int) ++ x.data.toList := by rw [tb, textB, sz]
            rw [he]
            exact hst
        case measure => simp [intOf]; omega
    · go_wp2
      go_end0
      have h3 := HW1.out
      have h4 := HF.out
      rw [List.take_of_length_le (by have := HNN.out; omega)] at h3 h4
      exact ⟨⟨_, rfl⟩, hb, .inl ⟨h4, h3⟩⟩
end Go.Proofs.YtgmbppfkkiobhaaGreat.Wire
