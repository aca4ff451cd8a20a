/- Text behind an error; (*wire.Writer).Bytes; wire.NewWriter. -/
import Derived.Test.YtgmbppfkkiobhaaGreatWireTexts
namespace Go.Proofs.YtgmbppfkkiobhaaGreat.Wire
open Go Go.RowKit Go.Lib
set_option maxRecDepth 20000 in
/-- Behind an error no text is put. -/
theorem wtexts_bad (B p : Nat) (e : Int) (he : e ≠ 0) (l : List UInt8) (A : Option Addr) (n c : Nat) (xs : List ByteArray) (w : World) (h : Wr B p e l w) (hx : TextsAt w A xs) (hn : xs.length = n) (hn2 : n ≤ 1000000) :
    Calls Tryz.prog 34 #[.pointer (some ⟨p, 0, none⟩), .slice A n c] w fun en w' => (∃ u, en = .returned u) ∧ w = w' := by
  obtain ⟨d0, d1, d2⟩ := h.cells
  clear h
  have HX := Lib.hid hx
  have HNN := Lib.hid hn
  clear hx hn
  by_cases h0 : 0 < n
  · have hxl : 0 < xs.length := by have := HNN.out; omega
    obtain ⟨ad, hA, hcs⟩ := HX.out (by intro e0; rw [e0] at hxl; simp at hxl)
    subst hA
    have hcell : w.cell? ad = some (.string xs[0]) := by
      have := hcs 0 _ (List.getElem?_eq_getElem hxl)
      simpa [Addr.add] using this
    generalize xs[0] = x at hcell
    clear hcs
    have hb1 : (e == 0) = false := by simpa using he
    have hb2 : (e != 0) = true := by simpa using he
    go_enter Tryz.func34, Tryz.ntmps34
    go_wp2_with fail
    refine wp_loop_rounds 1 ?_
    rw [rounds_succ]
    go_wp2_with (go_at_call 17; refine (wrong_any _ _ _ d0).mono ?_; rintro e w1 ⟨rfl, rfl⟩)
    refine bodyPost_ret (results_none rfl _ _ _) rfl ?_
    exact ⟨⟨_, rfl⟩, rfl⟩
  · go_enter Tryz.func34, Tryz.ntmps34
    go_wp2_with fail
    refine wp_loop_rounds 1 ?_
    rw [rounds_succ]
    go_wp2
    go_end0
    exact ⟨⟨_, rfl⟩, rfl⟩
theorem conv_nil (w : World) (c : Nat) : (convert 28 9 (.slice none 0 c)).run Tryz.prog w = .ok (.string ⟨#[]⟩) w := by
  rw [run_convert_bytes_string w 28 9 5 none 0 c Tryz.underlying28 Tryz.underlying5 Tryz.underlying9]
  simp [Conv.bytesToString]
  rfl
/-- A row's bytes as a string. -/
theorem conv_row {B : Nat} {w : World} {v : Value} {l : List UInt8} (h : w.ownsRow B 5 1 v l.length (byteCells l)) : (convert 28 9 v).run Tryz.prog w = .ok (.string ⟨l.toArray⟩) w := by
  rcases h.2 with ⟨rfl, h0⟩ | ⟨g, cap, cur, rfl, _, hh, _, _, _, htk⟩
  · have : l = [] := List.eq_nil_of_length_eq_zero h0
    subst this
    exact conv_nil w 0
  · refine run_convert_bytes_back w _ _ 5 ⟨g, 0, none⟩ cap l Tryz.underlying28 Tryz.underlying5 Tryz.underlying9 ?_
    intro j hj
    refine h.cells (g := g) rfl j _ ?_
    simp [byteCells, hj]
/-- What was put, as a string. -/
theorem wbytes_any (B p : Nat) (l : List UInt8) (w : World) (h : Wr B p 0 l w) :
    Calls Tryz.prog 11 #[.pointer (some ⟨p, 0, none⟩)] w fun en w' => en = .returned (.tuple #[.string ⟨l.toArray⟩, .int .i64 0]) ∧ w = w' := by
  obtain ⟨hB, v, hp, hown, hne⟩ := h
  have d0 : w.cell? ⟨p, 0, none⟩ = some (.int .i64 0) := by rw [cell_p hp]; rfl
  have d1 : w.cell? ⟨p, 1, none⟩ = some v := by rw [cell_p hp]; rfl
  have hcv := conv_row hown
  clear hp hown hne
  go_enter Tryz.func11, Tryz.ntmps11
  go_wp2_with (go_at_call 17; refine (wrong_any _ _ _ d0).mono ?_; rintro e w1 ⟨rfl, rfl⟩)
  go_ret2
  exact ⟨rfl, rfl⟩
theorem wbytes_bad (B p : Nat) (e : Int) (he : e ≠ 0) (l : List UInt8) (w : World) (h : Wr B p e l w) :
    Calls Tryz.prog 11 #[.pointer (some ⟨p, 0, none⟩)] w fun en w' => en = .returned (.tuple #[.string ⟨#[]⟩, .int .i64 e]) ∧ w = w' := by
  obtain ⟨d0, d1, d2⟩ := h.cells
  clear h
  have hb1 : (e == 0) = false := by simpa using he
  have hb2 : (e != 0) = true := by simpa using he
  go_enter Tryz.func11, Tryz.ntmps11
  go_wp2_with (go_at_call 17; refine (wrong_any _ _ _ d0).mono ?_; rintro e w1 ⟨rfl, rfl⟩)
  go_ret2
  exact ⟨rfl, rfl⟩
/-- A new writer. -/
theorem newW_any (w : World) : Calls Tryz.prog 7 #[] w fun en w' => en = .returned (.pointer (some ⟨w.heap.size, 0, none⟩)) ∧ Wr w.heap.size w.heap.size 0 [] w' ∧ Below w.heap.size w w' := by
  go_enter Tryz.func7, Tryz.ntmps7
  go_wp2
  go_ret
  refine ⟨rfl, ⟨Nat.le_refl _, .slice none 0 0, heap_alloc_new w _, World.ownsRow_nil _ _ _ _, by simp [Value.ownBlock]⟩, (Below.refl _ w).alloc (Nat.le_refl _) _⟩
end Go.Proofs.YtgmbppfkkiobhaaGreat.Wire
