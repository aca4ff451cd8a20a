/- (*wire.Err).Wrong, Fail; (*wire.Writer).Num: numbers put. -/
import Derived.Test.YtgmbppfkkiobhaaGreatWireNum
namespace Go.Proofs.YtgmbppfkkiobhaaGreat.Wire
open Go Go.RowKit Go.Lib
theorem wrong_any (p : Nat) (e : Int) (w : World) (h : w.cell? ⟨p, 0, none⟩ = some (.int .i64 e)) :
    Calls Tryz.prog 17 #[.pointer (some ⟨p, 0, none⟩)] w fun en w' => en = .returned (.int .i64 e) ∧ w = w' := by
  go_enter Tryz.func17, Tryz.ntmps17
  go_wp2
  go_ret
  exact ⟨rfl, rfl⟩
theorem fail_any (p : Nat) (x : Int) (w : World) (h : w.cell? ⟨p, 0, none⟩ = some (.int .i64 0)) (hf : w.frozen? ⟨p, 0, none⟩ = false) :
    Calls Tryz.prog 122 #[.pointer (some ⟨p, 0, none⟩), .int .i64 x] w fun en w' => (∃ u, en = .returned u) ∧ w.setCell ⟨p, 0, none⟩ (.int .i64 x) = w' := by
  go_enter Tryz.func122, Tryz.ntmps122
  go_wp2
  go_end0
  exact ⟨⟨_, rfl⟩, rfl⟩
/-- Numbers in memory, one behind the other. -/
def IntsAt (w : World) (A : Option Addr) (xs : List Int) : Prop := xs ≠ [] → ∃ ad, A = some ad ∧ ∀ j x, xs[j]? = some x → w.cell? (ad.add j) = some (.int .i64 x)
theorem Wr.cells {B p : Nat} {e : Int} {l : List UInt8} {w : World} (h : Wr B p e l w) : w.cell? ⟨p, 0, none⟩ = some (.int .i64 e) ∧ w.frozen? ⟨p, 0, none⟩ = false ∧ B ≤ w.heap.size := by
  obtain ⟨hB, v, hp, _⟩ := h
  exact ⟨by rw [cell_p hp]; rfl, frozen_p hp, by have := blk_lt hp; omega⟩
theorem flat_snoc {α : Type} (f : α → List UInt8) (xs : List α) (k : Nat) (x : α) (h : xs[k]? = some x) : ((xs.take (k + 1)).map f).flatten = ((xs.take k).map f).flatten ++ f x := by
  obtain ⟨hk, rfl⟩ := List.getElem?_eq_some_iff.1 h
  rw [List.take_succ_eq_append_getElem hk]
  simp only [List.map_append, List.flatten_append, List.map_cons, List.map_nil, List.flatten_cons, List.flatten_nil, List.append_nil]
theorem flat_len (xs : List Int) (h : ∀ x ∈ xs, okI x) : ((xs.map numB).flatten).length ≤ 10 * xs.length := by
  induction xs with
  | nil => simp
  | cons x xs ih =>
    have h1 := vb_len10 (zz_lt (h x (by simp)).1 (h x (by simp)).2)
    have h2 := ih (fun u hu => h u (by simp [hu]))
    simp only [List.map_cons, List.flatten_cons, List.length_append, List.length_cons, numB] at h2 ⊢
    omega
set_option maxRecDepth 20000 in
theorem wnums_any (B p : Nat) (l : List UInt8) (A : Option Addr) (n c : Nat) (xs : List Int) (w : World) (h : Wr B p 0 l w) (hx : IntsAt w A xs) (hn : xs.length = n) (hs : n ≤ 1 ∨ ∀ ad, A = some ad → ad.block < B)
    (hok : ∀ x ∈ xs, okI x) (hl : l.length + 10 * n ≤ 10000000) (hn2 : n ≤ 1000000) :
    Calls Tryz.prog 33 #[.pointer (some ⟨p, 0, none⟩), .slice A n c] w fun en w' => (∃ u, en = .returned u) ∧ Wr B p 0 (l ++ (xs.map numB).flatten) w' ∧ Below B w w' := by
  have HW := Lib.hid h
  have HX := Lib.hid hx
  have HNN := Lib.hid hn
  have HS := Lib.hid hs
  have HOK := Lib.hid hok
  have HL := Lib.hid hl
  clear h hx hn hs hok hl
  go_enter Tryz.func33, Tryz.ntmps33
  go_wp2_with fail
  go_loopw [8] (fun i wr => ∃ k : Nat, i = .int .i64 k ∧ k ≤ n ∧ (k = 0 → wr = w) ∧ Wr B p 0 (l ++ ((xs.take k).map numB).flatten) wr ∧ Below B w wr) (fun i _ => n - (intOf i).toNat)
  case atStart => exact ⟨0, rfl, Nat.zero_le _, fun _ => rfl, by simpa using HW.out, Below.refl _ _⟩
  case round =>
    obtain ⟨k, rfl, hk, hk0, hW, hb⟩ := hrel
    obtain ⟨d0, d1, d2⟩ := hW.cells
    have HK0 := Lib.hid hk0
    have HW1 := Lib.hid hW
    clear hk0 hW
    by_cases hlt : k < n
    · have hxl : k < xs.length := by have := HNN.out; omega
      obtain ⟨ad, hA, hcs⟩ := HX.out (by intro e0; rw [e0] at hxl; simp at hxl)
      subst hA
      have hxk : xs[k]? = some xs[k] := List.getElem?_eq_getElem hxl
      have hcell : wr.cell? (ad.add k) = some (.int .i64 xs[k]) := by
        by_cases hk1 : k = 0
        · rw [HK0.out hk1]; exact hcs _ _ hxk
        · rcases HS.out with hs | hs
          · omega
          · rw [hb.cell (p := ad.add k) (by unfold Addr.add; split <;> exact hs ad rfl)]
            exact hcs _ _ hxk
      have HC := Lib.hid hcs
      have HXK := Lib.hid hxk
      have HOKk := Lib.hid (HOK.out _ (List.getElem_mem hxl))
      generalize xs[k] = x at hcell HXK HOKk
      clear hcs hxk
      go_wp2_with (first
        | (go_at_call 17; refine (wrong_any _ _ _ d0).mono ?_; rintro e w1 ⟨rfl, rfl⟩)
        | (go_at_call 121; refine (wnum_any B p 0 x _ _ HW1.out HOKk.out (by have h1 := HL.out; have h2 := flat_len (xs.take k) (fun y hy => HOK.out y (List.mem_of_mem_take hy)); simp only [List.length_append, List.length_take] at h2 ⊢; omega)).mono ?_; rintro e w1 ⟨⟨u, rfl⟩, hW1, hb1⟩))
      go_roundw
      case rel => exact ⟨k + 1, by go_num, by omega, fun h => absurd h (by omega), by rw [flat_snoc numB xs k x HXK.out, ← List.append_assoc]; exact hW1, hb.trans hb1⟩
      case measure => simp [intOf]; omega
    · go_wp2
      go_end0
      have h3 := HW1.out
      rw [List.take_of_length_le (by have := HNN.out; omega)] at h3
      exact ⟨⟨_, rfl⟩, h3, hb⟩
set_option maxRecDepth 20000 in
/-- Behind an error nothing is put. -/
theorem wnums_bad (B p : Nat) (e : Int) (he : e ≠ 0) (l : List UInt8) (A : Option Addr) (n c : Nat) (xs : List Int) (w : World) (h : Wr B p e l w) (hx : IntsAt w A xs) (hn : xs.length = n) (hn2 : n ≤ 1000000) :
    Calls Tryz.prog 33 #[.pointer (some ⟨p, 0, none⟩), .slice A n c] w fun en w' => (∃ u, en = .returned u) ∧ w = w' := by
  obtain ⟨d0, d1, d2⟩ := h.cells
  clear h
  have HX := Lib.hid hx
  have HNN := Lib.hid hn
  clear hx hn
  by_cases h0 : 0 < n
  · have hxl : 0 < xs.length := by have := HNN.out; omega
    obtain ⟨ad, hA, hcs⟩ := HX.out (by intro e0; rw [e0] at hxl; simp at hxl)
    subst hA
    have hcell : w.cell? ad = some (.int .i64 xs[0]) := by
      have := hcs 0 _ (List.getElem?_eq_getElem hxl)
      simpa [Addr.add] using this
    generalize xs[0] = x at hcell
    clear hcs
    have hb1 : (e == 0) = false := by simpa using he
    have hb2 : (e != 0) = true := by simpa using he
    go_enter Tryz.func33, Tryz.ntmps33
    go_wp2_with fail
    refine wp_loop_rounds 1 ?_
    rw [rounds_succ]
    go_wp2_with (go_at_call 17; refine (wrong_any _ _ _ d0).mono ?_; rintro e w1 ⟨rfl, rfl⟩)
    refine bodyPost_ret (results_none rfl _ _ _) rfl ?_
    exact ⟨⟨_, rfl⟩, rfl⟩
  · go_enter Tryz.func33, Tryz.ntmps33
    go_wp2_with fail
    refine wp_loop_rounds 1 ?_
    rw [rounds_succ]
    go_wp2
    go_end0
    exact ⟨⟨_, rfl⟩, rfl⟩
end Go.Proofs.YtgmbppfkkiobhaaGreat.Wire
