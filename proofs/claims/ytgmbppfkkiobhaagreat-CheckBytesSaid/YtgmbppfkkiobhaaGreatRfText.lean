/- (*complineref1.Writer).Fail, Num, Text, Bytes. -/
import Derived.Test.YtgmbppfkkiobhaaGreatRfNum
namespace Go.Proofs.YtgmbppfkkiobhaaGreat.Wire
open Go Go.RowKit Go.Lib
theorem KeepsU.set1 {p : Nat} {w : World} {v e : Value} {t : TypeId} (hp : w.heap[p]? = some (.cells #[v, e] t (0, 0))) (u : Value) : KeepsU p w (w.setCell ⟨p, 1, none⟩ u) := ⟨(grownBy_setCell w p 1 u).size, fun B hB hr =>
  ⟨fun b hb hbp => (grownBy_setCell w p 1 u).block b (by omega) (fun h => hbp (Option.some.inj h)), fun v' e' t' fr' h => by
    have h1 := Go.Lib.heap_setCell_same (i := 1) hp u
    rw [h1] at h
    simp only [Option.some.injEq, Obj.cells.injEq] at h
    have h3 : #[v, u] = #[v', e'] := h.1
    have h4 : v = v' := by have h5 := congrArg Array.toList h3; injection h5
    rw [← h4]
    exact hr v e t (0, 0) hp⟩⟩
def RWrS (B p : Nat) (s : WS) (w : World) : Prop := (s.e = 0 → RWr B p 0 s.l w) ∧ (s.e ≠ 0 → ∃ l, RWr B p s.e l w)
theorem RWrS.ok {B p : Nat} {s : WS} {w : World} (h : s.e = 0) (k : RWr B p 0 s.l w) : RWrS B p s w := ⟨fun _ => k, fun h' => absurd h h'⟩
theorem RWrS.bad {B p : Nat} {s : WS} {l : List UInt8} {w : World} (h : s.e ≠ 0) (k : RWr B p s.e l w) : RWrS B p s w := ⟨fun h' => absurd h' h, fun _ => ⟨l, k⟩⟩
theorem RWr.fail {B p : Nat} {e : Int} {l : List UInt8} {w : World} (h : RWr B p e l w) (x : Int) : RWr B p x l (w.setCell ⟨p, 1, none⟩ (.int .i64 x)) := by
  obtain ⟨hB, v, hp, hown, hne⟩ := h
  exact ⟨hB, v, Go.Lib.heap_setCell_same (i := 1) hp _, hown.kept (grownBy_setCell w p 1 _) (Or.inr hne), hne⟩
theorem rwfail_ok (B p : Nat) (x : Int) (l : List UInt8) (w : World) (h : RWr B p 0 l w) :
    Calls Tryz.prog 123 #[.pointer (some ⟨p, 0, none⟩), .int .i64 x] w fun en w' => (∃ u, en = .returned u) ∧ w.setCell ⟨p, 1, none⟩ (.int .i64 x) = w' := by
  obtain ⟨d0, d1, d2⟩ := h.cells
  clear h
  go_enter Tryz.func123, Tryz.ntmps123
  go_wp2
  go_end0
  exact ⟨⟨_, rfl⟩, rfl⟩
theorem rwfail_bad (B p : Nat) (e x : Int) (he : e ≠ 0) (l : List UInt8) (w : World) (h : RWr B p e l w) :
    Calls Tryz.prog 123 #[.pointer (some ⟨p, 0, none⟩), .int .i64 x] w fun en w' => (∃ u, en = .returned u) ∧ w = w' := by
  obtain ⟨d0, d1, d2⟩ := h.cells
  clear h
  have hb1 : (e == 0) = false := by simpa using he
  go_enter Tryz.func123, Tryz.ntmps123
  go_wp2
  go_end0
  exact ⟨⟨_, rfl⟩, rfl⟩
theorem rwnum_bad (B p : Nat) (e v : Int) (he : e ≠ 0) (l : List UInt8) (w : World) (h : RWr B p e l w) :
    Calls Tryz.prog 35 #[.pointer (some ⟨p, 0, none⟩), .int .i64 v] w fun en w' => (∃ u, en = .returned u) ∧ w = w' := by
  obtain ⟨d0, d1, d2⟩ := h.cells
  clear h
  have hb2 : (e != 0) = true := by simpa using he
  go_enter Tryz.func35, Tryz.ntmps35
  go_wp2_with fail
  refine bodyPost_ret (results_none rfl _ _ _) rfl ?_
  exact ⟨⟨_, rfl⟩, rfl⟩
theorem rwnum_s (B p : Nat) (s : WS) (v : Int) (w : World) (h : RWrS B p s w) (hv : okI v) (hl : s.e = 0 → s.l.length ≤ 2000000000000) :
    Calls Tryz.prog 35 #[.pointer (some ⟨p, 0, none⟩), .int .i64 v] w fun en w' => (∃ u, en = .returned u) ∧ RWrS B p (wNum v s) w' ∧ Below B w w' ∧ Keeps p w w' ∧ KeepsU p w w' := by
  by_cases he : s.e = 0
  · refine (rwnum_any B p v s.l w (h.1 he) hv (hl he)).mono ?_
    rintro e w' ⟨hu, hW, hb⟩
    refine ⟨hu, ?_, hb⟩
    rw [wNum, if_neg (by omega)]
    exact .ok rfl hW
  · obtain ⟨l, hl⟩ := h.2 he
    refine (rwnum_bad B p s.e v he l w hl).mono ?_
    rintro e w' ⟨hu, rfl⟩
    refine ⟨hu, ?_, Below.refl _ _, Keeps.refl _ _, KeepsU.refl _ _⟩
    rw [wNum, if_pos he]
    exact h
set_option maxRecDepth 20000 in
theorem rwtext_any (B p : Nat) (x : ByteArray) (l : List UInt8) (w : World) (h : RWr B p 0 l w) (hx : x.size ≤ 1000) (hl : l.length ≤ 1000000000000) :
    Calls Tryz.prog 36 #[.pointer (some ⟨p, 0, none⟩), .string x] w fun en w' => (∃ u, en = .returned u) ∧ RWr B p 0 (l ++ tb x) w' ∧ Below B w w' ∧ Keeps p w w' ∧ KeepsU p w w' := by
  obtain ⟨i0, hi0, hz0, hz1, hz2⟩ := info_parts u8_info
  obtain ⟨d0, d1, d2⟩ := h.cells
  have HW := Lib.hid h
  have HLL := Lib.hid hl
  have HNB := Lib.hid (vb_len10 (zz_lt (v := (x.size : Int)) (by omega) (by omega)))
  clear h hl
  go_enter Tryz.func36, Tryz.ntmps36
  go_wp2_with (first
    | (go_at_call 35
       refine (rwnum_any B p (x.size : Int) _ _ HW.out ⟨by omega, by omega⟩ (by have := HLL.out; omega)).mono ?_
       rintro e w1 ⟨⟨u, rfl⟩, ⟨hB, v1, hp1, hown1, hne1⟩, hb1, hkp1, hku1⟩
       obtain ⟨N1, hN1⟩ : ∃ N, (l ++ numB (x.size : Int)).length = N := ⟨_, rfl⟩
       rw [hN1] at hown1
       have HN1 := Lib.hid hN1
       clear hN1
       have e0 : w1.cell? ⟨p, 0, none⟩ = some v1 := (by rw [cell_p hp1]; rfl)
       have HP1 := Lib.hid hp1
       have hbs1 : B ≤ w1.heap.size := (by have := hb1.size; omega)
       clear hp1)
    | (at_builtin
       refine wpList_append_own_string _ rfl (.tmp 22) (.tmp 23) _ _ rfl (ownAt v1 w1) 5 i0 Tryz.underlying28 Tryz.underlying9 hi0 hz0 hz1 hz2 v1 _ _ rfl (own_at hown1) x rfl (by have h1 := HLL.out; have h3 := HNB.out; have h4 := HN1.out; simp only [List.length_append, numB] at h3 h4 ⊢; unfold maxLen; omega) (by have h1 := HLL.out; have h3 := HNB.out; have h4 := HN1.out; simp only [List.length_append, numB] at h3 h4 ⊢; omega) (own_at_size hown1) ?_
       intro v2 w2 hownA hg2 _
       have hown2 := own_down hownA (own_at_le (B := B) hbs1 (own_ge hown1))
       obtain ⟨g2, cap2, rfl, hf2, hf3⟩ := hownA.form (by have := vb_pos (zz (x.size : Int)); have h4 := HN1.out; simp only [List.length_append, numB] at h4; omega)
       have hp2 := (hg2.block p (blk_lt HP1.out) (fun hh => own_ne hown1 HP1.out (by decide) hh.symm)).trans HP1.out
       have e1 : w2.cell? ⟨p, 0, none⟩ = some v1 := (by rw [cell_p hp2]; rfl)
       have e2 : w2.frozen? ⟨p, 0, none⟩ = false := frozen_p hp2
       clear hp2))
  go_end0
  have hst := RWr.step x.data.toList hB HP1.out (by rw [HN1.out]; exact hown1) hown2 (by rw [HN1.out, sz]) (by rw [strB]) hg2
  rw [List.append_assoc] at hst
  have he : tb x = numB (x.size : Int) ++ x.data.toList := by rw [tb, textB, sz]
  refine ⟨⟨_, rfl⟩, ?_, (below_grown hb1 hg2 hbs1 (own_ge hown1)).setCell (p := ⟨p, 0, none⟩) hB _, hkp1.trans (Keeps.put0 hown1 hg2 _), hku1.trans (KeepsU.put HP1.out hne1 hg2 hownA)⟩
  rw [he]
  exact hst
theorem rwtext_bad (B p : Nat) (e : Int) (he : e ≠ 0) (x : ByteArray) (l : List UInt8) (w : World) (h : RWr B p e l w) :
    Calls Tryz.prog 36 #[.pointer (some ⟨p, 0, none⟩), .string x] w fun en w' => (∃ u, en = .returned u) ∧ w = w' := by
  obtain ⟨d0, d1, d2⟩ := h.cells
  have HW := Lib.hid h
  clear h
  have hb1 : (e == 0) = false := by simpa using he
  have hb2 : (e != 0) = true := by simpa using he
  by_cases hx : x.size ≤ 1000
  all_goals
    go_enter Tryz.func36, Tryz.ntmps36
    go_wp2_with (go_at_call 123; refine (rwfail_bad B p e 2 he l _ HW.out).mono ?_; rintro e1 w1 ⟨⟨u, rfl⟩, rfl⟩)
    go_end0
    exact ⟨⟨_, rfl⟩, rfl⟩
theorem rwtext_long (B p : Nat) (x : ByteArray) (l : List UInt8) (w : World) (h : RWr B p 0 l w) (hx : 1000 < x.size) :
    Calls Tryz.prog 36 #[.pointer (some ⟨p, 0, none⟩), .string x] w fun en w' => (∃ u, en = .returned u) ∧ RWr B p 2 l w' ∧ Below B w w' ∧ Keeps p w w' ∧ KeepsU p w w' := by
  have HW := Lib.hid h
  have HF := Lib.hid (h.fail 2)
  have hB := h.1
  clear h
  have k0 : (w.setCell ⟨p, 1, none⟩ (.int .i64 2)).cell? ⟨p, 1, none⟩ = some (.int .i64 2) := HF.out.cells.1
  go_enter Tryz.func36, Tryz.ntmps36
  go_wp2_with (go_at_call 123; refine (rwfail_ok B p 2 l _ HW.out).mono ?_; rintro e1 w1 ⟨⟨u, rfl⟩, rfl⟩)
  go_end0
  obtain ⟨_, v9, hp9, _⟩ := HW.out
  exact ⟨⟨_, rfl⟩, HF.out, (Below.refl _ _).setCell (p := ⟨p, 1, none⟩) hB _, Keeps.set p 1 w _, KeepsU.set1 hp9 _⟩
theorem rwtext_s (B p : Nat) (s : WS) (x : ByteArray) (w : World) (h : RWrS B p s w) (hl : s.e = 0 → s.l.length ≤ 1000000000000) :
    Calls Tryz.prog 36 #[.pointer (some ⟨p, 0, none⟩), .string x] w fun en w' => (∃ u, en = .returned u) ∧ RWrS B p (wText (bl8 x) s) w' ∧ Below B w w' ∧ Keeps p w w' ∧ KeepsU p w w' := by
  have hz := sz x
  by_cases he : s.e = 0
  · by_cases hx : x.size ≤ 1000
    · refine (rwtext_any B p x s.l w (h.1 he) hx (hl he)).mono ?_
      rintro e w' ⟨hu, hW, hb⟩
      refine ⟨hu, ?_, hb⟩
      rw [wText, if_neg (by omega), if_neg (by unfold bl8; omega)]
      exact .ok rfl hW
    · refine (rwtext_long B p x s.l w (h.1 he) (by omega)).mono ?_
      rintro e w' ⟨hu, hW, hb⟩
      refine ⟨hu, ?_, hb⟩
      rw [wText, if_neg (by omega), if_pos (by unfold bl8; omega)]
      exact .bad (by simp) hW
  · obtain ⟨l, hl⟩ := h.2 he
    refine (rwtext_bad B p s.e he x l w hl).mono ?_
    rintro e w' ⟨hu, rfl⟩
    refine ⟨hu, ?_, Below.refl _ _, Keeps.refl _ _, KeepsU.refl _ _⟩
    rw [wText, if_pos he]
    exact h
/-- What was put, as a string. -/
theorem rwbytes_any (B p : Nat) (l : List UInt8) (w : World) (h : RWr B p 0 l w) :
    Calls Tryz.prog 12 #[.pointer (some ⟨p, 0, none⟩)] w fun en w' => en = .returned (.tuple #[.string ⟨l.toArray⟩, .int .i64 0]) ∧ ∃ n, w' = w.drewN n := by
  obtain ⟨hB, v, hp, hown, hne⟩ := h
  have d0 : w.cell? ⟨p, 1, none⟩ = some (.int .i64 0) := by rw [cell_p hp]; rfl
  have d1 : w.cell? ⟨p, 0, none⟩ = some v := by rw [cell_p hp]; rfl
  have hcv := conv_row hown
  clear hp hown hne
  go_enter Tryz.func12, Tryz.ntmps12
  go_wp2_with fail
  go_ret2
  exact ⟨rfl, 0, rfl⟩
theorem rwbytes_bad (B p : Nat) (e : Int) (he : e ≠ 0) (l : List UInt8) (w : World) (h : RWr B p e l w) :
    Calls Tryz.prog 12 #[.pointer (some ⟨p, 0, none⟩)] w fun en w' => en = .returned (.tuple #[.string ⟨#[]⟩, .int .i64 e]) ∧ ∃ n, w' = w.drewN n := by
  obtain ⟨d0, d1, d2⟩ := h.cells
  clear h
  have hb1 : (e == 0) = false := by simpa using he
  have hb2 : (e != 0) = true := by simpa using he
  go_enter Tryz.func12, Tryz.ntmps12
  go_wp2_with fail
  go_quiet (fail)
  go_wp2_with fail
  go_ret2
  exact ⟨rfl, _, rfl⟩
end Go.Proofs.YtgmbppfkkiobhaaGreat.Wire
