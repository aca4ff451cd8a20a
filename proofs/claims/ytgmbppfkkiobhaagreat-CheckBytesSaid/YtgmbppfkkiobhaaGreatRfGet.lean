/- (*complineref1.Reader).Fail, Num, Count, Text. -/
import Derived.Test.YtgmbppfkkiobhaaGreatRfRd
namespace Go.Proofs.YtgmbppfkkiobhaaGreat.Wire
open Go Go.RowKit Go.Lib
/-- The document's reader at block p. -/
def RRd (p : Nat) (e : Int) (b : ByteArray) (w : World) : Prop := w.heap[p]? = some (.cells #[.string b, .int .i64 e] 46 (0, 0))
theorem RRd.cells {p : Nat} {e : Int} {b : ByteArray} {w : World} (h : RRd p e b w) : w.cell? ⟨p, 0, none⟩ = some (.string b) ∧ w.cell? ⟨p, 1, none⟩ = some (.int .i64 e) := by
  refine ⟨?_, ?_⟩ <;> (rw [cell_p h]; rfl)
theorem RRd.froz {p : Nat} {e : Int} {b : ByteArray} {w : World} (h : RRd p e b w) (i : Nat) : w.frozen? ⟨p, i, none⟩ = false := frozen_p h
theorem RRd.setE {p : Nat} {e x : Int} {b : ByteArray} {w : World} (h : RRd p e b w) : RRd p x b (w.setCell ⟨p, 1, none⟩ (.int .i64 x)) := Go.Lib.heap_setCell_same (i := 1) h _
theorem RRd.setB {p : Nat} {e : Int} {b : ByteArray} {w : World} (h : RRd p e b w) (c : ByteArray) : RRd p e c (w.setCell ⟨p, 0, none⟩ (.string c)) := Go.Lib.heap_setCell_same (i := 0) h _
/-- Where the document's reader stands behind a call. -/
def RREnd (p : Nat) (v : Value) (s : RS) (w : World) (en : Ending) (w' : World) : Prop :=
  en = .returned v ∧ w.grownBy w' (some p) ∧ ∃ b : ByteArray, RRd p s.e b w' ∧ bl b = s.l
theorem rrfail_ok (p : Nat) (x : Int) (b : ByteArray) (w : World) (h : RRd p 0 b w) :
    Calls Tryz.prog 128 #[.pointer (some ⟨p, 0, none⟩), .int .i64 x] w fun en w' => (∃ u, en = .returned u) ∧ w.setCell ⟨p, 1, none⟩ (.int .i64 x) = w' := by
  obtain ⟨c0, c1⟩ := h.cells
  have f1 := h.froz 1
  clear h
  go_enter Tryz.func128, Tryz.ntmps128
  go_wp2
  go_end0
  exact ⟨⟨_, rfl⟩, rfl⟩
theorem drop_extract (b : ByteArray) (k : Nat) : bl (b.extract k b.size) = (bl b).drop k := by
  have h : (b.data.toList.drop k).length ≤ b.size - k := by rw [List.length_drop, Array.length_toList]; exact Nat.le_refl _
  unfold bl
  rw [ByteArray.data_extract, Array.toList_extract, List.extract_eq_take_drop]
  exact List.take_of_length_le h
set_option maxRecDepth 20000 in
set_option maxHeartbeats 1000000 in
theorem rrNum_any (p : Nat) (e : Int) (b : ByteArray) (w : World) (h : RRd p e b w) (hb : b.size ≤ 1000000000000) :
    Calls Tryz.prog 42 #[.pointer (some ⟨p, 0, none⟩)] w (RREnd p (.int .i64 (rNum ⟨e, bl b⟩).1) (rNum ⟨e, bl b⟩).2 w) := by
  obtain ⟨c0, c1⟩ := h.cells
  have f0 := h.froz 0
  have HR := Lib.hid h
  clear h
  by_cases he : e ≠ 0
  · rw [rNum, if_pos he]
    have hb2 : (e != 0) = true := by simpa using he
    clear he
    go_enter Tryz.func42, Tryz.ntmps42
    go_wp2_with fail
    refine bodyPost_ret (results_tmp rfl _ _ _) rfl ?_
    exact ⟨rfl, World.grownBy.refl _ _, b, HR.out, rfl⟩
  · have he0 : e = 0 := by omega
    subst he0
    rw [rNum, if_neg he]
    clear he
    have HN := Lib.hid (rrnum_any b w hb)
    obtain ⟨⟨v, k, x⟩, hr⟩ : ∃ r, rdN (bl b) 0 0 = r := ⟨_, rfl⟩
    simp only [hr]
    have HN : Hid (Calls Tryz.prog 127 #[.string b] w fun en w' => en = .returned (.tuple #[.int .i64 v, .int .i64 (k : Int), .int .i64 x]) ∧ w = w') := Lib.hid (HN.out.mono fun en w' h => by unfold NumD at h; rw [hr] at h; exact h)
    have HRD := Lib.hid hr
    clear hr
    by_cases hx : x ≠ 0
    · rw [if_pos hx]
      have hb1 : (x == 0) = false := by simpa using hx
      have hb2 : (x != 0) = true := by simpa using hx
      clear hx
      go_enter Tryz.func42, Tryz.ntmps42
      go_wp2_with (first
        | (go_at_call 127; refine HN.out.mono ?_; rintro e1 w1 ⟨rfl, rfl⟩)
        | (go_at_call 128; refine (rrfail_ok p x b _ HR.out).mono ?_; rintro e1 w1 ⟨⟨u, rfl⟩, rfl⟩))
      refine bodyPost_ret (results_tmp rfl _ _ _) rfl ?_
      exact ⟨rfl, only_set (World.grownBy.refl _ _) _, b, HR.out.setE, rfl⟩
    · have hx0 : x = 0 := by omega
      subst hx0
      rw [if_neg hx]
      have hk := rd_le HRD.out
      rw [show (bl b).length = b.size from by rw [bl, Array.length_toList]; rfl] at hk
      have HK := Lib.hid hk
      have hsl : ∀ W : World, (Instr.slice 9 (.string b) (some (.int .i64 (k : Int))) none none).run Tryz.prog W = .ok (.string (b.extract k b.size)) W := fun W => by
        have h := run_slice_string_from_if (P := Tryz.prog) W 9 b .i64 (k : Int) Tryz.underlying9
        rw [if_pos ⟨by omega, by have := HK.out; omega⟩, show ((k : Int)).toNat = k from by omega] at h
        exact h
      clear hx hk
      go_enter Tryz.func42, Tryz.ntmps42
      go_wp2_with (go_at_call 127; refine HN.out.mono ?_; rintro e1 w1 ⟨rfl, rfl⟩)
      refine bodyPost_ret (results_tmp rfl _ _ _) rfl ?_
      exact ⟨rfl, only_set (World.grownBy.refl _ _) _, _, HR.out.setB _, drop_extract b k⟩
set_option maxRecDepth 20000 in
set_option maxHeartbeats 1000000 in
theorem rrCount_any (p : Nat) (e most : Int) (b : ByteArray) (w : World) (h : RRd p e b w) (hb : b.size ≤ 1000000000000) :
    Calls Tryz.prog 41 #[.pointer (some ⟨p, 0, none⟩), .int .i64 most] w (RREnd p (.int .i64 (rCount most ⟨e, bl b⟩).1) (rCount most ⟨e, bl b⟩).2 w) := by
  obtain ⟨c0, c1⟩ := h.cells
  have f0 := h.froz 0
  have HR := Lib.hid h
  clear h
  by_cases he : e ≠ 0
  · rw [rCount, if_pos he]
    have hb2 : (e != 0) = true := by simpa using he
    clear he
    go_enter Tryz.func41, Tryz.ntmps41
    go_wp2_with fail
    refine bodyPost_ret (results_tmp rfl _ _ _) rfl ?_
    exact ⟨rfl, World.grownBy.refl _ _, b, HR.out, rfl⟩
  · have he0 : e = 0 := by omega
    subst he0
    rw [rCount, if_neg he]
    clear he
    have HN := Lib.hid (rrnum_any b w hb)
    obtain ⟨⟨v, k, x⟩, hr⟩ : ∃ r, rdN (bl b) 0 0 = r := ⟨_, rfl⟩
    simp only [hr]
    have HN : Hid (Calls Tryz.prog 127 #[.string b] w fun en w' => en = .returned (.tuple #[.int .i64 v, .int .i64 (k : Int), .int .i64 x]) ∧ w = w') := Lib.hid (HN.out.mono fun en w' h => by unfold NumD at h; rw [hr] at h; exact h)
    have HRD := Lib.hid hr
    clear hr
    by_cases hx : x ≠ 0
    · have hc : cErr most (v, k, x) = x := by unfold cErr; rw [if_pos hx]
      rw [hc, if_pos hx]
      have hb1 : (x == 0) = false := by simpa using hx
      have hb2 : (x != 0) = true := by simpa using hx
      clear hx hc
      go_enter Tryz.func41, Tryz.ntmps41
      go_wp2_with (first
        | (go_at_call 127; refine HN.out.mono ?_; rintro e1 w1 ⟨rfl, rfl⟩)
        | (go_at_call 128; refine (rrfail_ok p x b _ HR.out).mono ?_; rintro e1 w1 ⟨⟨u, rfl⟩, rfl⟩))
      refine bodyPost_ret (results_tmp rfl _ _ _) rfl ?_
      exact ⟨rfl, only_set (World.grownBy.refl _ _) _, b, HR.out.setE, rfl⟩
    · have hx0 : x = 0 := by omega
      subst hx0
      clear hx
      by_cases h1 : v > most
      · have hc : cErr most (v, k, 0) = 2 := by unfold cErr; rw [if_neg (by simp), if_pos h1]
        rw [hc, if_pos (by decide)]
        clear hc
        go_enter Tryz.func41, Tryz.ntmps41
        go_wp2_with (first
          | (go_at_call 127; refine HN.out.mono ?_; rintro e1 w1 ⟨rfl, rfl⟩)
          | (go_at_call 128; refine (rrfail_ok p 2 b _ HR.out).mono ?_; rintro e1 w1 ⟨⟨u, rfl⟩, rfl⟩))
        refine bodyPost_ret (results_tmp rfl _ _ _) rfl ?_
        exact ⟨rfl, only_set (World.grownBy.refl _ _) _, b, HR.out.setE, rfl⟩
      · by_cases h2 : v < 0
        · have hc : cErr most (v, k, 0) = 4 := by unfold cErr; rw [if_neg (by simp), if_neg h1, if_pos h2]
          rw [hc, if_pos (by decide)]
          clear hc
          go_enter Tryz.func41, Tryz.ntmps41
          go_wp2_with (first
            | (go_at_call 127; refine HN.out.mono ?_; rintro e1 w1 ⟨rfl, rfl⟩)
            | (go_at_call 128; refine (rrfail_ok p 4 b _ HR.out).mono ?_; rintro e1 w1 ⟨⟨u, rfl⟩, rfl⟩))
          refine bodyPost_ret (results_tmp rfl _ _ _) rfl ?_
          exact ⟨rfl, only_set (World.grownBy.refl _ _) _, b, HR.out.setE, rfl⟩
        · have hc : cErr most (v, k, 0) = 0 := by unfold cErr; rw [if_neg (by simp), if_neg h1, if_neg h2]
          rw [hc, if_neg (by decide)]
          have hk := rd_le HRD.out
          rw [show (bl b).length = b.size from by rw [bl, Array.length_toList]; rfl] at hk
          have HK := Lib.hid hk
          have hsl : ∀ W : World, (Instr.slice 9 (.string b) (some (.int .i64 (k : Int))) none none).run Tryz.prog W = .ok (.string (b.extract k b.size)) W := fun W => by
            have h := run_slice_string_from_if (P := Tryz.prog) W 9 b .i64 (k : Int) Tryz.underlying9
            rw [if_pos ⟨by omega, by have := HK.out; omega⟩, show ((k : Int)).toNat = k from by omega] at h
            exact h
          clear hc hk
          go_enter Tryz.func41, Tryz.ntmps41
          go_wp2_with (go_at_call 127; refine HN.out.mono ?_; rintro e1 w1 ⟨rfl, rfl⟩)
          refine bodyPost_ret (results_tmp rfl _ _ _) rfl ?_
          exact ⟨rfl, only_set (World.grownBy.refl _ _) _, _, HR.out.setB _, drop_extract b k⟩
set_option maxRecDepth 20000 in
set_option maxHeartbeats 1000000 in
theorem rrText_any (p : Nat) (e : Int) (b : ByteArray) (w : World) (h : RRd p e b w) (hb : b.size ≤ 1000000000000) :
    Calls Tryz.prog 43 #[.pointer (some ⟨p, 0, none⟩)] w (RREnd p (.string ⟨(rText ⟨e, bl b⟩).1.toArray⟩) (rText ⟨e, bl b⟩).2 w) := by
  obtain ⟨c0, c1⟩ := h.cells
  have f0 := h.froz 0
  have HR := Lib.hid h
  clear h
  by_cases he : e ≠ 0
  · rw [rText, if_pos he]
    have hb2 : (e != 0) = true := by simpa using he
    clear he
    go_enter Tryz.func43, Tryz.ntmps43
    go_wp2_with fail
    refine bodyPost_ret (results_tmp rfl _ _ _) rfl ?_
    exact ⟨rfl, World.grownBy.refl _ _, b, HR.out, rfl⟩
  · have he0 : e = 0 := by omega
    subst he0
    rw [rText, if_neg he]
    clear he
    have HN := Lib.hid (rrnum_any b w hb)
    obtain ⟨⟨v, k, x⟩, hr⟩ : ∃ r, rdN (bl b) 0 0 = r := ⟨_, rfl⟩
    simp only [hr]
    have HN : Hid (Calls Tryz.prog 127 #[.string b] w fun en w' => en = .returned (.tuple #[.int .i64 v, .int .i64 (k : Int), .int .i64 x]) ∧ w = w') := Lib.hid (HN.out.mono fun en w' h => by unfold NumD at h; rw [hr] at h; exact h)
    have HRD := Lib.hid hr
    clear hr
    by_cases hx : x ≠ 0
    · have hc : tErr (bl b).length (v, k, x) = x := by unfold tErr; rw [if_pos hx]
      rw [hc, if_pos hx]
      have hb1 : (x == 0) = false := by simpa using hx
      have hb2 : (x != 0) = true := by simpa using hx
      clear hx hc
      go_enter Tryz.func43, Tryz.ntmps43
      go_wp2_with (first
        | (go_at_call 127; refine HN.out.mono ?_; rintro e1 w1 ⟨rfl, rfl⟩)
        | (go_at_call 128; refine (rrfail_ok p x b _ HR.out).mono ?_; rintro e1 w1 ⟨⟨u, rfl⟩, rfl⟩))
      refine bodyPost_ret (results_tmp rfl _ _ _) rfl ?_
      exact ⟨rfl, only_set (World.grownBy.refl _ _) _, b, HR.out.setE, rfl⟩
    · have hx0 : x = 0 := by omega
      subst hx0
      clear hx
      by_cases h1 : v > 1000
      · have hc : tErr (bl b).length (v, k, 0) = 2 := by unfold tErr; rw [if_neg (by simp), if_pos h1]
        rw [hc, if_pos (by decide)]
        clear hc
        go_enter Tryz.func43, Tryz.ntmps43
        go_wp2_with (first
          | (go_at_call 127; refine HN.out.mono ?_; rintro e1 w1 ⟨rfl, rfl⟩)
          | (go_at_call 128; refine (rrfail_ok p 2 b _ HR.out).mono ?_; rintro e1 w1 ⟨⟨u, rfl⟩, rfl⟩))
        refine bodyPost_ret (results_tmp rfl _ _ _) rfl ?_
        exact ⟨rfl, only_set (World.grownBy.refl _ _) _, b, HR.out.setE, rfl⟩
      · by_cases h2 : v < 0
        · have hc : tErr (bl b).length (v, k, 0) = 4 := by unfold tErr; rw [if_neg (by simp), if_neg h1, if_pos h2]
          rw [hc, if_pos (by decide)]
          clear hc
          go_enter Tryz.func43, Tryz.ntmps43
          go_wp2_with (first
            | (go_at_call 127; refine HN.out.mono ?_; rintro e1 w1 ⟨rfl, rfl⟩)
            | (go_at_call 128; refine (rrfail_ok p 4 b _ HR.out).mono ?_; rintro e1 w1 ⟨⟨u, rfl⟩, rfl⟩))
          refine bodyPost_ret (results_tmp rfl _ _ _) rfl ?_
          exact ⟨rfl, only_set (World.grownBy.refl _ _) _, b, HR.out.setE, rfl⟩
        · have hln : (bl b).length = b.size := by rw [bl, Array.length_toList]; rfl
          have hk := rd_le HRD.out
          rw [hln] at hk
          obtain ⟨nv, hnv⟩ : ∃ nv : Nat, v = nv := ⟨v.toNat, by omega⟩
          subst hnv
          by_cases h3 : (nv : Int) > (b.size : Int) - k
          · have hc : tErr (bl b).length ((nv : Int), k, 0) = 5 := by
              unfold tErr
              rw [if_neg (by simp), if_neg h1, if_neg h2, if_pos (by rw [hln]; exact h3)]
            rw [hc, if_pos (by decide)]
            have hkI : (k : Int) ≤ b.size := by omega
            clear hc hk hln
            go_enter Tryz.func43, Tryz.ntmps43
            go_wp2_with (first
              | (go_at_call 127; refine HN.out.mono ?_; rintro e1 w1 ⟨rfl, rfl⟩)
              | (go_at_call 128; refine (rrfail_ok p 5 b _ HR.out).mono ?_; rintro e1 w1 ⟨⟨u, rfl⟩, rfl⟩))
            refine bodyPost_ret (results_tmp rfl _ _ _) rfl ?_
            exact ⟨rfl, only_set (World.grownBy.refl _ _) _, b, HR.out.setE, rfl⟩
          · have hc : tErr (bl b).length ((nv : Int), k, 0) = 0 := by
              unfold tErr
              rw [if_neg (by simp), if_neg h1, if_neg h2, if_neg (by rw [hln]; exact h3)]
            rw [hc, if_neg (by decide)]
            have HK : Hid (k + nv ≤ b.size) := Lib.hid (by omega)
            have hsl1 : ∀ W : World, (Instr.slice 9 (.string b) (some (.int .i64 ((k : Int) + nv))) none none).run Tryz.prog W = .ok (.string (b.extract (k + nv) b.size)) W := fun W => by
              have h := run_slice_string_from_if (P := Tryz.prog) W 9 b .i64 ((k : Int) + nv) Tryz.underlying9
              rw [if_pos ⟨by omega, by have := HK.out; omega⟩, show ((k : Int) + nv).toNat = k + nv from by omega] at h
              exact h
            have hsl : ∀ W : World, (Instr.slice 9 (.string b) (some (.int .i64 (k : Int))) (some (.int .i64 ((k : Int) + nv))) none).run Tryz.prog W = .ok (.string (b.extract k (k + nv))) W := fun W => by
              have h := run_slice_string (P := Tryz.prog) W 9 b .i64 .i64 (k : Int) ((k : Int) + nv) Tryz.underlying9 (by omega) (by omega) (by have := HK.out; omega)
              rw [show ((k : Int)).toNat = k from by omega, show ((k : Int) + nv).toNat = k + nv from by omega] at h
              exact h
            clear hc hk hln
            go_enter Tryz.func43, Tryz.ntmps43
            go_wp2_with (go_at_call 127; refine HN.out.mono ?_; rintro e1 w1 ⟨rfl, rfl⟩)
            refine bodyPost_ret (results_tmp rfl _ _ _) rfl ?_
            refine ⟨?_, only_set (World.grownBy.refl _ _) _, _, HR.out.setB _, ?_⟩
            · have h := extract_eq b 0 k nv
              simp only [Nat.zero_add, List.drop_zero] at h
              rw [h]
              rfl
            · rw [drop_extract]
              simp [List.drop_drop]
end Go.Proofs.YtgmbppfkkiobhaaGreat.Wire
