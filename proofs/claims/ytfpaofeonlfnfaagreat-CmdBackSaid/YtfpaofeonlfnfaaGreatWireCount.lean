/- (*wire.Reader).Count, Text, Left, End. -/
import Derived.Test.YtfpaofeonlfnfaaGreatWireRead
namespace Go.Proofs.YtfpaofeonlfnfaaGreat.Wire
open Go Go.RowKit Go.Lib
set_option maxRecDepth 20000 in
set_option maxHeartbeats 1000000 in
theorem rCount_any (p : Nat) (e most : Int) (b : ByteArray) (at_ : Nat) (w : World) (h : Rd p e b at_ w) (hat : at_ ≤ b.size) (hb : b.size ≤ 1000000) :
    Calls Tryz.prog 230 #[.pointer (some ⟨p, 0, none⟩), .int .i64 most] w (REnd p b (.int .i64 (rCount most ⟨e, (bl b).drop at_⟩).1) (rCount most ⟨e, (bl b).drop at_⟩).2 w) := by
  by_cases he : e ≠ 0
  · rw [rCount, if_pos he]
    have HR := Lib.hid h
    have HE := Lib.hid he
    clear h he
    go_enter Tryz.func230, Tryz.ntmps230
    go_wp2_with (go_at_call 227; refine (off_yes _ _ HE.out _ _ _ HR.out).mono ?_; rintro e1 w1 ⟨rfl, rfl⟩)
    refine bodyPost_ret (results_tmp rfl _ _ _) rfl ?_
    exact ⟨rfl, World.grownBy.refl _ _, at_, hat, HR.out, rfl⟩
  · have he0 : e = 0 := by omega
    subst he0
    rw [rCount, if_neg he]
    clear he
    obtain ⟨⟨v, k, x⟩, hr⟩ : ∃ r, rdN ((bl b).drop at_) 0 0 = r := ⟨_, rfl⟩
    simp only [hr]
    have HR := Lib.hid h
    have HRD := Lib.hid hr
    have f0 := h.froz 0
    have f2 := h.froz 2
    obtain ⟨c0, c1, c2⟩ := h.cells
    clear h hr
    by_cases hx : x ≠ 0
    · have hc : cErr most (v, k, x) = x := by unfold cErr; rw [if_pos hx]
      rw [hc, if_pos hx]
      have HX := Lib.hid hx
      have hb1 : (x == 0) = false := by simpa using hx
      have hb2 : (x != 0) = true := by simpa using hx
      clear hx hc
      go_enter Tryz.func230, Tryz.ntmps230
      go_wp2_with (first
        | (go_at_call 227; refine (off_no _ _ _ _ HR.out).mono ?_; rintro e1 w1 ⟨rfl, rfl⟩)
        | (go_at_call 228; refine (rnum_bad _ _ _ _ _ HR.out hat hb v x k HX.out HRD.out).mono ?_; rintro e1 w1 ⟨rfl, n1, rfl⟩)
        | (go_at_call 225; refine (fail_any p x (w.drewN n1) c0 f0).mono ?_; rintro e1 w1 ⟨⟨u, rfl⟩, rfl⟩))
      refine bodyPost_ret (results_tmp rfl _ _ _) rfl ?_
      exact ⟨rfl, only_set (only_drewN (World.grownBy.refl _ _) _) _, at_, hat, (HR.out.drewN n1).setE, rfl⟩
    · have hx0 : x = 0 := by omega
      subst hx0
      clear hx
      by_cases h1 : v > most
      · have hc : cErr most (v, k, 0) = 2 := by unfold cErr; rw [if_neg (by simp), if_pos h1]
        rw [hc, if_pos (by decide)]
        clear hc
        go_enter Tryz.func230, Tryz.ntmps230
        go_wp2_with (first
          | (go_at_call 227; refine (off_no _ _ _ _ HR.out).mono ?_; rintro e1 w1 ⟨rfl, rfl⟩)
          | (go_at_call 228; refine (rnum_ok _ _ _ _ _ HR.out hat hb v k HRD.out).mono ?_; rintro e1 w1 ⟨rfl, n1, rfl⟩)
          | (go_at_call 225; refine (fail_any p 2 (w.drewN n1) c0 f0).mono ?_; rintro e1 w1 ⟨⟨u, rfl⟩, rfl⟩))
        refine bodyPost_ret (results_tmp rfl _ _ _) rfl ?_
        exact ⟨rfl, only_set (only_drewN (World.grownBy.refl _ _) _) _, at_, hat, (HR.out.drewN n1).setE, rfl⟩
      · by_cases h2 : v < 0
        · have hc : cErr most (v, k, 0) = 4 := by unfold cErr; rw [if_neg (by simp), if_neg h1, if_pos h2]
          rw [hc, if_pos (by decide)]
          clear hc
          go_enter Tryz.func230, Tryz.ntmps230
          go_wp2_with (first
            | (go_at_call 227; refine (off_no _ _ _ _ HR.out).mono ?_; rintro e1 w1 ⟨rfl, rfl⟩)
            | (go_at_call 228; refine (rnum_ok _ _ _ _ _ HR.out hat hb v k HRD.out).mono ?_; rintro e1 w1 ⟨rfl, n1, rfl⟩)
            | (go_at_call 225; refine (fail_any p 4 (w.drewN n1) c0 f0).mono ?_; rintro e1 w1 ⟨⟨u, rfl⟩, rfl⟩))
          refine bodyPost_ret (results_tmp rfl _ _ _) rfl ?_
          exact ⟨rfl, only_set (only_drewN (World.grownBy.refl _ _) _) _, at_, hat, (HR.out.drewN n1).setE, rfl⟩
        · have hc : cErr most (v, k, 0) = 0 := by unfold cErr; rw [if_neg (by simp), if_neg h1, if_neg h2]
          rw [hc, if_neg (by decide)]
          clear hc
          go_enter Tryz.func230, Tryz.ntmps230
          go_wp2_with (first
            | (go_at_call 227; refine (off_no _ _ _ _ HR.out).mono ?_; rintro e1 w1 ⟨rfl, rfl⟩)
            | (go_at_call 228; refine (rnum_ok _ _ _ _ _ HR.out hat hb v k HRD.out).mono ?_; rintro e1 w1 ⟨rfl, n1, rfl⟩))
          go_ret
          have hk := rd_le HRD.out
          rw [bl_drop_len] at hk
          have h9 := (HR.out.drewN n1).setAt (at_ + k)
          exact ⟨rfl, only_set (only_drewN (World.grownBy.refl _ _) _) _, at_ + k, by omega, h9, by simp [List.drop_drop]⟩
theorem left_any (p : Nat) (e : Int) (b : ByteArray) (at_ : Nat) (w : World) (h : Rd p e b at_ w) (hat : at_ ≤ b.size) (hb : b.size ≤ 1000000) :
    Calls Tryz.prog 231 #[.pointer (some ⟨p, 0, none⟩)] w fun en w' => en = .returned (.int .i64 ((b.size : Int) - at_)) ∧ ∃ n, w' = w.drewN n := by
  obtain ⟨c0, c1, c2⟩ := h.cells
  clear h
  go_enter Tryz.func231, Tryz.ntmps231
  go_wp2_with fail
  have q1 : IntKind.i64.wrap ((b.size : Int) - at_) = (b.size : Int) - at_ := IntWalk.i64_in _ (by omega)
  go_quiet (fail)
  clear q1
  go_wp2_with fail
  go_ret
  exact ⟨rfl, _, rfl⟩
theorem drop_nil_iff (b : ByteArray) (i : Nat) : (bl b).drop i = [] ↔ b.size ≤ i := by
  rw [List.drop_eq_nil_iff, bl, Array.length_toList]
  exact Iff.rfl
set_option maxHeartbeats 1000000 in
theorem end_any (p : Nat) (e : Int) (b : ByteArray) (at_ : Nat) (w : World) (h : Rd p e b at_ w) (hat : at_ ≤ b.size) (hb : b.size ≤ 1000000) :
    Calls Tryz.prog 102 #[.pointer (some ⟨p, 0, none⟩)] w fun en w' => en = .returned (.int .i64 (rEnd ⟨e, (bl b).drop at_⟩)) ∧ ∃ n, w' = w.drewN n := by
  have d0 := h.cells.1
  have HR := Lib.hid h
  clear h
  by_cases he : e ≠ 0
  · rw [rEnd, if_pos he]
    have hb1 : (e == 0) = false := by simpa using he
    have hb2 : (e != 0) = true := by simpa using he
    clear he
    go_enter Tryz.func102, Tryz.ntmps102
    go_wp2_with (go_at_call 223; refine (wrong_any _ _ _ d0).mono ?_; rintro e1 w1 ⟨rfl, rfl⟩)
    refine bodyPost_ret (results_tmp rfl _ _ _) rfl ?_
    exact ⟨rfl, 0, rfl⟩
  · have he0 : e = 0 := by omega
    subst he0
    rw [rEnd, if_neg he]
    clear he
    by_cases hl : b.size ≤ at_
    · rw [if_neg (by simp only [ne_eq, Decidable.not_not]; exact (drop_nil_iff b at_).2 hl)]
      have hle : (b.size : Int) - at_ ≤ 0 := by omega
      go_enter Tryz.func102, Tryz.ntmps102
      go_wp2_with (first
        | (go_at_call 223; refine (wrong_any _ _ _ d0).mono ?_; rintro e1 w1 ⟨rfl, rfl⟩)
        | (go_at_call 231; refine (left_any _ _ _ _ _ HR.out hat hb).mono ?_; rintro e1 w1 ⟨rfl, n1, rfl⟩))
      first | go_ret | refine bodyPost_ret (results_tmp rfl _ _ _) rfl ?_
      exact ⟨rfl, n1, rfl⟩
    · rw [if_pos (by intro h0; exact hl ((drop_nil_iff b at_).1 h0))]
      have hle : 0 < (b.size : Int) - at_ := by omega
      go_enter Tryz.func102, Tryz.ntmps102
      go_wp2_with (first
        | (go_at_call 223; refine (wrong_any _ _ _ d0).mono ?_; rintro e1 w1 ⟨rfl, rfl⟩)
        | (go_at_call 231; refine (left_any _ _ _ _ _ HR.out hat hb).mono ?_; rintro e1 w1 ⟨rfl, n1, rfl⟩))
      first | go_ret | refine bodyPost_ret (results_tmp rfl _ _ _) rfl ?_
      exact ⟨rfl, n1, rfl⟩
end Go.Proofs.YtfpaofeonlfnfaaGreat.Wire
