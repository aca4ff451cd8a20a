/- (*wire.Reader).Text. -/
import Derived.Test.YtfpaofeonlfnfaaGreatWireCount
namespace Go.Proofs.YtfpaofeonlfnfaaGreat.Wire
open Go Go.RowKit Go.Lib
theorem extract_eq (b : ByteArray) (i k n : Nat) : b.extract (i + k) (i + k + n) = ⟨(List.take (n : Int).toNat (List.drop k (List.drop i (bl b)))).toArray⟩ := by
  apply ByteArray.ext
  apply Array.ext'
  rw [ByteArray.data_extract, Array.toList_extract]
  simp [bl, List.drop_drop]
set_option maxRecDepth 20000 in
set_option maxHeartbeats 1000000 in
theorem rText_any (p : Nat) (e : Int) (b : ByteArray) (at_ : Nat) (w : World) (h : Rd p e b at_ w) (hat : at_ ≤ b.size) (hb : b.size ≤ 1000000) :
    Calls Tryz.prog 100 #[.pointer (some ⟨p, 0, none⟩)] w (REnd p b (.string ⟨(rText ⟨e, (bl b).drop at_⟩).1.toArray⟩) (rText ⟨e, (bl b).drop at_⟩).2 w) := by
  by_cases he : e ≠ 0
  · rw [rText, if_pos he]
    have HR := Lib.hid h
    have HE := Lib.hid he
    clear h he
    go_enter Tryz.func100, Tryz.ntmps100
    go_wp2_with (go_at_call 227; refine (off_yes _ _ HE.out _ _ _ HR.out).mono ?_; rintro e1 w1 ⟨rfl, rfl⟩)
    refine bodyPost_ret (results_tmp rfl _ _ _) rfl ?_
    exact ⟨rfl, World.grownBy.refl _ _, at_, hat, HR.out, rfl⟩
  · have he0 : e = 0 := by omega
    subst he0
    rw [rText, if_neg he]
    clear he
    obtain ⟨⟨v, k, x⟩, hr⟩ : ∃ r, rdN ((bl b).drop at_) 0 0 = r := ⟨_, rfl⟩
    simp only [hr]
    have HR := Lib.hid h
    have HRD := Lib.hid hr
    have f0 := h.froz 0
    have f2 := h.froz 2
    obtain ⟨c0, c1, c2⟩ := h.cells
    clear h hr
    by_cases hx : x ≠ 0
    · have hc : tErr ((bl b).drop at_).length (v, k, x) = x := by unfold tErr; rw [if_pos hx]
      rw [hc, if_pos hx]
      have HX := Lib.hid hx
      have hb1 : (x == 0) = false := by simpa using hx
      have hb2 : (x != 0) = true := by simpa using hx
      clear hx hc
      go_enter Tryz.func100, Tryz.ntmps100
      go_wp2_with (first
        | (go_at_call 227; refine (off_no _ _ _ _ HR.out).mono ?_; rintro e1 w1 ⟨rfl, rfl⟩)
        | (go_at_call 228; refine (rnum_bad _ _ _ _ _ HR.out hat hb v x k HX.out HRD.out).mono ?_; rintro e1 w1 ⟨rfl, n1, rfl⟩)
        | (go_at_call 225; refine (fail_any p x (w.drewN n1) c0 f0).mono ?_; rintro e1 w1 ⟨⟨u, rfl⟩, rfl⟩))
      refine bodyPost_ret (results_tmp rfl _ _ _) rfl ?_
      exact ⟨rfl, only_set (only_drewN (World.grownBy.refl _ _) _) _, at_, hat, (HR.out.drewN n1).setE, rfl⟩
    · have hx0 : x = 0 := by omega
      subst hx0
      clear hx
      by_cases h1 : v > 1000
      · have hc : tErr ((bl b).drop at_).length (v, k, 0) = 2 := by unfold tErr; rw [if_neg (by simp), if_pos h1]
        rw [hc, if_pos (by decide)]
        clear hc
        go_enter Tryz.func100, Tryz.ntmps100
        go_wp2_with (first
          | (go_at_call 227; refine (off_no _ _ _ _ HR.out).mono ?_; rintro e1 w1 ⟨rfl, rfl⟩)
          | (go_at_call 228; refine (rnum_ok _ _ _ _ _ HR.out hat hb v k HRD.out).mono ?_; rintro e1 w1 ⟨rfl, n1, rfl⟩)
          | (go_at_call 225; refine (fail_any p 2 (w.drewN n1) c0 f0).mono ?_; rintro e1 w1 ⟨⟨u, rfl⟩, rfl⟩))
        refine bodyPost_ret (results_tmp rfl _ _ _) rfl ?_
        exact ⟨rfl, only_set (only_drewN (World.grownBy.refl _ _) _) _, at_, hat, (HR.out.drewN n1).setE, rfl⟩
      · by_cases h2 : v < 0
        · have hc : tErr ((bl b).drop at_).length (v, k, 0) = 4 := by unfold tErr; rw [if_neg (by simp), if_neg h1, if_pos h2]
          rw [hc, if_pos (by decide)]
          clear hc
          go_enter Tryz.func100, Tryz.ntmps100
          go_wp2_with (first
            | (go_at_call 227; refine (off_no _ _ _ _ HR.out).mono ?_; rintro e1 w1 ⟨rfl, rfl⟩)
            | (go_at_call 228; refine (rnum_ok _ _ _ _ _ HR.out hat hb v k HRD.out).mono ?_; rintro e1 w1 ⟨rfl, n1, rfl⟩)
            | (go_at_call 225; refine (fail_any p 4 (w.drewN n1) c0 f0).mono ?_; rintro e1 w1 ⟨⟨u, rfl⟩, rfl⟩))
          refine bodyPost_ret (results_tmp rfl _ _ _) rfl ?_
          exact ⟨rfl, only_set (only_drewN (World.grownBy.refl _ _) _) _, at_, hat, (HR.out.drewN n1).setE, rfl⟩
        · have hn : (((bl b).drop at_).length : Int) = (b.size : Int) - at_ := by rw [bl_drop_len]; omega
          have hk := rd_le HRD.out
          rw [bl_drop_len] at hk
          obtain ⟨A, hA⟩ : ∃ A, at_ + k = A := ⟨_, rfl⟩
          have hAle : A ≤ b.size := by omega
          obtain ⟨nv, hnv⟩ : ∃ nv : Nat, v = nv := ⟨v.toNat, by omega⟩
          subst hnv
          have HC : Hid (Calls Tryz.prog 228 #[.pointer (some ⟨p, 0, none⟩)] w fun en w' => en = .returned (.tuple #[.int .i64 (nv : Int), .int .i64 (A : Int), .int .i64 0]) ∧ ∃ n, w' = w.drewN n) := Lib.hid (by rw [← hA]; exact rnum_ok _ _ _ _ _ HR.out hat hb _ _ HRD.out)
          by_cases h3 : (nv : Int) > (b.size : Int) - A
          · have hc : tErr ((bl b).drop at_).length ((nv : Int), k, 0) = 5 := by
              unfold tErr
              rw [if_neg (by simp), if_neg h1, if_neg h2, if_pos (by rw [hn]; show (nv : Int) > (b.size : Int) - at_ - (k : Int); omega)]
            rw [hc, if_pos (by decide)]
            have HA := Lib.hid hA
            clear hc hn hA hk
            go_enter Tryz.func100, Tryz.ntmps100
            go_wp2_with (first
              | (go_at_call 227; refine (off_no _ _ _ _ HR.out).mono ?_; rintro e1 w1 ⟨rfl, rfl⟩)
              | (go_at_call 228; refine HC.out.mono ?_; rintro e1 w1 ⟨rfl, n1, rfl⟩)
              | (go_at_call 225; refine (fail_any p 5 (w.drewN n1) c0 f0).mono ?_; rintro e1 w1 ⟨⟨u, rfl⟩, rfl⟩))
            refine bodyPost_ret (results_tmp rfl _ _ _) rfl ?_
            exact ⟨rfl, only_set (only_drewN (World.grownBy.refl _ _) _) _, at_, hat, (HR.out.drewN n1).setE, rfl⟩
          · have hc : tErr ((bl b).drop at_).length ((nv : Int), k, 0) = 0 := by
              unfold tErr
              rw [if_neg (by simp), if_neg h1, if_neg h2, if_neg (by rw [hn]; show ¬ (nv : Int) > (b.size : Int) - at_ - (k : Int); omega)]
            rw [hc, if_neg (by decide)]
            have h4 : A + nv ≤ b.size := by omega
            have HA := Lib.hid hA
            have HH4 := Lib.hid h4
            clear hc hn hA hk h4
            go_enter Tryz.func100, Tryz.ntmps100
            go_wp2_with (first
              | (go_at_call 227; refine (off_no _ _ _ _ HR.out).mono ?_; rintro e1 w1 ⟨rfl, rfl⟩)
              | (go_at_call 228; refine HC.out.mono ?_; rintro e1 w1 ⟨rfl, n1, rfl⟩))
            have h9 := (HR.out.drewN n1).setAt (A + nv)
            rw [show ((A + nv : Nat) : Int) = (A : Int) + nv by omega] at h9
            have hG : w.grownBy ((w.drewN n1).setCell ⟨p, 2, none⟩ (.int .i64 ((A : Int) + nv))) (some p) := only_set (only_drewN (World.grownBy.refl _ _) _) _
            have HG := Lib.hid hG
            clear hG
            generalize (w.drewN n1).setCell ⟨p, 2, none⟩ (.int .i64 ((A : Int) + nv)) = W2 at h9 HG ⊢
            obtain ⟨e0, e1, e2⟩ := h9.cells
            have H9 := Lib.hid h9
            clear h9
            have hsl : ∀ W : World, (Instr.slice 9 (.string b) (some (.int .i64 (A : Int))) (some (.int .i64 ((A : Int) + nv))) none).run Tryz.prog W = .ok (.string (b.extract A (A + nv))) W := fun W => by
              have h := run_slice_string (P := Tryz.prog) W 9 b .i64 .i64 (A : Int) ((A : Int) + nv) Tryz.underlying9 (by omega) (by omega) (by have := HH4.out; omega)
              rw [show ((A : Int)).toNat = A from by omega, show ((A : Int) + nv).toNat = A + nv from by omega] at h
              exact h
            go_quiet (fail)
            clear hsl
            go_wp2_with fail
            go_ret
            have hH := HH4.out
            have hAA := HA.out
            subst hAA
            refine ⟨by rw [extract_eq]; rfl, ?_, at_ + k + nv, hH, H9.out.drewN nq, by simp [List.drop_drop]⟩
            exact only_drewN HG.out nq
end Go.Proofs.YtfpaofeonlfnfaaGreat.Wire
