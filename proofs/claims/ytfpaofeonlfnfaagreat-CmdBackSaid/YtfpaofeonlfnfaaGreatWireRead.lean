/- (*wire.Reader).off, Num, Count: what a reader hands back, and where it stands then. -/
import Derived.Test.YtfpaofeonlfnfaaGreatWireRd
namespace Go.Proofs.YtfpaofeonlfnfaaGreat.Wire
open Go Go.RowKit Go.Lib
theorem only_drewN {a w : World} {row : Option Nat} (h : a.grownBy w row) (n : Nat) : a.grownBy (w.drewN n) row := ⟨h.os, h.tape, h.output, h.size, h.block⟩
theorem only_set {a w : World} {p i : Nat} (h : a.grownBy w (some p)) (u : Value) : a.grownBy (w.setCell ⟨p, i, none⟩ u) (some p) := h.trans (grownBy_setCell w p i u)
/-- Where a reader stands behind a call. -/
def REnd (p : Nat) (b : ByteArray) (v : Value) (s : RS) (w : World) (en : Ending) (w' : World) : Prop :=
  en = .returned v ∧ w.grownBy w' (some p) ∧ ∃ at', at' ≤ b.size ∧ Rd p s.e b at' w' ∧ s.l = (bl b).drop at'
theorem off_no (p : Nat) (b : ByteArray) (at_ : Nat) (w : World) (h : Rd p 0 b at_ w) :
    Calls Tryz.prog 227 #[.pointer (some ⟨p, 0, none⟩)] w fun en w' => en = .returned (.bool false) ∧ w = w' := by
  obtain ⟨d0, _, _⟩ := h.cells
  clear h
  go_enter Tryz.func227, Tryz.ntmps227
  go_wp2_with (go_at_call 223; refine (wrong_any _ _ _ d0).mono ?_; rintro e w1 ⟨rfl, rfl⟩)
  go_ret
  exact ⟨rfl, rfl⟩
theorem off_yes (p : Nat) (e : Int) (he : e ≠ 0) (b : ByteArray) (at_ : Nat) (w : World) (h : Rd p e b at_ w) :
    Calls Tryz.prog 227 #[.pointer (some ⟨p, 0, none⟩)] w fun en w' => en = .returned (.bool true) ∧ w = w' := by
  obtain ⟨d0, _, _⟩ := h.cells
  clear h
  have hb1 : (e == 0) = false := by simpa using he
  have hb2 : (e != 0) = true := by simpa using he
  go_enter Tryz.func227, Tryz.ntmps227
  go_wp2_with (go_at_call 223; refine (wrong_any _ _ _ d0).mono ?_; rintro e w1 ⟨rfl, rfl⟩)
  go_ret
  exact ⟨rfl, rfl⟩
theorem rnum_ok (p : Nat) (e : Int) (b : ByteArray) (at_ : Nat) (w : World) (h : Rd p e b at_ w) (hat : at_ ≤ b.size) (hb : b.size ≤ 1000000) (v : Int) (k : Nat) (hr : rdN ((bl b).drop at_) 0 0 = (v, k, 0)) :
    Calls Tryz.prog 228 #[.pointer (some ⟨p, 0, none⟩)] w fun en w' => en = .returned (.tuple #[.int .i64 v, .int .i64 ((at_ + k : Nat) : Int), .int .i64 0]) ∧ ∃ n, w' = w.drewN n :=
  (rnum_any p e b at_ w h hat hb).mono fun _ _ ⟨h1, h2⟩ => by
    rw [hr] at h2
    exact ⟨h2, h1⟩
theorem rnum_bad (p : Nat) (e : Int) (b : ByteArray) (at_ : Nat) (w : World) (h : Rd p e b at_ w) (hat : at_ ≤ b.size) (hb : b.size ≤ 1000000) (v x : Int) (k : Nat) (hx : x ≠ 0) (hr : rdN ((bl b).drop at_) 0 0 = (v, k, x)) :
    Calls Tryz.prog 228 #[.pointer (some ⟨p, 0, none⟩)] w fun en w' => en = .returned (.tuple #[.int .i64 v, .int .i64 0, .int .i64 x]) ∧ ∃ n, w' = w.drewN n :=
  (rnum_any p e b at_ w h hat hb).mono fun _ _ ⟨h1, h2⟩ => by
    rw [hr] at h2
    simp only [if_neg hx] at h2
    exact ⟨h2, h1⟩
theorem rd_le {l : List UInt8} {v : Int} {k : Nat} (h : rdN l 0 0 = (v, k, 0)) : k ≤ l.length := by
  have := (rdN_more [] l 0 0 v k h).2.1
  omega
theorem bl_drop_len (b : ByteArray) (i : Nat) : ((bl b).drop i).length = b.size - i := by
  rw [List.length_drop, bl, Array.length_toList]; rfl
theorem Rd.setE {p : Nat} {e x : Int} {b : ByteArray} {at_ : Nat} {w : World} (h : Rd p e b at_ w) : Rd p x b at_ (w.setCell ⟨p, 0, none⟩ (.int .i64 x)) := Go.Lib.heap_setCell_same (i := 0) h _
theorem Rd.setAt {p : Nat} {e : Int} {b : ByteArray} {at_ : Nat} {w : World} (h : Rd p e b at_ w) (y : Nat) : Rd p e b y (w.setCell ⟨p, 2, none⟩ (.int .i64 y)) := Go.Lib.heap_setCell_same (i := 2) h _
set_option maxRecDepth 20000 in
set_option maxHeartbeats 1000000 in
theorem rNum_any (p : Nat) (e : Int) (b : ByteArray) (at_ : Nat) (w : World) (h : Rd p e b at_ w) (hat : at_ ≤ b.size) (hb : b.size ≤ 1000000) :
    Calls Tryz.prog 98 #[.pointer (some ⟨p, 0, none⟩)] w (REnd p b (.int .i64 (rNum ⟨e, (bl b).drop at_⟩).1) (rNum ⟨e, (bl b).drop at_⟩).2 w) := by
  by_cases he : e ≠ 0
  · rw [rNum, if_pos he]
    have HR := Lib.hid h
    have HE := Lib.hid he
    clear h he
    go_enter Tryz.func98, Tryz.ntmps98
    go_wp2_with (go_at_call 227; refine (off_yes _ _ HE.out _ _ _ HR.out).mono ?_; rintro e1 w1 ⟨rfl, rfl⟩)
    refine bodyPost_ret (results_tmp rfl _ _ _) rfl ?_
    exact ⟨rfl, World.grownBy.refl _ _, at_, hat, HR.out, rfl⟩
  · have he0 : e = 0 := by omega
    subst he0
    rw [rNum, if_neg he]
    clear he
    obtain ⟨⟨v, k, x⟩, hr⟩ : ∃ r, rdN ((bl b).drop at_) 0 0 = r := ⟨_, rfl⟩
    simp only [hr]
    have HR := Lib.hid h
    have HRD := Lib.hid hr
    have f0 := h.froz 0
    have f2 := h.froz 2
    obtain ⟨c0, c1, c2⟩ := h.cells
    clear h hr
    by_cases hx : x ≠ 0
    · rw [if_pos hx]
      have HX := Lib.hid hx
      have hb1 : (x == 0) = false := by simpa using hx
      have hb2 : (x != 0) = true := by simpa using hx
      clear hx
      go_enter Tryz.func98, Tryz.ntmps98
      go_wp2_with (first
        | (go_at_call 227; refine (off_no _ _ _ _ HR.out).mono ?_; rintro e1 w1 ⟨rfl, rfl⟩)
        | (go_at_call 228; refine (rnum_bad _ _ _ _ _ HR.out hat hb v x k HX.out HRD.out).mono ?_; rintro e1 w1 ⟨rfl, n1, rfl⟩)
        | (go_at_call 225; refine (fail_any p x (w.drewN n1) c0 f0).mono ?_; rintro e1 w1 ⟨⟨u, rfl⟩, rfl⟩))
      refine bodyPost_ret (results_tmp rfl _ _ _) rfl ?_
      exact ⟨rfl, only_set (only_drewN (World.grownBy.refl _ _) _) _, at_, hat, (HR.out.drewN n1).setE, rfl⟩
    · have hx0 : x = 0 := by omega
      subst hx0
      rw [if_neg hx]
      clear hx
      go_enter Tryz.func98, Tryz.ntmps98
      go_wp2_with (first
        | (go_at_call 227; refine (off_no _ _ _ _ HR.out).mono ?_; rintro e1 w1 ⟨rfl, rfl⟩)
        | (go_at_call 228; refine (rnum_ok _ _ _ _ _ HR.out hat hb v k HRD.out).mono ?_; rintro e1 w1 ⟨rfl, n1, rfl⟩))
      go_ret
      have hk := rd_le HRD.out
      rw [bl_drop_len] at hk
      have h9 := (HR.out.drewN n1).setAt (at_ + k)
      exact ⟨rfl, only_set (only_drewN (World.grownBy.refl _ _) _) _, at_ + k, by omega, h9, by simp [List.drop_drop]⟩
end Go.Proofs.YtfpaofeonlfnfaaGreat.Wire
