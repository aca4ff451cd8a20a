/- (*wire.Reader).num reads a number. -/
import Derived.Test.YtgmbppfkkiobhaaGreatWireB
import Derived.Test.YtgmbppfkkiobhaaGreatChkA
namespace Go.Proofs.YtgmbppfkkiobhaaGreat.Wire
open Go Go.RowKit Go.Lib
/-- A reader at block p. -/
def Rd (p : Nat) (e : Int) (b : ByteArray) (at_ : Nat) (w : World) : Prop := w.heap[p]? = some (.cells #[.int .i64 e, .string b, .int .i64 at_] 54 (0, 0))
theorem Rd.cells {p : Nat} {e : Int} {b : ByteArray} {at_ : Nat} {w : World} (h : Rd p e b at_ w) : w.cell? ⟨p, 0, none⟩ = some (.int .i64 e) ∧ w.cell? ⟨p, 1, none⟩ = some (.string b) ∧ w.cell? ⟨p, 2, none⟩ = some (.int .i64 at_) := by
  refine ⟨?_, ?_, ?_⟩ <;> (rw [cell_p h]; rfl)
theorem Rd.froz {p : Nat} {e : Int} {b : ByteArray} {at_ : Nat} {w : World} (h : Rd p e b at_ w) (i : Nat) : w.frozen? ⟨p, i, none⟩ = false := frozen_p h
theorem Rd.drewN {p : Nat} {e : Int} {b : ByteArray} {at_ : Nat} {w : World} (h : Rd p e b at_ w) (n : Nat) : Rd p e b at_ (w.drewN n) := h
/-- num's end. -/
def NumPost (b : ByteArray) (at_ : Nat) (w : World) (en : Ending) (w' : World) : Prop :=
  (∃ n, w' = w.drewN n) ∧ en = .returned (.tuple #[.int .i64 (rdN ((bl b).drop at_) 0 0).1, .int .i64 (if (rdN ((bl b).drop at_) 0 0).2.2 = 0 then ((at_ + (rdN ((bl b).drop at_) 0 0).2.1 : Nat) : Int) else 0), .int .i64 (rdN ((bl b).drop at_) 0 0).2.2])
theorem NumPost.mk {b : ByteArray} {at_ : Nat} {w w' : World} {en : Ending} {v e x : Int} {k : Nat} (hE : rdN (b.data.toList.drop at_) 0 0 = (v, k, e)) (hw : ∃ n, w' = w.drewN n) (hx : x = if e = 0 then ((at_ + k : Nat) : Int) else 0)
    (hen : en = .returned (.tuple #[.int .i64 v, .int .i64 x, .int .i64 e])) : NumPost b at_ w en w' := by
  refine ⟨hw, ?_⟩
  unfold bl
  rw [hE, hen, hx]
theorem w64 (n : Int) : wrap64 n = IntKind.i64.wrap n := by rw [IntKind.wrap_i64]; unfold wrap64; rfl
theorem unzz_walk' {A : Nat} (h : A < 18446744073709551616) : bits .xor .i64 (wrap64 ((A : Int) / 2)) (wrap64 (-wrap64 (bits .and .u64 (A : Int) 1))) = unzz A := by
  simp only [w64]
  exact unzz_walk h
set_option maxRecDepth 20000 in
set_option maxHeartbeats 2000000 in
theorem rnum_any (p : Nat) (e : Int) (b : ByteArray) (at_ : Nat) (w : World) (h : Rd p e b at_ w) (hat : at_ ≤ b.size) (hb : b.size ≤ 1000000000000) :
    Calls Tryz.prog 126 #[.pointer (some ⟨p, 0, none⟩)] w (NumPost b at_ w) := by
  have HR := Lib.hid h
  clear h
  go_enter Tryz.func126, Tryz.ntmps126
  go_wp2_with fail
  go_loopw [5, 6] (fun n i wr => ∃ (k a m : Nat), i = .int .i64 k ∧ n = .int .u64 a ∧ k ≤ 10 ∧ at_ + k ≤ b.size ∧ a < 2 ^ (7 * k) ∧ rdN ((bl b).drop (at_ + k)) k a = rdN ((bl b).drop at_) 0 0 ∧ wr = w.drewN m) (fun _ i _ => 10 - (intOf i).toNat)
  case atStart => exact ⟨0, 0, 0, rfl, rfl, by omega, by omega, by decide, rfl, rfl⟩
  case round =>
    obtain ⟨k, a, m, rfl, rfl, hk, hak, ha, hr, rfl⟩ := hrel
    obtain ⟨c0, c1, c2⟩ := HR.out.cells
    have HA := Lib.hid ha
    have HE := Lib.hid hr
    clear ha hr
    by_cases h10 : k = 10
    · subst h10
      go_wp2_with fail
      refine bodyPost_ret (results_tmp3 rfl _ _ _) rfl ?_
      exact NumPost.mk (v := 0) (k := 0) (e := 4) (by rw [← bl, ← HE.out]; exact rdN_ten _ _) ⟨_, rfl⟩ rfl rfl
    · have hk9 : k < 10 := by omega
      have hb10 : ((k : Int) == 10) = false := by simp; omega
      by_cases hend : at_ + k = b.size
      · have hge : (b.size : Int) ≤ at_ + k := by omega
        have HEND := Lib.hid hend
        have H10 := Lib.hid h10
        clear h10 hend
        go_wp2_with fail
        go_quiet (fail)
        go_wp2_with fail
        refine bodyPost_ret (results_tmp3 rfl _ _ _) rfl ?_
        refine NumPost.mk (v := 0) (k := 0) (e := 5) (by rw [← bl, ← HE.out, bl, drop_end HEND.out]; exact rdN_nil H10.out) ?_ rfl rfl
        (first | exact ⟨_, rfl⟩ | (simp only [World.drewN_drewN]; exact ⟨_, rfl⟩))
      · have hlt : (at_ : Int) + k < b.size := by omega
        have hlt2 : at_ + k < b.size := by omega
        clear h10 hend
        have HLT := Lib.hid hlt2
        go_wp2_with fail
        go_quiet (fail)
        go_wp2_with fail
        have q1 : IntKind.i64.wrap ((at_ : Int) + k) = (at_ : Int) + k := IntWalk.i64_in _ (by omega)
        have q2 : 0 ≤ (at_ : Int) + k := by omega
        have q3 : ((at_ : Int) + k).toNat = at_ + k := by omega
        go_quiet (fail)
        generalize hcc : b[at_ + k]'hlt2 = c
        have HCC := Lib.hid hcc
        clear hcc q1 q2 q3
        have hc8 : c.toNat < 256 := c.toNat_lt
        have HC8 := Lib.hid hc8
        clear hc8
        by_cases h9 : k = 9
        · subst h9
          have hp9 : (2 : Int) ^ (7 * 9) = 9223372036854775808 := by decide
          by_cases hc1 : 1 < c.toNat
          · go_wp2_with fail
            refine bodyPost_ret (results_tmp3 rfl _ _ _) rfl ?_
            refine NumPost.mk (v := 0) (k := 0) (e := 4) (by rw [← bl, ← HE.out, bl, drop_cons HLT.out, HCC.out]; exact rdN_nine hc1) ?_ rfl rfl
            (first | exact ⟨_, rfl⟩ | (simp only [World.drewN_drewN]; exact ⟨_, rfl⟩))
          · have hc2 : c.toNat ≤ 1 := by omega
            have hm2 := and128_small (c := c.toNat) (by omega)
            have HO := Lib.hid (acc_or (k := 9) (c := c.toNat) (by decide) HA.out HC8.out (fun _ => hc2))
            have HAL2 := Lib.hid (acc_lt64 (k := 9) (c := c.toNat) (by decide) HA.out (fun _ => hc2))
            obtain ⟨A, hA⟩ : ∃ A, a + c.toNat % 128 * 2 ^ (7 * 9) = A := ⟨_, rfl⟩
            rw [hA] at HO HAL2
            rw [hp9] at HO
            have HAA := Lib.hid hA
            clear hp9 hA
            by_cases hz : c.toNat = 0
            · have HZ := Lib.hid hz
              go_wp2_with fail
              refine bodyPost_ret (results_tmp3 rfl _ _ _) rfl ?_
              refine NumPost.mk (v := 0) (k := 0) (e := 4) (by rw [← bl, ← HE.out, bl, drop_cons HLT.out, HCC.out]; exact rdN_zero (by omega) HZ.out (by omega)) ?_ rfl rfl
              (first | exact ⟨_, rfl⟩ | (simp only [World.drewN_drewN]; exact ⟨_, rfl⟩))
            · have HZ := Lib.hid hz
              have HC2 := Lib.hid hc2
              have HU := Lib.hid (unzz_walk' HAL2.out)
              have HD : Hid (rdN (b.data.toList.drop at_) 0 0 = (unzz A, 9 + 1, 0)) := Lib.hid (by
                rw [← bl, ← HE.out, bl, drop_cons HLT.out, HCC.out, ← HAA.out]
                exact rdN_done (by omega) (fun _ => HC2.out) (by have := HC2.out; omega) (fun h => HZ.out h.1))
              have hz3 : ((c.toNat : Int) == 0) = false := by simp; omega
              clear hz
              go_wp2_with fail
              rw [HO.out]
              go_quiet (fail)
              go_wp2_with fail
              refine bodyPost_ret (results_tmp3 rfl _ _ _) rfl ?_
              refine NumPost.mk (x := (at_ : Int) + 9 + 1) HD.out (by first | exact ⟨_, rfl⟩ | (simp only [World.drewN_drewN]; exact ⟨_, rfl⟩)) (by rw [if_pos rfl]; omega) ?_
              show Ending.returned (.tuple #[.int .i64 (bits .xor .i64 (wrap64 ((A : Int) / 2)) (wrap64 (-wrap64 (bits .and .u64 (A : Int) 1)))), _, _]) = _
              rw [HU.out]
              rfl
        · have hb9 : ((k : Int) == 9) = false := by simp; omega
          have HO := Lib.hid (acc_or (c := c.toNat) (show k ≤ 9 by omega) HA.out HC8.out (fun h => absurd h h9))
          have HAL := Lib.hid (acc_lt (c := c.toNat) HA.out)
          have HAL2 := Lib.hid (acc_lt64 (c := c.toNat) (show k ≤ 9 by omega) HA.out (fun h => absurd h h9))
          obtain ⟨A, hA⟩ : ∃ A, a + c.toNat % 128 * 2 ^ (7 * k) = A := ⟨_, rfl⟩
          rw [hA] at HO HAL HAL2
          have HAA := Lib.hid hA
          have H9 := Lib.hid h9
          clear h9 hA
          by_cases hm : 128 ≤ c.toNat
          · have hm2 := and128_big hm HC8.out
            go_wp2_with fail
            rw [HO.out]
            go_roundw
            case rel =>
              refine ⟨k + 1, A, _, by go_num, rfl, by omega, by have := HLT.out; omega, HAL.out, ?_, by first | rfl | (simp only [World.drewN_drewN]; rfl)⟩
              rw [← HE.out, bl, drop_cons HLT.out, HCC.out, rdN_next (by have := H9.out; omega) hm, HAA.out]
              rfl
            case measure => simp [intOf]; omega
          · have hm2 := and128_small (c := c.toNat) (by omega)
            have hm3 : c.toNat < 128 := by omega
            have HM3 := Lib.hid hm3
            by_cases hz : c.toNat = 0 ∧ 0 < k
            · obtain ⟨hz1, hz2⟩ := hz
              have HZ1 := Lib.hid hz1
              have HZ2 := Lib.hid hz2
              go_wp2_with fail
              refine bodyPost_ret (results_tmp3 rfl _ _ _) rfl ?_
              refine NumPost.mk (v := 0) (k := 0) (e := 4) (by rw [← bl, ← HE.out, bl, drop_cons HLT.out, HCC.out]; exact rdN_zero (by omega) HZ1.out HZ2.out) ?_ rfl rfl
              (first | exact ⟨_, rfl⟩ | (simp only [World.drewN_drewN]; exact ⟨_, rfl⟩))
            · have HZ := Lib.hid hz
              have HU := Lib.hid (unzz_walk' HAL2.out)
              have HD : Hid (rdN (b.data.toList.drop at_) 0 0 = (unzz A, k + 1, 0)) := Lib.hid (by
                rw [← bl, ← HE.out, bl, drop_cons HLT.out, HCC.out, ← HAA.out]
                exact rdN_done (by omega) (fun h => absurd h H9.out) HM3.out HZ.out)
              have hz3 : ((c.toNat : Int) == 0) = false ∨ k = 0 := by
                by_cases h0 : k = 0
                · exact .inr h0
                · exact .inl (by simp; omega)
              clear hz hm hm3
              rcases hz3 with hz3 | hz3
              · go_wp2_with fail
                rw [HO.out]
                go_quiet (fail)
                go_wp2_with fail
                refine bodyPost_ret (results_tmp3 rfl _ _ _) rfl ?_
                refine NumPost.mk (x := (at_ : Int) + k + 1) HD.out (by first | exact ⟨_, rfl⟩ | (simp only [World.drewN_drewN]; exact ⟨_, rfl⟩)) (by rw [if_pos rfl]; omega) ?_
                show Ending.returned (.tuple #[.int .i64 (bits .xor .i64 (wrap64 ((A : Int) / 2)) (wrap64 (-wrap64 (bits .and .u64 (A : Int) 1)))), _, _]) = _
                rw [HU.out]
                rfl
              · have hkz : ¬ 0 < k := by omega
                have HKZ := Lib.hid hz3
                clear hz3
                rcases (show c.toNat = 0 ∨ ((c.toNat : Int) == 0) = false by
                  by_cases h0 : c.toNat = 0
                  · exact .inl h0
                  · exact .inr (by simp; omega)) with hc0 | hc0
                · have HO0 : Hid (bits .or .u64 (a : Int) (IntKind.u64.wrap (IntKind.u64.wrap (bits .and .u8 0 127) * 2 ^ (7 * k))) = A) := Lib.hid (by have := HO.out; rw [hc0] at this; exact this)
                  go_wp2_with fail
                  rw [HO0.out]
                  go_quiet (fail)
                  go_wp2_with fail
                  refine bodyPost_ret (results_tmp3 rfl _ _ _) rfl ?_
                  refine NumPost.mk (x := (at_ : Int) + k + 1) HD.out (by first | exact ⟨_, rfl⟩ | (simp only [World.drewN_drewN]; exact ⟨_, rfl⟩)) (by rw [if_pos rfl]; omega) ?_
                  show Ending.returned (.tuple #[.int .i64 (bits .xor .i64 (wrap64 ((A : Int) / 2)) (wrap64 (-wrap64 (bits .and .u64 (A : Int) 1)))), _, _]) = _
                  rw [HU.out]
                  rfl
                · go_wp2_with fail
                  rw [HO.out]
                  go_quiet (fail)
                  go_wp2_with fail
                  refine bodyPost_ret (results_tmp3 rfl _ _ _) rfl ?_
                  refine NumPost.mk (x := (at_ : Int) + k + 1) HD.out (by first | exact ⟨_, rfl⟩ | (simp only [World.drewN_drewN]; exact ⟨_, rfl⟩)) (by rw [if_pos rfl]; omega) ?_
                  show Ending.returned (.tuple #[.int .i64 (bits .xor .i64 (wrap64 ((A : Int) / 2)) (wrap64 (-wrap64 (bits .and .u64 (A : Int) 1)))), _, _]) = _
                  rw [HU.out]
                  rfl
end Go.Proofs.YtgmbppfkkiobhaaGreat.Wire
/- (*wire.Reader).off, Num, Count: what a reader hands back, and where it stands then. -/
namespace Go.Proofs.YtgmbppfkkiobhaaGreat.Wire
open Go Go.RowKit Go.Lib
theorem only_drewN {a w : World} {row : Option Nat} (h : a.grownBy w row) (n : Nat) : a.grownBy (w.drewN n) row := ⟨h.os, h.tape, h.output, h.size, h.block⟩
theorem only_set {a w : World} {p i : Nat} (h : a.grownBy w (some p)) (u : Value) : a.grownBy (w.setCell ⟨p, i, none⟩ u) (some p) := h.trans (grownBy_setCell w p i u)
/-- Where a reader stands behind a call. -/
def REnd (p : Nat) (b : ByteArray) (v : Value) (s : RS) (w : World) (en : Ending) (w' : World) : Prop :=
  en = .returned v ∧ w.grownBy w' (some p) ∧ ∃ at', at' ≤ b.size ∧ Rd p s.e b at' w' ∧ s.l = (bl b).drop at'
theorem off_no (p : Nat) (b : ByteArray) (at_ : Nat) (w : World) (h : Rd p 0 b at_ w) :
    Calls Tryz.prog 125 #[.pointer (some ⟨p, 0, none⟩)] w fun en w' => en = .returned (.bool false) ∧ w = w' := by
  obtain ⟨d0, _, _⟩ := h.cells
  clear h
  go_enter Tryz.func125, Tryz.ntmps125
  go_wp2_with (go_at_call 17; refine (wrong_any _ _ _ d0).mono ?_; rintro e w1 ⟨rfl, rfl⟩)
  go_ret
  exact ⟨rfl, rfl⟩
theorem off_yes (p : Nat) (e : Int) (he : e ≠ 0) (b : ByteArray) (at_ : Nat) (w : World) (h : Rd p e b at_ w) :
    Calls Tryz.prog 125 #[.pointer (some ⟨p, 0, none⟩)] w fun en w' => en = .returned (.bool true) ∧ w = w' := by
  obtain ⟨d0, _, _⟩ := h.cells
  clear h
  have hb1 : (e == 0) = false := by simpa using he
  have hb2 : (e != 0) = true := by simpa using he
  go_enter Tryz.func125, Tryz.ntmps125
  go_wp2_with (go_at_call 17; refine (wrong_any _ _ _ d0).mono ?_; rintro e w1 ⟨rfl, rfl⟩)
  go_ret
  exact ⟨rfl, rfl⟩
theorem rnum_ok (p : Nat) (e : Int) (b : ByteArray) (at_ : Nat) (w : World) (h : Rd p e b at_ w) (hat : at_ ≤ b.size) (hb : b.size ≤ 1000000000000) (v : Int) (k : Nat) (hr : rdN ((bl b).drop at_) 0 0 = (v, k, 0)) :
    Calls Tryz.prog 126 #[.pointer (some ⟨p, 0, none⟩)] w fun en w' => en = .returned (.tuple #[.int .i64 v, .int .i64 ((at_ + k : Nat) : Int), .int .i64 0]) ∧ ∃ n, w' = w.drewN n :=
  (rnum_any p e b at_ w h hat hb).mono fun _ _ ⟨h1, h2⟩ => by
    rw [hr] at h2
    exact ⟨h2, h1⟩
theorem rnum_bad (p : Nat) (e : Int) (b : ByteArray) (at_ : Nat) (w : World) (h : Rd p e b at_ w) (hat : at_ ≤ b.size) (hb : b.size ≤ 1000000000000) (v x : Int) (k : Nat) (hx : x ≠ 0) (hr : rdN ((bl b).drop at_) 0 0 = (v, k, x)) :
    Calls Tryz.prog 126 #[.pointer (some ⟨p, 0, none⟩)] w fun en w' => en = .returned (.tuple #[.int .i64 v, .int .i64 0, .int .i64 x]) ∧ ∃ n, w' = w.drewN n :=
  (rnum_any p e b at_ w h hat hb).mono fun _ _ ⟨h1, h2⟩ => by
    rw [hr] at h2
    simp only [if_neg hx] at h2
    exact ⟨h2, h1⟩
theorem rd_le {l : List UInt8} {v : Int} {k : Nat} (h : rdN l 0 0 = (v, k, 0)) : k ≤ l.length := by
  have := (rdN_more [] l 0 0 v k h).2.1
  omega
theorem bl_drop_len (b : ByteArray) (i : Nat) : ((bl b).drop i).length = b.size - i := by
  rw [List.length_drop, bl, Array.length_toList]; rfl
theorem Rd.setE {p : Nat} {e x : Int} {b : ByteArray} {at_ : Nat} {w : World} (h : Rd p e b at_ w) : Rd p x b at_ (w.setCell ⟨p, 0, none⟩ (.int .i64 x)) := Go.Lib.heap_setCell_same (i := 0) h _
theorem Rd.setAt {p : Nat} {e : Int} {b : ByteArray} {at_ : Nat} {w : World} (h : Rd p e b at_ w) (y : Nat) : Rd p e b y (w.setCell ⟨p, 2, none⟩ (.int .i64 y)) := Go.Lib.heap_setCell_same (i := 2) h _
set_option maxRecDepth 20000 in
set_option maxHeartbeats 1000000 in
theorem rNum_any (p : Nat) (e : Int) (b : ByteArray) (at_ : Nat) (w : World) (h : Rd p e b at_ w) (hat : at_ ≤ b.size) (hb : b.size ≤ 1000000000000) :
    Calls Tryz.prog 39 #[.pointer (some ⟨p, 0, none⟩)] w (REnd p b (.int .i64 (rNum ⟨e, (bl b).drop at_⟩).1) (rNum ⟨e, (bl b).drop at_⟩).2 w) := by
  by_cases he : e ≠ 0
  · rw [rNum, if_pos he]
    have HR := Lib.hid h
    have HE := Lib.hid he
    clear h he
    go_enter Tryz.func39, Tryz.ntmps39
    go_wp2_with (go_at_call 125; refine (off_yes _ _ HE.out _ _ _ HR.out).mono ?_; rintro e1 w1 ⟨rfl, rfl⟩)
    refine bodyPost_ret (results_tmp rfl _ _ _) rfl ?_
    exact ⟨rfl, World.grownBy.refl _ _, at_, hat, HR.out, rfl⟩
  · have he0 : e = 0 := by omega
    subst he0
    rw [rNum, if_neg he]
    clear he
    obtain ⟨⟨v, k, x⟩, hr⟩ : ∃ r, rdN ((bl b).drop at_) 0 0 = r := ⟨_, rfl⟩
    simp only [hr]
    have HR := Lib.hid h
    have HRD := Lib.hid hr
    have f0 := h.froz 0
    have f2 := h.froz 2
    obtain ⟨c0, c1, c2⟩ := h.cells
    clear h hr
    by_cases hx : x ≠ 0
    · rw [if_pos hx]
      have HX := Lib.hid hx
      have hb1 : (x == 0) = false := by simpa using hx
      have hb2 : (x != 0) = true := by simpa using hx
      clear hx
      go_enter Tryz.func39, Tryz.ntmps39
      go_wp2_with (first
        | (go_at_call 125; refine (off_no _ _ _ _ HR.out).mono ?_; rintro e1 w1 ⟨rfl, rfl⟩)
        | (go_at_call 126; refine (rnum_bad _ _ _ _ _ HR.out hat hb v x k HX.out HRD.out).mono ?_; rintro e1 w1 ⟨rfl, n1, rfl⟩)
        | (go_at_call 122; refine (fail_any p x (w.drewN n1) c0 f0).mono ?_; rintro e1 w1 ⟨⟨u, rfl⟩, rfl⟩))
      refine bodyPost_ret (results_tmp rfl _ _ _) rfl ?_
      exact ⟨rfl, only_set (only_drewN (World.grownBy.refl _ _) _) _, at_, hat, (HR.out.drewN n1).setE, rfl⟩
    · have hx0 : x = 0 := by omega
      subst hx0
      rw [if_neg hx]
      clear hx
      go_enter Tryz.func39, Tryz.ntmps39
      go_wp2_with (first
        | (go_at_call 125; refine (off_no _ _ _ _ HR.out).mono ?_; rintro e1 w1 ⟨rfl, rfl⟩)
        | (go_at_call 126; refine (rnum_ok _ _ _ _ _ HR.out hat hb v k HRD.out).mono ?_; rintro e1 w1 ⟨rfl, n1, rfl⟩))
      go_ret
      have hk := rd_le HRD.out
      rw [bl_drop_len] at hk
      have h9 := (HR.out.drewN n1).setAt (at_ + k)
      exact ⟨rfl, only_set (only_drewN (World.grownBy.refl _ _) _) _, at_ + k, by omega, h9, by simp [List.drop_drop]⟩
end Go.Proofs.YtgmbppfkkiobhaaGreat.Wire
/- (*wire.Reader).Count, Text, Left, End. -/
namespace Go.Proofs.YtgmbppfkkiobhaaGreat.Wire
open Go Go.RowKit Go.Lib
set_option maxRecDepth 20000 in
set_option maxHeartbeats 1000000 in
theorem rCount_any (p : Nat) (e most : Int) (b : ByteArray) (at_ : Nat) (w : World) (h : Rd p e b at_ w) (hat : at_ ≤ b.size) (hb : b.size ≤ 1000000000000) :
    Calls Tryz.prog 38 #[.pointer (some ⟨p, 0, none⟩), .int .i64 most] w (REnd p b (.int .i64 (rCount most ⟨e, (bl b).drop at_⟩).1) (rCount most ⟨e, (bl b).drop at_⟩).2 w) := by
  by_cases he : e ≠ 0
  · rw [rCount, if_pos he]
    have HR := Lib.hid h
    have HE := Lib.hid he
    clear h he
    go_enter Tryz.func38, Tryz.ntmps38
    go_wp2_with (go_at_call 125; refine (off_yes _ _ HE.out _ _ _ HR.out).mono ?_; rintro e1 w1 ⟨rfl, rfl⟩)
    refine bodyPost_ret (results_tmp rfl _ _ _) rfl ?_
    exact ⟨rfl, World.grownBy.refl _ _, at_, hat, HR.out, rfl⟩
  · have he0 : e = 0 := by omega
    subst he0
    rw [rCount, if_neg he]
    clear he
    obtain ⟨⟨v, k, x⟩, hr⟩ : ∃ r, rdN ((bl b).drop at_) 0 0 = r := ⟨_, rfl⟩
    simp only [hr]
    have HR := Lib.hid h
    have HRD := Lib.hid hr
    have f0 := h.froz 0
    have f2 := h.froz 2
    obtain ⟨c0, c1, c2⟩ := h.cells
    clear h hr
    by_cases hx : x ≠ 0
    · have hc : cErr most (v, k, x) = x := by unfold cErr; rw [if_pos hx]
      rw [hc, if_pos hx]
      have HX := Lib.hid hx
      have hb1 : (x == 0) = false := by simpa using hx
      have hb2 : (x != 0) = true := by simpa using hx
      clear hx hc
      go_enter Tryz.func38, Tryz.ntmps38
      go_wp2_with (first
        | (go_at_call 125; refine (off_no _ _ _ _ HR.out).mono ?_; rintro e1 w1 ⟨rfl, rfl⟩)
        | (go_at_call 126; refine (rnum_bad _ _ _ _ _ HR.out hat hb v x k HX.out HRD.out).mono ?_; rintro e1 w1 ⟨rfl, n1, rfl⟩)
        | (go_at_call 122; refine (fail_any p x (w.drewN n1) c0 f0).mono ?_; rintro e1 w1 ⟨⟨u, rfl⟩, rfl⟩))
      refine bodyPost_ret (results_tmp rfl _ _ _) rfl ?_
      exact ⟨rfl, only_set (only_drewN (World.grownBy.refl _ _) _) _, at_, hat, (HR.out.drewN n1).setE, rfl⟩
    · have hx0 : x = 0 := by omega
      subst hx0
      clear hx
      by_cases h1 : v > most
      · have hc : cErr most (v, k, 0) = 2 := by unfold cErr; rw [if_neg (by simp), if_pos h1]
        rw [hc, if_pos (by decide)]
        clear hc
        go_enter Tryz.func38, Tryz.ntmps38
        go_wp2_with (first
          | (go_at_call 125; refine (off_no _ _ _ _ HR.out).mono ?_; rintro e1 w1 ⟨rfl, rfl⟩)
          | (go_at_call 126; refine (rnum_ok _ _ _ _ _ HR.out hat hb v k HRD.out).mono ?_; rintro e1 w1 ⟨rfl, n1, rfl⟩)
          | (go_at_call 122; refine (fail_any p 2 (w.drewN n1) c0 f0).mono ?_; rintro e1 w1 ⟨⟨u, rfl⟩, rfl⟩))
        refine bodyPost_ret (results_tmp rfl _ _ _) rfl ?_
        exact ⟨rfl, only_set (only_drewN (World.grownBy.refl _ _) _) _, at_, hat, (HR.out.drewN n1).setE, rfl⟩
      · by_cases h2 : v < 0
        · have hc : cErr most (v, k, 0) = 4 := by unfold cErr; rw [if_neg (by simp), if_neg h1, if_pos h2]
          rw [hc, if_pos (by decide)]
          clear hc
          go_enter Tryz.func38, Tryz.ntmps38
          go_wp2_with (first
            | (go_at_call 125; refine (off_no _ _ _ _ HR.out).mono ?_; rintro e1 w1 ⟨rfl, rfl⟩)
            | (go_at_call 126; refine (rnum_ok _ _ _ _ _ HR.out hat hb v k HRD.out).mono ?_; rintro e1 w1 ⟨rfl, n1, rfl⟩)
            | (go_at_call 122; refine (fail_any p 4 (w.drewN n1) c0 f0).mono ?_; rintro e1 w1 ⟨⟨u, rfl⟩, rfl⟩))
          refine bodyPost_ret (results_tmp rfl _ _ _) rfl ?_
          exact ⟨rfl, only_set (only_drewN (World.grownBy.refl _ _) _) _, at_, hat, (HR.out.drewN n1).setE, rfl⟩
        · have hc : cErr most (v, k, 0) = 0 := by unfold cErr; rw [if_neg (by simp), if_neg h1, if_neg h2]
          rw [hc, if_neg (by decide)]
          clear hc
          go_enter Tryz.func38, Tryz.ntmps38
          go_wp2_with (first
            | (go_at_call 125; refine (off_no _ _ _ _ HR.out).mono ?_; rintro e1 w1 ⟨rfl, rfl⟩)
            | (go_at_call 126; refine (rnum_ok _ _ _ _ _ HR.out hat hb v k HRD.out).mono ?_; rintro e1 w1 ⟨rfl, n1, rfl⟩))
          go_ret
          have hk := rd_le HRD.out
          rw [bl_drop_len] at hk
          have h9 := (HR.out.drewN n1).setAt (at_ + k)
          exact ⟨rfl, only_set (only_drewN (World.grownBy.refl _ _) _) _, at_ + k, by omega, h9, by simp [List.drop_drop]⟩
theorem left_any (p : Nat) (e : Int) (b : ByteArray) (at_ : Nat) (w : World) (h : Rd p e b at_ w) (hat : at_ ≤ b.size) (hb : b.size ≤ 1000000000000) :
    Calls Tryz.prog 18 #[.pointer (some ⟨p, 0, none⟩)] w fun en w' => en = .returned (.int .i64 ((b.size : Int) - at_)) ∧ ∃ n, w' = w.drewN n := by
  obtain ⟨c0, c1, c2⟩ := h.cells
  clear h
  go_enter Tryz.func18, Tryz.ntmps18
  go_wp2_with fail
  have q1 : IntKind.i64.wrap ((b.size : Int) - at_) = (b.size : Int) - at_ := IntWalk.i64_in _ (by omega)
  go_quiet (fail)
  clear q1
  go_wp2_with fail
  go_ret
  exact ⟨rfl, _, rfl⟩
theorem drop_nil_iff (b : ByteArray) (i : Nat) : (bl b).drop i = [] ↔ b.size ≤ i := by
  rw [List.drop_eq_nil_iff, bl, Array.length_toList]
  exact Iff.rfl
set_option maxHeartbeats 1000000 in
theorem end_any (p : Nat) (e : Int) (b : ByteArray) (at_ : Nat) (w : World) (h : Rd p e b at_ w) (hat : at_ ≤ b.size) (hb : b.size ≤ 1000000000000) :
    Calls Tryz.prog 19 #[.pointer (some ⟨p, 0, none⟩)] w fun en w' => en = .returned (.int .i64 (rEnd ⟨e, (bl b).drop at_⟩)) ∧ ∃ n, w' = w.drewN n := by
  have d0 := h.cells.1
  have HR := Lib.hid h
  clear h
  by_cases he : e ≠ 0
  · rw [rEnd, if_pos he]
    have hb1 : (e == 0) = false := by simpa using he
    have hb2 : (e != 0) = true := by simpa using he
    clear he
    go_enter Tryz.func19, Tryz.ntmps19
    go_wp2_with (go_at_call 17; refine (wrong_any _ _ _ d0).mono ?_; rintro e1 w1 ⟨rfl, rfl⟩)
    refine bodyPost_ret (results_tmp rfl _ _ _) rfl ?_
    exact ⟨rfl, 0, rfl⟩
  · have he0 : e = 0 := by omega
    subst he0
    rw [rEnd, if_neg he]
    clear he
    by_cases hl : b.size ≤ at_
    · rw [if_neg (by simp only [ne_eq, Decidable.not_not]; exact (drop_nil_iff b at_).2 hl)]
      have hle : (b.size : Int) - at_ ≤ 0 := by omega
      go_enter Tryz.func19, Tryz.ntmps19
      go_wp2_with (first
        | (go_at_call 17; refine (wrong_any _ _ _ d0).mono ?_; rintro e1 w1 ⟨rfl, rfl⟩)
        | (go_at_call 18; refine (left_any _ _ _ _ _ HR.out hat hb).mono ?_; rintro e1 w1 ⟨rfl, n1, rfl⟩))
      first | go_ret | refine bodyPost_ret (results_tmp rfl _ _ _) rfl ?_
      exact ⟨rfl, n1, rfl⟩
    · rw [if_pos (by intro h0; exact hl ((drop_nil_iff b at_).1 h0))]
      have hle : 0 < (b.size : Int) - at_ := by omega
      go_enter Tryz.func19, Tryz.ntmps19
      go_wp2_with (first
        | (go_at_call 17; refine (wrong_any _ _ _ d0).mono ?_; rintro e1 w1 ⟨rfl, rfl⟩)
        | (go_at_call 18; refine (left_any _ _ _ _ _ HR.out hat hb).mono ?_; rintro e1 w1 ⟨rfl, n1, rfl⟩))
      first | go_ret | refine bodyPost_ret (results_tmp rfl _ _ _) rfl ?_
      exact ⟨rfl, n1, rfl⟩
end Go.Proofs.YtgmbppfkkiobhaaGreat.Wire
/- (*wire.Reader).Text. -/
namespace Go.Proofs.YtgmbppfkkiobhaaGreat.Wire
open Go Go.RowKit Go.Lib
theorem extract_eq (b : ByteArray) (i k n : Nat) : b.extract (i + k) (i + k + n) = ⟨(List.take (n : Int).toNat (List.drop k (List.drop i (bl b)))).toArray⟩ := by
  apply ByteArray.ext
  apply Array.ext'
  rw [ByteArray.data_extract, Array.toList_extract]
  simp [bl, List.drop_drop]
set_option maxRecDepth 20000 in
set_option maxHeartbeats 1000000 in
theorem rText_any (p : Nat) (e : Int) (b : ByteArray) (at_ : Nat) (w : World) (h : Rd p e b at_ w) (hat : at_ ≤ b.size) (hb : b.size ≤ 1000000000000) :
    Calls Tryz.prog 40 #[.pointer (some ⟨p, 0, none⟩)] w (REnd p b (.string ⟨(rText ⟨e, (bl b).drop at_⟩).1.toArray⟩) (rText ⟨e, (bl b).drop at_⟩).2 w) := by
  by_cases he : e ≠ 0
  · rw [rText, if_pos he]
    have HR := Lib.hid h
    have HE := Lib.hid he
    clear h he
    go_enter Tryz.func40, Tryz.ntmps40
    go_wp2_with (go_at_call 125; refine (off_yes _ _ HE.out _ _ _ HR.out).mono ?_; rintro e1 w1 ⟨rfl, rfl⟩)
    refine bodyPost_ret (results_tmp rfl _ _ _) rfl ?_
    exact ⟨rfl, World.grownBy.refl _ _, at_, hat, HR.out, rfl⟩
  · have he0 : e = 0 := by omega
    subst he0
    rw [rText, if_neg he]
    clear he
    obtain ⟨⟨v, k, x⟩, hr⟩ : ∃ r, rdN ((bl b).drop at_) 0 0 = r := ⟨_, rfl⟩
    simp only [hr]
    have HR := Lib.hid h
    have HRD := Lib.hid hr
    have f0 := h.froz 0
    have f2 := h.froz 2
    obtain ⟨c0, c1, c2⟩ := h.cells
    clear h hr
    by_cases hx : x ≠ 0
    · have hc : tErr ((bl b).drop at_).length (v, k, x) = x := by unfold tErr; rw [if_pos hx]
      rw [hc, if_pos hx]
      have HX := Lib.hid hx
      have hb1 : (x == 0) = false := by simpa using hx
      have hb2 : (x != 0) = true := by simpa using hx
      clear hx hc
      go_enter Tryz.func40, Tryz.ntmps40
      go_wp2_with (first
        | (go_at_call 125; refine (off_no _ _ _ _ HR.out).mono ?_; rintro e1 w1 ⟨rfl, rfl⟩)
        | (go_at_call 126; refine (rnum_bad _ _ _ _ _ HR.out hat hb v x k HX.out HRD.out).mono ?_; rintro e1 w1 ⟨rfl, n1, rfl⟩)
        | (go_at_call 122; refine (fail_any p x (w.drewN n1) c0 f0).mono ?_; rintro e1 w1 ⟨⟨u, rfl⟩, rfl⟩))
      refine bodyPost_ret (results_tmp rfl _ _ _) rfl ?_
      exact ⟨rfl, only_set (only_drewN (World.grownBy.refl _ _) _) _, at_, hat, (HR.out.drewN n1).setE, rfl⟩
    · have hx0 : x = 0 := by omega
      subst hx0
      clear hx
      by_cases h1 : v > 1000
      · have hc : tErr ((bl b).drop at_).length (v, k, 0) = 2 := by unfold tErr; rw [if_neg (by simp), if_pos h1]
        rw [hc, if_pos (by decide)]
        clear hc
        go_enter Tryz.func40, Tryz.ntmps40
        go_wp2_with (first
          | (go_at_call 125; refine (off_no _ _ _ _ HR.out).mono ?_; rintro e1 w1 ⟨rfl, rfl⟩)
          | (go_at_call 126; refine (rnum_ok _ _ _ _ _ HR.out hat hb v k HRD.out).mono ?_; rintro e1 w1 ⟨rfl, n1, rfl⟩)
          | (go_at_call 122; refine (fail_any p 2 (w.drewN n1) c0 f0).mono ?_; rintro e1 w1 ⟨⟨u, rfl⟩, rfl⟩))
        refine bodyPost_ret (results_tmp rfl _ _ _) rfl ?_
        exact ⟨rfl, only_set (only_drewN (World.grownBy.refl _ _) _) _, at_, hat, (HR.out.drewN n1).setE, rfl⟩
      · by_cases h2 : v < 0
        · have hc : tErr ((bl b).drop at_).length (v, k, 0) = 4 := by unfold tErr; rw [if_neg (by simp), if_neg h1, if_pos h2]
          rw [hc, if_pos (by decide)]
          clear hc
          go_enter Tryz.func40, Tryz.ntmps40
          go_wp2_with (first
            | (go_at_call 125; refine (off_no _ _ _ _ HR.out).mono ?_; rintro e1 w1 ⟨rfl, rfl⟩)
            | (go_at_call 126; refine (rnum_ok _ _ _ _ _ HR.out hat hb v k HRD.out).mono ?_; rintro e1 w1 ⟨rfl, n1, rfl⟩)
            | (go_at_call 122; refine (fail_any p 4 (w.drewN n1) c0 f0).mono ?_; rintro e1 w1 ⟨⟨u, rfl⟩, rfl⟩))
          refine bodyPost_ret (results_tmp rfl _ _ _) rfl ?_
          exact ⟨rfl, only_set (only_drewN (World.grownBy.refl _ _) _) _, at_, hat, (HR.out.drewN n1).setE, rfl⟩
        · have hn : (((bl b).drop at_).length : Int) = (b.size : Int) - at_ := by rw [bl_drop_len]; omega
          have hk := rd_le HRD.out
          rw [bl_drop_len] at hk
          obtain ⟨A, hA⟩ : ∃ A, at_ + k = A := ⟨_, rfl⟩
          have hAle : A ≤ b.size := by omega
          obtain ⟨nv, hnv⟩ : ∃ nv : Nat, v = nv := ⟨v.toNat, by omega⟩
          subst hnv
          have HC : Hid (Calls Tryz.prog 126 #[.pointer (some ⟨p, 0, none⟩)] w fun en w' => en = .returned (.tuple #[.int .i64 (nv : Int), .int .i64 (A : Int), .int .i64 0]) ∧ ∃ n, w' = w.drewN n) := Lib.hid (by rw [← hA]; exact rnum_ok _ _ _ _ _ HR.out hat hb _ _ HRD.out)
          by_cases h3 : (nv : Int) > (b.size : Int) - A
          · have hc : tErr ((bl b).drop at_).length ((nv : Int), k, 0) = 5 := by
              unfold tErr
              rw [if_neg (by simp), if_neg h1, if_neg h2, if_pos (by rw [hn]; show (nv : Int) > (b.size : Int) - at_ - (k : Int); omega)]
            rw [hc, if_pos (by decide)]
            have HA := Lib.hid hA
            clear hc hn hA hk
            go_enter Tryz.func40, Tryz.ntmps40
            go_wp2_with (first
              | (go_at_call 125; refine (off_no _ _ _ _ HR.out).mono ?_; rintro e1 w1 ⟨rfl, rfl⟩)
              | (go_at_call 126; refine HC.out.mono ?_; rintro e1 w1 ⟨rfl, n1, rfl⟩)
              | (go_at_call 122; refine (fail_any p 5 (w.drewN n1) c0 f0).mono ?_; rintro e1 w1 ⟨⟨u, rfl⟩, rfl⟩))
            refine bodyPost_ret (results_tmp rfl _ _ _) rfl ?_
            exact ⟨rfl, only_set (only_drewN (World.grownBy.refl _ _) _) _, at_, hat, (HR.out.drewN n1).setE, rfl⟩
          · have hc : tErr ((bl b).drop at_).length ((nv : Int), k, 0) = 0 := by
              unfold tErr
              rw [if_neg (by simp), if_neg h1, if_neg h2, if_neg (by rw [hn]; show ¬ (nv : Int) > (b.size : Int) - at_ - (k : Int); omega)]
            rw [hc, if_neg (by decide)]
            have h4 : A + nv ≤ b.size := by omega
            have HA := Lib.hid hA
            have HH4 := Lib.hid h4
            clear hc hn hA hk h4
            go_enter Tryz.func40, Tryz.ntmps40
            go_wp2_with (first
              | (go_at_call 125; refine (off_no _ _ _ _ HR.out).mono ?_; rintro e1 w1 ⟨rfl, rfl⟩)
              | (go_at_call 126; refine HC.out.mono ?_; rintro e1 w1 ⟨rfl, n1, rfl⟩))
            have h9 := (HR.out.drewN n1).setAt (A + nv)
            rw [show ((A + nv : Nat) : Int) = (A : Int) + nv by omega] at h9
            have hG : w.grownBy ((w.drewN n1).setCell ⟨p, 2, none⟩ (.int .i64 ((A : Int) + nv))) (some p) := only_set (only_drewN (World.grownBy.refl _ _) _) _
            have HG := Lib.hid hG
            clear hG
            generalize (w.drewN n1).setCell ⟨p, 2, none⟩ (.int .i64 ((A : Int) + nv)) = W2 at h9 HG ⊢
            obtain ⟨e0, e1, e2⟩ := h9.cells
            have H9 := Lib.hid h9
            clear h9
            have hsl : ∀ W : World, (Instr.slice 9 (.string b) (some (.int .i64 (A : Int))) (some (.int .i64 ((A : Int) + nv))) none).run Tryz.prog W = .ok (.string (b.extract A (A + nv))) W := fun W => by
              have h := run_slice_string (P := Tryz.prog) W 9 b .i64 .i64 (A : Int) ((A : Int) + nv) Tryz.underlying9 (by omega) (by omega) (by have := HH4.out; omega)
              rw [show ((A : Int)).toNat = A from by omega, show ((A : Int) + nv).toNat = A + nv from by omega] at h
              exact h
            go_quiet (fail)
            clear hsl
            go_wp2_with fail
            go_ret
            have hH := HH4.out
            have hAA := HA.out
            subst hAA
            refine ⟨by rw [extract_eq]; rfl, ?_, at_ + k + nv, hH, H9.out.drewN nq, by simp [List.drop_drop]⟩
            exact only_drewN HG.out nq
end Go.Proofs.YtgmbppfkkiobhaaGreat.Wire
/- What a writer leaves as it was: EVERY other block in which its own row does not lie. (For the document's chain: to be laid beside Keeps.) -/
namespace Go.Proofs.YtgmbppfkkiobhaaGreat.Wire
open Go Go.RowKit Go.Lib
/-- The row of the writer at p (its first cell) does not lie in block b. -/
def RowOff (p b : Nat) (w : World) : Prop := ∀ v e t fr, w.heap[p]? = some (.cells #[v, e] t fr) → v.ownBlock ≠ some b
def KeepsR (p : Nat) (w w' : World) : Prop := ∀ b, b < w.heap.size → b ≠ p → RowOff p b w → w'.heap[b]? = w.heap[b]? ∧ RowOff p b w'
theorem KeepsR.refl (p : Nat) (w : World) : KeepsR p w w := fun _ _ _ h => ⟨rfl, h⟩
theorem KeepsR.trans {p : Nat} {a b c : World} (h : KeepsR p a b) (k : KeepsR p b c) : KeepsR p a c := fun x hx hp hr => by
  obtain ⟨h1, h2⟩ := h x hx hp hr
  have hx2 : x < b.heap.size := by
    rcases Nat.lt_or_ge x b.heap.size with h3 | h3
    · exact h3
    · rw [Array.getElem?_eq_none h3, Array.getElem?_eq_getElem hx] at h1; cases h1
  obtain ⟨k1, k2⟩ := k x hx2 hp h2
  exact ⟨k1.trans h1, k2⟩
theorem KeepsR.alloc {p : Nat} {w : World} (hp : p < w.heap.size) (o : Obj) : KeepsR p w (w.alloc o) := fun b hb _ hr =>
  ⟨Below.heap_alloc w o b hb, fun v e t fr h => hr v e t fr ((Below.heap_alloc w o p hp).symm.trans h)⟩
/-- Any cell but the first is set (the error). -/
theorem KeepsR.set1 {p : Nat} {w : World} {v e : Value} {t : TypeId} (hp : w.heap[p]? = some (.cells #[v, e] t (0, 0))) (u : Value) : KeepsR p w (w.setCell ⟨p, 1, none⟩ u) := fun b hb hbp hr =>
  ⟨(grownBy_setCell w p 1 u).block b hb (fun h => hbp (Option.some.inj h)), fun v' e' t' fr' h => by
    have h1 := Go.Lib.heap_setCell_same (i := 1) hp u
    rw [h1] at h
    have h2 : (#[v, e].setIfInBounds 1 u) = #[v, u] := rfl
    simp only [Option.some.injEq, Obj.cells.injEq] at h
    have h3 : #[v, u] = #[v', e'] := h.1
    have h4 : v = v' := by have h5 := congrArg Array.toList h3; injection h5
    rw [← h4]
    exact hr v e t (0, 0) hp⟩
/-- The row grows and is set anew. -/
theorem KeepsR.put {p : Nat} {w w1 : World} {v v' e : Value} {t : TypeId} (hp : w.heap[p]? = some (.cells #[v, e] t (0, 0))) (hne : v.ownBlock ≠ some p) (hg : w.grownBy w1 v.ownBlock) (hat : v'.ownBlock = v.ownBlock ∨ v'.ownBlock = some w.heap.size) : KeepsR p w (w1.setCell ⟨p, 0, none⟩ v') := fun b hb hbp hr => by
  have hvb := hr v e t (0, 0) hp
  have hp1 : w1.heap[p]? = some (.cells #[v, e] t (0, 0)) := (hg.block p (blk_lt hp) (fun h => hne h.symm)).trans hp
  refine ⟨((grownBy_setCell w1 p 0 v').block b (Nat.lt_of_lt_of_le hb hg.size) (fun h => hbp (Option.some.inj h))).trans (hg.block b hb (fun h => hvb h.symm)), fun u e' t' fr' h => ?_⟩
  have h1 := Go.Lib.heap_setCell_same (i := 0) hp1 v'
  rw [h1] at h
  simp only [Option.some.injEq, Obj.cells.injEq] at h
  have h3 : #[v', e] = #[u, e'] := h.1
  have h4 : v' = u := by have h5 := congrArg Array.toList h3; injection h5
  rw [← h4]
  rcases hat with ha | ha
  · rw [ha]; exact hvb
  · rw [ha]; intro hh; have := Option.some.inj hh; omega
/-- The other form, for the append of a string too (its law does not say where the new row lies): the row stays above a bound. -/
def RowUp (p B : Nat) (w : World) : Prop := ∀ v e t fr, w.heap[p]? = some (.cells #[v, e] t fr) → ∀ g, v.ownBlock = some g → B ≤ g
def KeepsU (p : Nat) (w w' : World) : Prop := w.heap.size ≤ w'.heap.size ∧ ∀ B, B ≤ w.heap.size → RowUp p B w → (∀ b, b < B → b ≠ p → w'.heap[b]? = w.heap[b]?) ∧ RowUp p B w'
theorem KeepsU.refl (p : Nat) (w : World) : KeepsU p w w := ⟨Nat.le_refl _, fun _ _ h => ⟨fun _ _ _ => rfl, h⟩⟩
theorem KeepsU.trans {p : Nat} {a b c : World} (h : KeepsU p a b) (k : KeepsU p b c) : KeepsU p a c := ⟨Nat.le_trans h.1 k.1, fun B hB hr => by
  obtain ⟨h1, h2⟩ := h.2 B hB hr
  obtain ⟨k1, k2⟩ := k.2 B (Nat.le_trans hB h.1) h2
  exact ⟨fun x hx hp => (k1 x hx hp).trans (h1 x hx hp), k2⟩⟩
theorem KeepsU.alloc {p : Nat} {w : World} (hp : p < w.heap.size) (o : Obj) : KeepsU p w (w.alloc o) := ⟨by simp, fun B hB hr =>
  ⟨fun b hb _ => Below.heap_alloc w o b (by omega), fun v e t fr h => hr v e t fr ((Below.heap_alloc w o p hp).symm.trans h)⟩⟩
/-- The bound under which a row may be owned anew: its own block, or the next one to be made. -/
def ownAt (v : Value) (w : World) : Nat := v.ownBlock.getD w.heap.size
theorem own_at {w : World} {base e size n : Nat} {v : Value} {xs : List Value} (h : w.ownsRow base e size v n xs) : w.ownsRow (ownAt v w) e size v n xs := by
  obtain ⟨h1, h2⟩ := h
  refine ⟨h1, ?_⟩
  rcases h2 with h2 | ⟨g, cap, cur, a, b, c⟩
  · exact .inl h2
  · exact .inr ⟨g, cap, cur, a, by subst a; exact Nat.le_refl _, c⟩
theorem own_at_le {v : Value} {w : World} {B : Nat} (hB : B ≤ w.heap.size) (h : ∀ g, v.ownBlock = some g → B ≤ g) : B ≤ ownAt v w := by
  unfold ownAt
  cases hv : v.ownBlock with
  | none => exact hB
  | some g => exact h g hv
/-- The row grows (owned under ownAt) and is set anew. -/
theorem KeepsU.put {p n : Nat} {w w1 : World} {v v' e : Value} {t el size : TypeId} {xs : List Value} (hp : w.heap[p]? = some (.cells #[v, e] t (0, 0))) (hne : v.ownBlock ≠ some p) (hg : w.grownBy w1 v.ownBlock) (hown : w1.ownsRow (ownAt v w) el size v' n xs) : KeepsU p w (w1.setCell ⟨p, 0, none⟩ v') := by
  refine ⟨Nat.le_trans hg.size (grownBy_setCell w1 p 0 v').size, fun B hB hr => ?_⟩
  have hvb := hr v e t (0, 0) hp
  have hp1 : w1.heap[p]? = some (.cells #[v, e] t (0, 0)) := (hg.block p (blk_lt hp) (fun h => hne h.symm)).trans hp
  refine ⟨fun b hb hbp => ((grownBy_setCell w1 p 0 v').block b (Nat.lt_of_lt_of_le (Nat.lt_of_lt_of_le hb hB) hg.size) (fun h => hbp (Option.some.inj h))).trans (hg.block b (by omega) (fun h => by have := hvb b h.symm; omega)), fun u e' t' fr' h g hug => ?_⟩
  have h1 := Go.Lib.heap_setCell_same (i := 0) hp1 v'
  rw [h1] at h
  simp only [Option.some.injEq, Obj.cells.injEq] at h
  have h3 : #[v', e] = #[u, e'] := h.1
  have h4 : v' = u := by have h5 := congrArg Array.toList h3; injection h5
  rw [← h4] at hug
  exact Nat.le_trans (own_at_le hB hvb) (own_ge hown g hug)
end Go.Proofs.YtgmbppfkkiobhaaGreat.Wire
