/- (*wire.Reader).num reads a number. -/
import Derived.Test.YthlpdficpmdebaaGreatJ4
namespace Go.Proofs.YthlpdficpmdebaaGreat.Wire
open Go Go.RowKit Go.Lib
/-- A reader at block p. -/
def Rd (p : Nat) (e : Int) (b : ByteArray) (at_ : Nat) (w : World) : Prop := w.heap[p]? = some (.cells #[.int .i64 e, .string b, .int .i64 at_] 183 (0, 0))
theorem Rd.cells {p : Nat} {e : Int} {b : ByteArray} {at_ : Nat} {w : World} (h : Rd p e b at_ w) : w.cell? ⟨p, 0, none⟩ = some (.int .i64 e) ∧ w.cell? ⟨p, 1, none⟩ = some (.string b) ∧ w.cell? ⟨p, 2, none⟩ = some (.int .i64 at_) := by
  refine ⟨?_, ?_, ?_⟩ <;> (rw [cell_p h]; rfl)
theorem Rd.froz {p : Nat} {e : Int} {b : ByteArray} {at_ : Nat} {w : World} (h : Rd p e b at_ w) (i : Nat) : w.frozen? ⟨p, i, none⟩ = false := frozen_p h
theorem Rd.drewN {p : Nat} {e : Int} {b : ByteArray} {at_ : Nat} {w : World} (h : Rd p e b at_ w) (n : Nat) : Rd p e b at_ (w.drewN n) := h
/-- num's end. -/
def NumPost (b : ByteArray) (at_ : Nat) (w : World) (en : Ending) (w' : World) : Prop :=
  (∃ n, w' = w.drewN n) ∧ en = .returned (.tuple #[.int .i64 (rdN ((bl b).drop at_) 0 0).1, .int .i64 (if (rdN ((bl b).drop at_) 0 0).2.2 = 0 then ((at_ + (rdN ((bl b).drop at_) 0 0).2.1 : Nat) : Int) else 0), .int .i64 (rdN ((bl b).drop at_) 0 0).2.2])
theorem NumPost.mk {b : ByteArray} {at_ : Nat} {w w' : World} {en : Ending} {v e x : Int} {k : Nat} (hE : rdN (b.data.toList.drop at_) 0 0 = (v, k, e)) (hw : ∃ n, w' = w.drewN n) (hx : x = if e = 0 then ((at_ + k : Nat) : Int) else 0)
    (hen : en = .returned (.tuple #[.int .i64 v, .int .i64 x, .int .i64 e])) : NumPost b at_ w en w' := by
  refine ⟨hw, ?_⟩
  unfold bl
  rw [hE, hen, hx]
theorem w64 (n : Int) : wrap64 n = IntKind.i64.wrap n := by rw [IntKind.wrap_i64]; unfold wrap64; rfl
theorem unzz_walk' {A : Nat} (h : A < 18446744073709551616) : bits .xor .i64 (wrap64 ((A : Int) / 2)) (wrap64 (-wrap64 (bits .and .u64 (A : Int) 1))) = unzz A := by
  simp only [w64]
  exact unzz_walk h
set_option maxRecDepth 20000 in
set_option maxHeartbeats 2000000 in
theorem rnum_any (p : Nat) (e : Int) (b : ByteArray) (at_ : Nat) (w : World) (h : Rd p e b at_ w) (hat : at_ ≤ b.size) (hb : b.size ≤ 1000000000000) :
    Calls Tryz.prog 139 #[.pointer (some ⟨p, 0, none⟩)] w (NumPost b at_ w) := by
  have HR := Lib.hid h
  clear h
  go_enter Tryz.func139, Tryz.ntmps139
  go_wp2_with fail
  go_loopw [5, 6] (fun n i wr => ∃ (k a m : Nat), i = .int .i64 k ∧ n = .int .u64 a ∧ k ≤ 10 ∧ at_ + k ≤ b.size ∧ a < 2 ^ (7 * k) ∧ rdN ((bl b).drop (at_ + k)) k a = rdN ((bl b).drop at_) 0 0 ∧ wr = w.drewN m) (fun _ i _ => 10 - (intOf i).toNat)
  case atStart => exact ⟨0, 0, 0, rfl, rfl, by omega, by omega, by decide, rfl, rfl⟩
  case round =>
    obtain ⟨k, a, m, rfl, rfl, hk, hak, ha, hr, rfl⟩ := hrel
    obtain ⟨c0, c1, c2⟩ := HR.out.cells
    have HA := Lib.hid ha
    have HE := Lib.hid hr
    clear ha hr
    by_cases h10 : k = 10
    · subst h10
      go_wp2_with fail
      refine bodyPost_ret (results_tmp3 rfl _ _ _) rfl ?_
      exact NumPost.mk (v := 0) (k := 0) (e := 4) (by rw [← bl, ← HE.out]; exact rdN_ten _ _) ⟨_, rfl⟩ rfl rfl
    · have hk9 : k < 10 := by omega
      have hb10 : ((k : Int) == 10) = false := by simp; omega
      by_cases hend : at_ + k = b.size
      · have hge : (b.size : Int) ≤ at_ + k := by omega
        have HEND := Lib.hid hend
        have H10 := Lib.hid h10
        clear h10 hend
        go_wp2_with fail
        go_quiet (fail)
        go_wp2_with fail
        refine bodyPost_ret (results_tmp3 rfl _ _ _) rfl ?_
        refine NumPost.mk (v := 0) (k := 0) (e := 5) (by rw [← bl, ← HE.out, bl, drop_end HEND.out]; exact rdN_nil H10.out) ?_ rfl rfl
        (first | exact ⟨_, rfl⟩ | (simp only [World.drewN_drewN]; exact ⟨_, rfl⟩))
      · have hlt : (at_ : Int) + k < b.size := by omega
        have hlt2 : at_ + k < b.size := by omega
        clear h10 hend
        have HLT := Lib.hid hlt2
        go_wp2_with fail
        go_quiet (fail)
        go_wp2_with fail
        have q1 : IntKind.i64.wrap ((at_ : Int) + k) = (at_ : Int) + k := IntWalk.i64_in _ (by omega)
        have q2 : 0 ≤ (at_ : Int) + k := by omega
        have q3 : ((at_ : Int) + k).toNat = at_ + k := by omega
        go_quiet (fail)
        generalize hcc : b[at_ + k]'hlt2 = c
        have HCC := Lib.hid hcc
        clear hcc q1 q2 q3
        have hc8 : c.toNat < 256 := c.toNat_lt
        have HC8 := Lib.hid hc8
        clear hc8
        by_cases h9 : k = 9
        · subst h9
          have hp9 : (2 : Int) ^ (7 * 9) = 9223372036854775808 := by decide
          by_cases hc1 : 1 < c.toNat
          · go_wp2_with fail
            refine bodyPost_ret (results_tmp3 rfl _ _ _) rfl ?_
            refine NumPost.mk (v := 0) (k := 0) (e := 4) (by rw [← bl, ← HE.out, bl, drop_cons HLT.out, HCC.out]; exact rdN_nine hc1) ?_ rfl rfl
            (first | exact ⟨_, rfl⟩ | (simp only [World.drewN_drewN]; exact ⟨_, rfl⟩))
          · have hc2 : c.toNat ≤ 1 := by omega
            have hm2 := and128_small (c := c.toNat) (by omega)
            have HO := Lib.hid (acc_or (k := 9) (c := c.toNat) (by decide) HA.out HC8.out (fun _ => hc2))
            have HAL2 := Lib.hid (acc_lt64 (k := 9) (c := c.toNat) (by decide) HA.out (fun _ => hc2))
            obtain ⟨A, hA⟩ : ∃ A, a + c.toNat % 128 * 2 ^ (7 * 9) = A := ⟨_, rfl⟩
            rw [hA] at HO HAL2
            rw [hp9] at HO
            have HAA := Lib.hid hA
            clear hp9 hA
            by_cases hz : c.toNat = 0
            · have HZ := Lib.hid hz
              go_wp2_with fail
              refine bodyPost_ret (results_tmp3 rfl _ _ _) rfl ?_
              refine NumPost.mk (v := 0) (k := 0) (e := 4) (by rw [← bl, ← HE.out, bl, drop_cons HLT.out, HCC.out]; exact rdN_zero (by omega) HZ.out (by omega)) ?_ rfl rfl
              (first | exact ⟨_, rfl⟩ | (simp only [World.drewN_drewN]; exact ⟨_, rfl⟩))
            · have HZ := Lib.hid hz
              have HC2 := Lib.hid hc2
              have HU := Lib.hid (unzz_walk' HAL2.out)
              have HD : Hid (rdN (b.data.toList.drop at_) 0 0 = (unzz A, 9 + 1, 0)) := Lib.hid (by
                rw [← bl, ← HE.out, bl, drop_cons HLT.out, HCC.out, ← HAA.out]
                exact rdN_done (by omega) (fun _ => HC2.out) (by have := HC2.out; omega) (fun h => HZ.out h.1))
              have hz3 : ((c.toNat : Int) == 0) = false := by simp; omega
              clear hz
              go_wp2_with fail
              rw [HO.out]
              go_quiet (fail)
              go_wp2_with fail
              refine bodyPost_ret (results_tmp3 rfl _ _ _) rfl ?_
              refine NumPost.mk (x := (at_ : Int) + 9 + 1) HD.out (by first | exact ⟨_, rfl⟩ | (simp only [World.drewN_drewN]; exact ⟨_, rfl⟩)) (by rw [if_pos rfl]; omega) ?_
              show Ending.returned (.tuple #[.int .i64 (bits .xor .i64 (wrap64 ((A : Int) / 2)) (wrap64 (-wrap64 (bits .and .u64 (A : Int) 1)))), _, _]) = _
              rw [HU.out]
              rfl
        · have hb9 : ((k : Int) == 9) = false := by simp; omega
          have HO := Lib.hid (acc_or (c := c.toNat) (show k ≤ 9 by omega) HA.out HC8.out (fun h => absurd h h9))
          have HAL := Lib.hid (acc_lt (c := c.toNat) HA.out)
          have HAL2 := Lib.hid (acc_lt64 (c := c.toNat) (show k ≤ 9 by omega) HA.out (fun h => absurd h h9))
          obtain ⟨A, hA⟩ : ∃ A, a + c.toNat % 128 * 2 ^ (7 * k) = A := ⟨_, rfl⟩
          rw [hA] at HO HAL HAL2
          have HAA := Lib.hid hA
          have H9 := Lib.hid h9
          clear h9 hA
          by_cases hm : 128 ≤ c.toNat
          · have hm2 := and128_big hm HC8.out
            go_wp2_with fail
            rw [HO.out]
            go_roundw
            case rel =>
              refine ⟨k + 1, A, _, by go_num, rfl, by omega, by have := HLT.out; omega, HAL.out, ?_, by first | rfl | (simp only [World.drewN_drewN]; rfl)⟩
              rw [← HE.out, bl, drop_cons HLT.out, HCC.out, rdN_next (by have := H9.out; omega) hm, HAA.out]
              rfl
            case measure => simp [intOf]; omega
          · have hm2 := and128_small (c := c.toNat) (by omega)
            have hm3 : c.toNat < 128 := by omega
            have HM3 := Lib.hid hm3
            by_cases hz : c.toNat = 0 ∧ 0 < k
            · obtain ⟨hz1, hz2⟩ := hz
              have HZ1 := Lib.hid hz1
              have HZ2 := Lib.hid hz2
              go_wp2_with fail
              refine bodyPost_ret (results_tmp3 rfl _ _ _) rfl ?_
              refine NumPost.mk (v := 0) (k := 0) (e := 4) (by rw [← bl, ← HE.out, bl, drop_cons HLT.out, HCC.out]; exact rdN_zero (by omega) HZ1.out HZ2.out) ?_ rfl rfl
              (first | exact ⟨_, rfl⟩ | (simp only [World.drewN_drewN]; exact ⟨_, rfl⟩))
            · have HZ := Lib.hid hz
              have HU := Lib.hid (unzz_walk' HAL2.out)
              have HD : Hid (rdN (b.data.toList.drop at_) 0 0 = (unzz A, k + 1, 0)) := Lib.hid (by
                rw [← bl, ← HE.out, bl, drop_cons HLT.out, HCC.out, ← HAA.out]
                exact rdN_done (by omega) (fun h => absurd h H9.out) HM3.out HZ.out)
              have hz3 : ((c.toNat : Int) == 0) = false ∨ k = 0 := by
                by_cases h0 : k = 0
                · exact .inr h0
                · exact .inl (by simp; omega)
              clear hz hm hm3
              rcases hz3 with hz3 | hz3
              · go_wp2_with fail
                rw [HO.out]
                go_quiet (fail)
                go_wp2_with fail
                refine bodyPost_ret (results_tmp3 rfl _ _ _) rfl ?_
                refine NumPost.mk (x := (at_ : Int) + k + 1) HD.out (by first | exact ⟨_, rfl⟩ | (simp only [World.drewN_drewN]; exact ⟨_, rfl⟩)) (by rw [if_pos rfl]; omega) ?_
                show Ending.returned (.tuple #[.int .i64 (bits .xor .i64 (wrap64 ((A : Int) / 2)) (wrap64 (-wrap64 (bits .and .u64 (A : Int) 1)))), _, _]) = _
                rw [HU.out]
                rfl
              · have hkz : ¬ 0 < k := by omega
                have HKZ := Lib.hid hz3
                clear hz3
                rcases (show c.toNat = 0 ∨ ((c.toNat : Int) == 0) = false by
                  by_cases h0 : c.toNat = 0
                  · exact .inl h0
                  · exact .inr (by simp; omega)) with hc0 | hc0
                · have HO0 : Hid (bits .or .u64 (a : Int) (IntKind.u64.wrap (IntKind.u64.wrap (bits .and .u8 0 127) * 2 ^ (7 * k))) = A) := Lib.hid (by have := HO.out; rw [hc0] at this; exact this)
                  go_wp2_with fail
                  rw [HO0.out]
                  go_quiet (fail)
                  go_wp2_with fail
                  refine bodyPost_ret (results_tmp3 rfl _ _ _) rfl ?_
                  refine NumPost.mk (x := (at_ : Int) + k + 1) HD.out (by first | exact ⟨_, rfl⟩ | (simp only [World.drewN_drewN]; exact ⟨_, rfl⟩)) (by rw [if_pos rfl]; omega) ?_
                  show Ending.returned (.tuple #[.int .i64 (bits .xor .i64 (wrap64 ((A : Int) / 2)) (wrap64 (-wrap64 (bits .and .u64 (A : Int) 1)))), _, _]) = _
                  rw [HU.out]
                  rfl
                · go_wp2_with fail
                  rw [HO.out]
                  go_quiet (fail)
                  go_wp2_with fail
                  refine bodyPost_ret (results_tmp3 rfl _ _ _) rfl ?_
                  refine NumPost.mk (x := (at_ : Int) + k + 1) HD.out (by first | exact ⟨_, rfl⟩ | (simp only [World.drewN_drewN]; exact ⟨_, rfl⟩)) (by rw [if_pos rfl]; omega) ?_
                  show Ending.returned (.tuple #[.int .i64 (bits .xor .i64 (wrap64 ((A : Int) / 2)) (wrap64 (-wrap64 (bits .and .u64 (A : Int) 1)))), _, _]) = _
                  rw [HU.out]
                  rfl
end Go.Proofs.YthlpdficpmdebaaGreat.Wire
/- (*wire.Reader).off, Num, Count: what a reader hands back, and where it stands then. -/
namespace Go.Proofs.YthlpdficpmdebaaGreat.Wire
open Go Go.RowKit Go.Lib
theorem only_drewN {a w : World} {row : Option Nat} (h : a.grownBy w row) (n : Nat) : a.grownBy (w.drewN n) row := ⟨h.os, h.tape, h.output, h.size, h.block⟩
theorem only_set {a w : World} {p i : Nat} (h : a.grownBy w (some p)) (u : Value) : a.grownBy (w.setCell ⟨p, i, none⟩ u) (some p) := h.trans (grownBy_setCell w p i u)
/-- Where a reader stands behind a call. -/
def REnd (p : Nat) (b : ByteArray) (v : Value) (s : RS) (w : World) (en : Ending) (w' : World) : Prop :=
  en = .returned v ∧ w.grownBy w' (some p) ∧ ∃ at', at' ≤ b.size ∧ Rd p s.e b at' w' ∧ s.l = (bl b).drop at'
theorem off_no (p : Nat) (b : ByteArray) (at_ : Nat) (w : World) (h : Rd p 0 b at_ w) :
    Calls Tryz.prog 138 #[.pointer (some ⟨p, 0, none⟩)] w fun en w' => en = .returned (.bool false) ∧ w = w' := by
  obtain ⟨d0, _, _⟩ := h.cells
  clear h
  go_enter Tryz.func138, Tryz.ntmps138
  go_wp2_with (go_at_call 133; refine (wrong_any _ _ _ d0).mono ?_; rintro e w1 ⟨rfl, rfl⟩)
  go_ret
  exact ⟨rfl, rfl⟩
theorem off_yes (p : Nat) (e : Int) (he : e ≠ 0) (b : ByteArray) (at_ : Nat) (w : World) (h : Rd p e b at_ w) :
    Calls Tryz.prog 138 #[.pointer (some ⟨p, 0, none⟩)] w fun en w' => en = .returned (.bool true) ∧ w = w' := by
  obtain ⟨d0, _, _⟩ := h.cells
  clear h
  have hb1 : (e == 0) = false := by simpa using he
  have hb2 : (e != 0) = true := by simpa using he
  go_enter Tryz.func138, Tryz.ntmps138
  go_wp2_with (go_at_call 133; refine (wrong_any _ _ _ d0).mono ?_; rintro e w1 ⟨rfl, rfl⟩)
  go_ret
  exact ⟨rfl, rfl⟩
theorem rnum_ok (p : Nat) (e : Int) (b : ByteArray) (at_ : Nat) (w : World) (h : Rd p e b at_ w) (hat : at_ ≤ b.size) (hb : b.size ≤ 1000000000000) (v : Int) (k : Nat) (hr : rdN ((bl b).drop at_) 0 0 = (v, k, 0)) :
    Calls Tryz.prog 139 #[.pointer (some ⟨p, 0, none⟩)] w fun en w' => en = .returned (.tuple #[.int .i64 v, .int .i64 ((at_ + k : Nat) : Int), .int .i64 0]) ∧ ∃ n, w' = w.drewN n :=
  (rnum_any p e b at_ w h hat hb).mono fun _ _ ⟨h1, h2⟩ => by
    rw [hr] at h2
    exact ⟨h2, h1⟩
theorem rnum_bad (p : Nat) (e : Int) (b : ByteArray) (at_ : Nat) (w : World) (h : Rd p e b at_ w) (hat : at_ ≤ b.size) (hb : b.size ≤ 1000000000000) (v x : Int) (k : Nat) (hx : x ≠ 0) (hr : rdN ((bl b).drop at_) 0 0 = (v, k, x)) :
    Calls Tryz.prog 139 #[.pointer (some ⟨p, 0, none⟩)] w fun en w' => en = .returned (.tuple #[.int .i64 v, .int .i64 0, .int .i64 x]) ∧ ∃ n, w' = w.drewN n :=
  (rnum_any p e b at_ w h hat hb).mono fun _ _ ⟨h1, h2⟩ => by
    rw [hr] at h2
    simp only [if_neg hx] at h2
    exact ⟨h2, h1⟩
theorem rd_le {l : List UInt8} {v : Int} {k : Nat} (h : rdN l 0 0 = (v, k, 0)) : k ≤ l.length := by
  have := (rdN_more [] l 0 0 v k h).2.1
  omega
theorem bl_drop_len (b : ByteArray) (i : Nat) : ((bl b).drop i).length = b.size - i := by
  rw [List.length_drop, bl, Array.length_toList]; rfl
theorem Rd.setE {p : Nat} {e x : Int} {b : ByteArray} {at_ : Nat} {w : World} (h : Rd p e b at_ w) : Rd p x b at_ (w.setCell ⟨p, 0, none⟩ (.int .i64 x)) := Go.Lib.heap_setCell_same (i := 0) h _
theorem Rd.setAt {p : Nat} {e : Int} {b : ByteArray} {at_ : Nat} {w : World} (h : Rd p e b at_ w) (y : Nat) : Rd p e b y (w.setCell ⟨p, 2, none⟩ (.int .i64 y)) := Go.Lib.heap_setCell_same (i := 2) h _
set_option maxRecDepth 20000 in
set_option maxHeartbeats 1000000 in
theorem rNum_any (p : Nat) (e : Int) (b : ByteArray) (at_ : Nat) (w : World) (h : Rd p e b at_ w) (hat : at_ ≤ b.size) (hb : b.size ≤ 1000000000000) :
    Calls Tryz.prog 40 #[.pointer (some ⟨p, 0, none⟩)] w (REnd p b (.int .i64 (rNum ⟨e, (bl b).drop at_⟩).1) (rNum ⟨e, (bl b).drop at_⟩).2 w) := by
  by_cases he : e ≠ 0
  · rw [rNum, if_pos he]
    have HR := Lib.hid h
    have HE := Lib.hid he
    clear h he
    go_enter Tryz.func40, Tryz.ntmps40
    go_wp2_with (go_at_call 138; refine (off_yes _ _ HE.out _ _ _ HR.out).mono ?_; rintro e1 w1 ⟨rfl, rfl⟩)
    refine bodyPost_ret (results_tmp rfl _ _ _) rfl ?_
    exact ⟨rfl, World.grownBy.refl _ _, at_, hat, HR.out, rfl⟩
  · have he0 : e = 0 := by omega
    subst he0
    rw [rNum, if_neg he]
    clear he
    obtain ⟨⟨v, k, x⟩, hr⟩ : ∃ r, rdN ((bl b).drop at_) 0 0 = r := ⟨_, rfl⟩
    simp only [hr]
    have HR := Lib.hid h
    have HRD := Lib.hid hr
    have f0 := h.froz 0
    have f2 := h.froz 2
    obtain ⟨c0, c1, c2⟩ := h.cells
    clear h hr
    by_cases hx : x ≠ 0
    · rw [if_pos hx]
      have HX := Lib.hid hx
      have hb1 : (x == 0) = false := by simpa using hx
      have hb2 : (x != 0) = true := by simpa using hx
      clear hx
      go_enter Tryz.func40, Tryz.ntmps40
      go_wp2_with (first
        | (go_at_call 138; refine (off_no _ _ _ _ HR.out).mono ?_; rintro e1 w1 ⟨rfl, rfl⟩)
        | (go_at_call 139; refine (rnum_bad _ _ _ _ _ HR.out hat hb v x k HX.out HRD.out).mono ?_; rintro e1 w1 ⟨rfl, n1, rfl⟩)
        | (go_at_call 135; refine (fail_any p x (w.drewN n1) c0 f0).mono ?_; rintro e1 w1 ⟨⟨u, rfl⟩, rfl⟩))
      refine bodyPost_ret (results_tmp rfl _ _ _) rfl ?_
      exact ⟨rfl, only_set (only_drewN (World.grownBy.refl _ _) _) _, at_, hat, (HR.out.drewN n1).setE, rfl⟩
    · have hx0 : x = 0 := by omega
      subst hx0
      rw [if_neg hx]
      clear hx
      go_enter Tryz.func40, Tryz.ntmps40
      go_wp2_with (first
        | (go_at_call 138; refine (off_no _ _ _ _ HR.out).mono ?_; rintro e1 w1 ⟨rfl, rfl⟩)
        | (go_at_call 139; refine (rnum_ok _ _ _ _ _ HR.out hat hb v k HRD.out).mono ?_; rintro e1 w1 ⟨rfl, n1, rfl⟩))
      go_ret
      have hk := rd_le HRD.out
      rw [bl_drop_len] at hk
      have h9 := (HR.out.drewN n1).setAt (at_ + k)
      exact ⟨rfl, only_set (only_drewN (World.grownBy.refl _ _) _) _, at_ + k, by omega, h9, by simp [List.drop_drop]⟩
end Go.Proofs.YthlpdficpmdebaaGreat.Wire
/- (*wire.Reader).Count, Text, Left, End. -/
namespace Go.Proofs.YthlpdficpmdebaaGreat.Wire
open Go Go.RowKit Go.Lib
set_option maxRecDepth 20000 in
set_option maxHeartbeats 1000000 in
theorem rCount_any (p : Nat) (e most : Int) (b : ByteArray) (at_ : Nat) (w : World) (h : Rd p e b at_ w) (hat : at_ ≤ b.size) (hb : b.size ≤ 1000000000000) :
    Calls Tryz.prog 141 #[.pointer (some ⟨p, 0, none⟩), .int .i64 most] w (REnd p b (.int .i64 (rCount most ⟨e, (bl b).drop at_⟩).1) (rCount most ⟨e, (bl b).drop at_⟩).2 w) := by
  by_cases he : e ≠ 0
  · rw [rCount, if_pos he]
    have HR := Lib.hid h
    have HE := Lib.hid he
    clear h he
    go_enter Tryz.func141, Tryz.ntmps141
    go_wp2_with (go_at_call 138; refine (off_yes _ _ HE.out _ _ _ HR.out).mono ?_; rintro e1 w1 ⟨rfl, rfl⟩)
    refine bodyPost_ret (results_tmp rfl _ _ _) rfl ?_
    exact ⟨rfl, World.grownBy.refl _ _, at_, hat, HR.out, rfl⟩
  · have he0 : e = 0 := by omega
    subst he0
    rw [rCount, if_neg he]
    clear he
    obtain ⟨⟨v, k, x⟩, hr⟩ : ∃ r, rdN ((bl b).drop at_) 0 0 = r := ⟨_, rfl⟩
    simp only [hr]
    have HR := Lib.hid h
    have HRD := Lib.hid hr
    have f0 := h.froz 0
    have f2 := h.froz 2
    obtain ⟨c0, c1, c2⟩ := h.cells
    clear h hr
    by_cases hx : x ≠ 0
    · have hc : cErr most (v, k, x) = x := by unfold cErr; rw [if_pos hx]
      rw [hc, if_pos hx]
      have HX := Lib.hid hx
      have hb1 : (x == 0) = false := by simpa using hx
      have hb2 : (x != 0) = true := by simpa using hx
      clear hx hc
      go_enter Tryz.func141, Tryz.ntmps141
      go_wp2_with (first
        | (go_at_call 138; refine (off_no _ _ _ _ HR.out).mono ?_; rintro e1 w1 ⟨rfl, rfl⟩)
        | (go_at_call 139; refine (rnum_bad _ _ _ _ _ HR.out hat hb v x k HX.out HRD.out).mono ?_; rintro e1 w1 ⟨rfl, n1, rfl⟩)
        | (go_at_call 135; refine (fail_any p x (w.drewN n1) c0 f0).mono ?_; rintro e1 w1 ⟨⟨u, rfl⟩, rfl⟩))
      refine bodyPost_ret (results_tmp rfl _ _ _) rfl ?_
      exact ⟨rfl, only_set (only_drewN (World.grownBy.refl _ _) _) _, at_, hat, (HR.out.drewN n1).setE, rfl⟩
    · have hx0 : x = 0 := by omega
      subst hx0
      clear hx
      by_cases h1 : v > most
      · have hc : cErr most (v, k, 0) = 2 := by unfold cErr; rw [if_neg (by simp), if_pos h1]
        rw [hc, if_pos (by decide)]
        clear hc
        go_enter Tryz.func141, Tryz.ntmps141
        go_wp2_with (first
          | (go_at_call 138; refine (off_no _ _ _ _ HR.out).mono ?_; rintro e1 w1 ⟨rfl, rfl⟩)
          | (go_at_call 139; refine (rnum_ok _ _ _ _ _ HR.out hat hb v k HRD.out).mono ?_; rintro e1 w1 ⟨rfl, n1, rfl⟩)
          | (go_at_call 135; refine (fail_any p 2 (w.drewN n1) c0 f0).mono ?_; rintro e1 w1 ⟨⟨u, rfl⟩, rfl⟩))
        refine bodyPost_ret (results_tmp rfl _ _ _) rfl ?_
        exact ⟨rfl, only_set (only_drewN (World.grownBy.refl _ _) _) _, at_, hat, (HR.out.drewN n1).setE, rfl⟩
      · by_cases h2 : v < 0
        · have hc : cErr most (v, k, 0) = 4 := by unfold cErr; rw [if_neg (by simp), if_neg h1, if_pos h2]
          rw [hc, if_pos (by decide)]
          clear hc
          go_enter Tryz.func141, Tryz.ntmps141
          go_wp2_with (first
            | (go_at_call 138; refine (off_no _ _ _ _ HR.out).mono ?_; rintro e1 w1 ⟨rfl, rfl⟩)
            | (go_at_call 139; refine (rnum_ok _ _ _ _ _ HR.out hat hb v k HRD.out).mono ?_; rintro e1 w1 ⟨rfl, n1, rfl⟩)
            | (go_at_call 135; refine (fail_any p 4 (w.drewN n1) c0 f0).mono ?_; rintro e1 w1 ⟨⟨u, rfl⟩, rfl⟩))
          refine bodyPost_ret (results_tmp rfl _ _ _) rfl ?_
          exact ⟨rfl, only_set (only_drewN (World.grownBy.refl _ _) _) _, at_, hat, (HR.out.drewN n1).setE, rfl⟩
        · have hc : cErr most (v, k, 0) = 0 := by unfold cErr; rw [if_neg (by simp), if_neg h1, if_neg h2]
          rw [hc, if_neg (by decide)]
          clear hc
          go_enter Tryz.func141, Tryz.ntmps141
          go_wp2_with (first
            | (go_at_call 138; refine (off_no _ _ _ _ HR.out).mono ?_; rintro e1 w1 ⟨rfl, rfl⟩)
            | (go_at_call 139; refine (rnum_ok _ _ _ _ _ HR.out hat hb v k HRD.out).mono ?_; rintro e1 w1 ⟨rfl, n1, rfl⟩))
          go_ret
          have hk := rd_le HRD.out
          rw [bl_drop_len] at hk
          have h9 := (HR.out.drewN n1).setAt (at_ + k)
          exact ⟨rfl, only_set (only_drewN (World.grownBy.refl _ _) _) _, at_ + k, by omega, h9, by simp [List.drop_drop]⟩
theorem left_any (p : Nat) (e : Int) (b : ByteArray) (at_ : Nat) (w : World) (h : Rd p e b at_ w) (hat : at_ ≤ b.size) (hb : b.size ≤ 1000000000000) :
    Calls Tryz.prog 142 #[.pointer (some ⟨p, 0, none⟩)] w fun en w' => en = .returned (.int .i64 ((b.size : Int) - at_)) ∧ ∃ n, w' = w.drewN n := by
  obtain ⟨c0, c1, c2⟩ := h.cells
  clear h
  go_enter Tryz.func142, Tryz.ntmps142
  go_wp2_with fail
  have q1 : IntKind.i64.wrap ((b.size : Int) - at_) = (b.size : Int) - at_ := IntWalk.i64_in _ (by omega)
  go_quiet (fail)
  clear q1
  go_wp2_with fail
  go_ret
  exact ⟨rfl, _, rfl⟩
theorem drop_nil_iff (b : ByteArray) (i : Nat) : (bl b).drop i = [] ↔ b.size ≤ i := by
  rw [List.drop_eq_nil_iff, bl, Array.length_toList]
  exact Iff.rfl
set_option maxHeartbeats 1000000 in
theorem end_any (p : Nat) (e : Int) (b : ByteArray) (at_ : Nat) (w : World) (h : Rd p e b at_ w) (hat : at_ ≤ b.size) (hb : b.size ≤ 1000000000000) :
    Calls Tryz.prog 44 #[.pointer (some ⟨p, 0, none⟩)] w fun en w' => en = .returned (.int .i64 (rEnd ⟨e, (bl b).drop at_⟩)) ∧ ∃ n, w' = w.drewN n := by
  have d0 := h.cells.1
  have HR := Lib.hid h
  clear h
  by_cases he : e ≠ 0
  · rw [rEnd, if_pos he]
    have hb1 : (e == 0) = false := by simpa using he
    have hb2 : (e != 0) = true := by simpa using he
    clear he
    go_enter Tryz.func44, Tryz.ntmps44
    go_wp2_with (go_at_call 133; refine (wrong_any _ _ _ d0).mono ?_; rintro e1 w1 ⟨rfl, rfl⟩)
    refine bodyPost_ret (results_tmp rfl _ _ _) rfl ?_
    exact ⟨rfl, 0, rfl⟩
  · have he0 : e = 0 := by omega
    subst he0
    rw [rEnd, if_neg he]
    clear he
    by_cases hl : b.size ≤ at_
    · rw [if_neg (by simp only [ne_eq, Decidable.not_not]; exact (drop_nil_iff b at_).2 hl)]
      have hle : (b.size : Int) - at_ ≤ 0 := by omega
      go_enter Tryz.func44, Tryz.ntmps44
      go_wp2_with (first
        | (go_at_call 133; refine (wrong_any _ _ _ d0).mono ?_; rintro e1 w1 ⟨rfl, rfl⟩)
        | (go_at_call 142; refine (left_any _ _ _ _ _ HR.out hat hb).mono ?_; rintro e1 w1 ⟨rfl, n1, rfl⟩))
      first | go_ret | refine bodyPost_ret (results_tmp rfl _ _ _) rfl ?_
      exact ⟨rfl, n1, rfl⟩
    · rw [if_pos (by intro h0; exact hl ((drop_nil_iff b at_).1 h0))]
      have hle : 0 < (b.size : Int) - at_ := by omega
      go_enter Tryz.func44, Tryz.ntmps44
      go_wp2_with (first
        | (go_at_call 133; refine (wrong_any _ _ _ d0).mono ?_; rintro e1 w1 ⟨rfl, rfl⟩)
        | (go_at_call 142; refine (left_any _ _ _ _ _ HR.out hat hb).mono ?_; rintro e1 w1 ⟨rfl, n1, rfl⟩))
      first | go_ret | refine bodyPost_ret (results_tmp rfl _ _ _) rfl ?_
      exact ⟨rfl, n1, rfl⟩
end Go.Proofs.YthlpdficpmdebaaGreat.Wire
