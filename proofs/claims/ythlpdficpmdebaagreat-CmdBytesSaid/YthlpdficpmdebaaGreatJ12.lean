/- complineref1.num reads a number. -/
import Derived.Test.YthlpdficpmdebaaGreatJ7
namespace Go.Proofs.YthlpdficpmdebaaGreat.Wire
open Go Go.RowKit Go.Lib
theorem unzz_sub {A : Nat} (h : A < 18446744073709551616) (h1 : ¬ A % 2 = 1) : wrap64 ((A : Int) / 2) = unzz A := by
  rw [w64, IntKind.wrap_i64]; unfold unzz; split <;> omega
theorem unzz_neg {A : Nat} (h : A < 18446744073709551616) (h1 : A % 2 = 1) : wrap64 (wrap64 (-wrap64 ((A : Int) / 2)) - 1) = unzz A := by
  simp only [w64, IntKind.wrap_i64]; unfold unzz; split <;> omega
theorem acc_sum {k a c U : Nat} (hU : U = 2 ^ (7 * k)) (hk : k ≤ 9) (ha : a < U) (h9 : k = 9 → c ≤ 1) :
    IntKind.u64.wrap ((a : Int) + IntKind.u64.wrap (((c : Int) % 128) * (U : Int))) = ((a + c % 128 * U : Nat) : Int) := by
  subst hU
  have h2 := acc_lt64 (c := c) hk ha h9
  have e : ((c : Int) % 128) * ((2 ^ (7 * k) : Nat) : Int) = ((c % 128 * 2 ^ (7 * k) : Nat) : Int) := by
    rw [Int.natCast_mul]; rfl
  rw [e, wrap_u64', wrap_u64']
  generalize c % 128 * 2 ^ (7 * k) = x at h2
  omega
theorem unit_next {k U : Nat} (hU : U = 2 ^ (7 * k)) (hk : k < 9) : IntKind.u64.wrap ((U : Int) * 128) = ((2 ^ (7 * (k + 1)) : Nat) : Int) := by
  have h := pow_le63 (k := k + 1) (by omega)
  have h1 := pow_step k
  rw [← hU] at h1
  rw [h1] at h ⊢
  rw [wrap_u64']
  omega
def NumD (b : ByteArray) (w : World) (en : Ending) (w' : World) : Prop := en = .returned (.tuple #[.int .i64 (rdN (bl b) 0 0).1, .int .i64 ((rdN (bl b) 0 0).2.1 : Nat), .int .i64 (rdN (bl b) 0 0).2.2]) ∧ w = w'
theorem NumD.mk {b : ByteArray} {w : World} {en : Ending} {v e x : Int} {k : Nat} (hE : rdN (bl b) 0 0 = (v, k, e)) (hx : x = (k : Int)) (hen : en = .returned (.tuple #[.int .i64 v, .int .i64 x, .int .i64 e])) : NumD b w en w := by
  refine ⟨?_, rfl⟩
  rw [hE, hen, hx]
set_option maxRecDepth 20000 in
set_option maxHeartbeats 2000000 in
theorem rrnum_any (b : ByteArray) (w : World) (hb : b.size ≤ 1000000000000) :
    Calls Tryz.prog 143 #[.string b] w (NumD b w) := by
  go_enter Tryz.func143, Tryz.ntmps143
  go_wp2_with fail
  go_loopw [5, 6, 7] (fun u unit i wr => ∃ (k a U : Nat), i = .int .i64 k ∧ u = .int .u64 a ∧ unit = .int .u64 U ∧ U = 2 ^ (7 * k) ∧ k ≤ 9 ∧ k ≤ b.size ∧ a < U ∧ rdN ((bl b).drop k) k a = rdN (bl b) 0 0 ∧ w = wr) (fun _ _ i _ => 10 - (intOf i).toNat)
  case atStart => exact ⟨0, 0, 1, rfl, rfl, rfl, rfl, by omega, by omega, by omega, rfl, rfl⟩
  case round =>
    obtain ⟨k, a, U, rfl, rfl, rfl, hU, hk, hks, ha, hr, rfl⟩ := hrel
    have HU := Lib.hid hU
    have HA := Lib.hid ha
    have HE := Lib.hid hr
    clear ha hr hU
    by_cases hend : k = b.size
    · have hge : (b.size : Int) ≤ k := by omega
      have HEND := Lib.hid hend
      clear hend
      go_wp2_with fail
      refine bodyPost_ret (results_tmp3 rfl _ _ _) rfl ?_
      exact NumD.mk (v := 0) (k := 0) (e := 5) (by rw [← HE.out, bl, drop_end HEND.out]; exact rdN_nil (by omega)) rfl rfl
    · have hlt : (k : Int) < b.size := by omega
      have hlt2 : k < b.size := by omega
      have HLT := Lib.hid hlt2
      clear hend
      obtain ⟨c, hcc⟩ : ∃ c, b[k]'hlt2 = c := ⟨_, rfl⟩
      have HCC := Lib.hid hcc
      have hc8 : c.toNat < 256 := c.toNat_lt
      have HC8 := Lib.hid hc8
      have HD0 : Hid (rdN (bl b) 0 0 = rdN (c :: (bl b).drop (k + 1)) k a) := Lib.hid (by rw [← HE.out, bl, drop_cons HLT.out, HCC.out])
      clear hc8
      by_cases hA : k = 9 ∧ 1 < c.toNat
      · obtain ⟨hA1, hA2⟩ := hA
        have hb9 : ((k : Int) == 9) = true := by simp; omega
        have hc1 : (1 : Int) < c.toNat := by omega
        have HA1 := Lib.hid hA1
        have HA2 := Lib.hid hA2
        clear hA1 hA2
        go_wp2_with fail
        refine bodyPost_ret (results_tmp3 rfl _ _ _) rfl ?_
        exact NumD.mk (v := 0) (k := 0) (e := 4) (by have h1 := HA1.out; subst h1; rw [HD0.out]; exact rdN_nine HA2.out) rfl rfl
      · have h9 : k = 9 → c.toNat ≤ 1 := fun h => by omega
        have HS := Lib.hid (acc_sum HU.out hk HA.out h9)
        have HA64 := Lib.hid (acc_lt64 (c := c.toNat) hk (by rw [← HU.out]; exact HA.out) h9)
        have HALT := Lib.hid (acc_lt (c := c.toNat) (k := k) (by rw [← HU.out]; exact HA.out))
        rw [← HU.out] at HA64 HALT
        obtain ⟨A, hA'⟩ : ∃ A, a + c.toNat % 128 * U = A := ⟨_, rfl⟩
        rw [hA'] at HS HA64 HALT
        have HAA := Lib.hid hA'
        have H9 := Lib.hid h9
        clear hA hA' h9
        by_cases hm : 128 ≤ c.toNat
        · have hm1 : ¬ ((c.toNat : Int) < 128) := by omega
          have HM := Lib.hid hm
          have hk9 : k < 9 := by
            rcases Nat.lt_or_ge k 9 with h | h
            · exact h
            · have := H9.out (by omega); omega
          have hb9 : ((k : Int) == 9) = false := by simp; omega
          have HUN := Lib.hid (unit_next HU.out hk9)
          clear hm
          go_wp2_with fail
          rw [HS.out, HUN.out]
          go_roundw
          case rel =>
            refine ⟨k + 1, A, 2 ^ (7 * (k + 1)), by go_num, rfl, rfl, rfl, by omega, by have := HLT.out; omega, HALT.out, ?_, by first | rfl | trivial⟩
            rw [← HAA.out, HU.out, ← rdN_next hk9 HM.out, ← HD0.out]
          case measure => simp [intOf]; omega
        · have hm1 : (c.toNat : Int) < 128 := by omega
          have HM : Hid (c.toNat < 128) := Lib.hid (by omega)
          have hcn : ((k : Int) == 9) = false ∨ (((k : Int) == 9) = true ∧ ¬ (1 : Int) < c.toNat) := by
            by_cases h : k = 9
            · exact .inr ⟨by simp; omega, by have := H9.out h; omega⟩
            · exact .inl (by simp; omega)
          clear hm
          by_cases hz : c.toNat = 0 ∧ 0 < k
          · obtain ⟨hz1, hz2⟩ := hz
            have HZ1 := Lib.hid hz1
            have HZ2 := Lib.hid hz2
            have hz3 : ((c.toNat : Int) == 0) = true := by simp; omega
            have hz4 : (0 : Int) < k := by omega
            clear hz1 hz2
            rcases hcn with hb9 | ⟨hb9, hc1⟩
            all_goals
              go_wp2_with fail
              refine bodyPost_ret (results_tmp3 rfl _ _ _) rfl ?_
              exact NumD.mk (v := 0) (k := 0) (e := 4) (by rw [HD0.out]; exact rdN_zero hk HZ1.out HZ2.out) rfl rfl
          · have HZ := Lib.hid hz
            have hzz : ((0 : Int) < k ∧ ((c.toNat : Int) == 0) = false) ∨ ¬ (0 : Int) < k := by
              by_cases h : k = 0
              · exact .inr (by omega)
              · exact .inl ⟨by omega, by simp; omega⟩
            have HDN : Hid (rdN (bl b) 0 0 = (unzz A, k + 1, 0)) := Lib.hid (by rw [HD0.out, rdN_done hk H9.out HM.out HZ.out, ← HU.out, HAA.out])
            have HQ1 : Hid (IntKind.u64.wrap ((A : Int).tdiv 2) = (A : Int) / 2) := Lib.hid (by rw [Int.tdiv_eq_ediv_of_nonneg (by omega), wrap_u64']; have := HA64.out; omega)
            have q2 : (A : Int).tmod 2 = (A : Int) % 2 := Int.tmod_eq_emod_of_nonneg (by omega)
            clear hz
            by_cases hodd : A % 2 = 1
            · have HO := Lib.hid hodd
              have ho : ((IntKind.u64.wrap ((a : Int) + IntKind.u64.wrap ((c.toNat : Int) % 128 * (U : Int)))).tmod 2 == 1) = true := by rw [HS.out, q2]; simp; omega
              clear hodd q2
              rcases hcn with hb9 | ⟨hb9, hc1⟩ <;> rcases hzz with ⟨hz4, hz3⟩ | hz4
              all_goals
                go_wp2_with fail
                refine bodyPost_ret (results_tmp3 rfl _ _ _) rfl ?_
                refine NumD.mk (x := (k : Int) + 1) HDN.out (by omega) ?_
                rw [HS.out, HQ1.out, unzz_neg HA64.out HO.out]
                rfl
            · have HO := Lib.hid hodd
              have ho : ((IntKind.u64.wrap ((a : Int) + IntKind.u64.wrap ((c.toNat : Int) % 128 * (U : Int)))).tmod 2 == 1) = false := by rw [HS.out, q2]; simp; omega
              clear hodd q2
              rcases hcn with hb9 | ⟨hb9, hc1⟩ <;> rcases hzz with ⟨hz4, hz3⟩ | hz4
              all_goals
                go_wp2_with fail
                refine bodyPost_ret (results_tmp3 rfl _ _ _) rfl ?_
                refine NumD.mk (x := (k : Int) + 1) HDN.out (by omega) ?_
                rw [HS.out, HQ1.out, unzz_sub HA64.out HO.out]
                rfl
end Go.Proofs.YthlpdficpmdebaaGreat.Wire
/- (*complineref1.Reader).Fail, Num, Count, Text. -/
namespace Go.Proofs.YthlpdficpmdebaaGreat.Wire
open Go Go.RowKit Go.Lib
/-- The document's reader at block p. -/
def RRd (p : Nat) (e : Int) (b : ByteArray) (w : World) : Prop := w.heap[p]? = some (.cells #[.string b, .int .i64 e] 108 (0, 0))
theorem RRd.cells {p : Nat} {e : Int} {b : ByteArray} {w : World} (h : RRd p e b w) : w.cell? ⟨p, 0, none⟩ = some (.string b) ∧ w.cell? ⟨p, 1, none⟩ = some (.int .i64 e) := by
  refine ⟨?_, ?_⟩ <;> (rw [cell_p h]; rfl)
theorem RRd.froz {p : Nat} {e : Int} {b : ByteArray} {w : World} (h : RRd p e b w) (i : Nat) : w.frozen? ⟨p, i, none⟩ = false := frozen_p h
theorem RRd.setE {p : Nat} {e x : Int} {b : ByteArray} {w : World} (h : RRd p e b w) : RRd p x b (w.setCell ⟨p, 1, none⟩ (.int .i64 x)) := Go.Lib.heap_setCell_same (i := 1) h _
theorem RRd.setB {p : Nat} {e : Int} {b : ByteArray} {w : World} (h : RRd p e b w) (c : ByteArray) : RRd p e c (w.setCell ⟨p, 0, none⟩ (.string c)) := Go.Lib.heap_setCell_same (i := 0) h _
/-- Where the document's reader stands behind a call. -/
def RREnd (p : Nat) (v : Value) (s : RS) (w : World) (en : Ending) (w' : World) : Prop :=
  en = .returned v ∧ w.grownBy w' (some p) ∧ ∃ b : ByteArray, RRd p s.e b w' ∧ bl b = s.l
theorem rrfail_ok (p : Nat) (x : Int) (b : ByteArray) (w : World) (h : RRd p 0 b w) :
    Calls Tryz.prog 144 #[.pointer (some ⟨p, 0, none⟩), .int .i64 x] w fun en w' => (∃ u, en = .returned u) ∧ w.setCell ⟨p, 1, none⟩ (.int .i64 x) = w' := by
  obtain ⟨c0, c1⟩ := h.cells
  have f1 := h.froz 1
  clear h
  go_enter Tryz.func144, Tryz.ntmps144
  go_wp2
  go_end0
  exact ⟨⟨_, rfl⟩, rfl⟩
theorem drop_extract (b : ByteArray) (k : Nat) : bl (b.extract k b.size) = (bl b).drop k := by
  have h : (b.data.toList.drop k).length ≤ b.size - k := by rw [List.length_drop, Array.length_toList]; exact Nat.le_refl _
  unfold bl
  rw [ByteArray.data_extract, Array.toList_extract, List.extract_eq_take_drop]
  exact List.take_of_length_le h
set_option maxRecDepth 20000 in
set_option maxHeartbeats 1000000 in
theorem rrNum_any (p : Nat) (e : Int) (b : ByteArray) (w : World) (h : RRd p e b w) (hb : b.size ≤ 1000000000000) :
    Calls Tryz.prog 45 #[.pointer (some ⟨p, 0, none⟩)] w (RREnd p (.int .i64 (rNum ⟨e, bl b⟩).1) (rNum ⟨e, bl b⟩).2 w) := by
  obtain ⟨c0, c1⟩ := h.cells
  have f0 := h.froz 0
  have HR := Lib.hid h
  clear h
  by_cases he : e ≠ 0
  · rw [rNum, if_pos he]
    have hb2 : (e != 0) = true := by simpa using he
    clear he
    go_enter Tryz.func45, Tryz.ntmps45
    go_wp2_with fail
    refine bodyPost_ret (results_tmp rfl _ _ _) rfl ?_
    exact ⟨rfl, World.grownBy.refl _ _, b, HR.out, rfl⟩
  · have he0 : e = 0 := by omega
    subst he0
    rw [rNum, if_neg he]
    clear he
    have HN := Lib.hid (rrnum_any b w hb)
    obtain ⟨⟨v, k, x⟩, hr⟩ : ∃ r, rdN (bl b) 0 0 = r := ⟨_, rfl⟩
    simp only [hr]
    have HN : Hid (Calls Tryz.prog 143 #[.string b] w fun en w' => en = .returned (.tuple #[.int .i64 v, .int .i64 (k : Int), .int .i64 x]) ∧ w = w') := Lib.hid (HN.out.mono fun en w' h => by unfold NumD at h; rw [hr] at h; exact h)
    have HRD := Lib.hid hr
    clear hr
    by_cases hx : x ≠ 0
    · rw [if_pos hx]
      have hb1 : (x == 0) = false := by simpa using hx
      have hb2 : (x != 0) = true := by simpa using hx
      clear hx
      go_enter Tryz.func45, Tryz.ntmps45
      go_wp2_with (first
        | (go_at_call 143; refine HN.out.mono ?_; rintro e1 w1 ⟨rfl, rfl⟩)
        | (go_at_call 144; refine (rrfail_ok p x b _ HR.out).mono ?_; rintro e1 w1 ⟨⟨u, rfl⟩, rfl⟩))
      refine bodyPost_ret (results_tmp rfl _ _ _) rfl ?_
      exact ⟨rfl, only_set (World.grownBy.refl _ _) _, b, HR.out.setE, rfl⟩
    · have hx0 : x = 0 := by omega
      subst hx0
      rw [if_neg hx]
      have hk := rd_le HRD.out
      rw [show (bl b).length = b.size from by rw [bl, Array.length_toList]; rfl] at hk
      have HK := Lib.hid hk
      have hsl : ∀ W : World, (Instr.slice 9 (.string b) (some (.int .i64 (k : Int))) none none).run Tryz.prog W = .ok (.string (b.extract k b.size)) W := fun W => by
        have h := run_slice_string_from_if (P := Tryz.prog) W 9 b .i64 (k : Int) Tryz.underlying9
        rw [if_pos ⟨by omega, by have := HK.out; omega⟩, show ((k : Int)).toNat = k from by omega] at h
        exact h
      clear hx hk
      go_enter Tryz.func45, Tryz.ntmps45
      go_wp2_with (go_at_call 143; refine HN.out.mono ?_; rintro e1 w1 ⟨rfl, rfl⟩)
      refine bodyPost_ret (results_tmp rfl _ _ _) rfl ?_
      exact ⟨rfl, only_set (World.grownBy.refl _ _) _, _, HR.out.setB _, drop_extract b k⟩
set_option maxRecDepth 20000 in
set_option maxHeartbeats 1000000 in
theorem rrCount_any (p : Nat) (e most : Int) (b : ByteArray) (w : World) (h : RRd p e b w) (hb : b.size ≤ 1000000000000) :
    Calls Tryz.prog 145 #[.pointer (some ⟨p, 0, none⟩), .int .i64 most] w (RREnd p (.int .i64 (rCount most ⟨e, bl b⟩).1) (rCount most ⟨e, bl b⟩).2 w) := by
  obtain ⟨c0, c1⟩ := h.cells
  have f0 := h.froz 0
  have HR := Lib.hid h
  clear h
  by_cases he : e ≠ 0
  · rw [rCount, if_pos he]
    have hb2 : (e != 0) = true := by simpa using he
    clear he
    go_enter Tryz.func145, Tryz.ntmps145
    go_wp2_with fail
    refine bodyPost_ret (results_tmp rfl _ _ _) rfl ?_
    exact ⟨rfl, World.grownBy.refl _ _, b, HR.out, rfl⟩
  · have he0 : e = 0 := by omega
    subst he0
    rw [rCount, if_neg he]
    clear he
    have HN := Lib.hid (rrnum_any b w hb)
    obtain ⟨⟨v, k, x⟩, hr⟩ : ∃ r, rdN (bl b) 0 0 = r := ⟨_, rfl⟩
    simp only [hr]
    have HN : Hid (Calls Tryz.prog 143 #[.string b] w fun en w' => en = .returned (.tuple #[.int .i64 v, .int .i64 (k : Int), .int .i64 x]) ∧ w = w') := Lib.hid (HN.out.mono fun en w' h => by unfold NumD at h; rw [hr] at h; exact h)
    have HRD := Lib.hid hr
    clear hr
    by_cases hx : x ≠ 0
    · have hc : cErr most (v, k, x) = x := by unfold cErr; rw [if_pos hx]
      rw [hc, if_pos hx]
      have hb1 : (x == 0) = false := by simpa using hx
      have hb2 : (x != 0) = true := by simpa using hx
      clear hx hc
      go_enter Tryz.func145, Tryz.ntmps145
      go_wp2_with (first
        | (go_at_call 143; refine HN.out.mono ?_; rintro e1 w1 ⟨rfl, rfl⟩)
        | (go_at_call 144; refine (rrfail_ok p x b _ HR.out).mono ?_; rintro e1 w1 ⟨⟨u, rfl⟩, rfl⟩))
      refine bodyPost_ret (results_tmp rfl _ _ _) rfl ?_
      exact ⟨rfl, only_set (World.grownBy.refl _ _) _, b, HR.out.setE, rfl⟩
    · have hx0 : x = 0 := by omega
      subst hx0
      clear hx
      by_cases h1 : v > most
      · have hc : cErr most (v, k, 0) = 2 := by unfold cErr; rw [if_neg (by simp), if_pos h1]
        rw [hc, if_pos (by decide)]
        clear hc
        go_enter Tryz.func145, Tryz.ntmps145
        go_wp2_with (first
          | (go_at_call 143; refine HN.out.mono ?_; rintro e1 w1 ⟨rfl, rfl⟩)
          | (go_at_call 144; refine (rrfail_ok p 2 b _ HR.out).mono ?_; rintro e1 w1 ⟨⟨u, rfl⟩, rfl⟩))
        refine bodyPost_ret (results_tmp rfl _ _ _) rfl ?_
        exact ⟨rfl, only_set (World.grownBy.refl _ _) _, b, HR.out.setE, rfl⟩
      · by_cases h2 : v < 0
        · have hc : cErr most (v, k, 0) = 4 := by unfold cErr; rw [if_neg (by simp), if_neg h1, if_pos h2]
          rw [hc, if_pos (by decide)]
          clear hc
          go_enter Tryz.func145, Tryz.ntmps145
          go_wp2_with (first
            | (go_at_call 143; refine HN.out.mono ?_; rintro e1 w1 ⟨rfl, rfl⟩)
            | (go_at_call 144; refine (rrfail_ok p 4 b _ HR.out).mono ?_; rintro e1 w1 ⟨⟨u, rfl⟩, rfl⟩))
          refine bodyPost_ret (results_tmp rfl _ _ _) rfl ?_
          exact ⟨rfl, only_set (World.grownBy.refl _ _) _, b, HR.out.setE, rfl⟩
        · have hc : cErr most (v, k, 0) = 0 := by unfold cErr; rw [if_neg (by simp), if_neg h1, if_neg h2]
          rw [hc, if_neg (by decide)]
          have hk := rd_le HRD.out
          rw [show (bl b).length = b.size from by rw [bl, Array.length_toList]; rfl] at hk
          have HK := Lib.hid hk
          have hsl : ∀ W : World, (Instr.slice 9 (.string b) (some (.int .i64 (k : Int))) none none).run Tryz.prog W = .ok (.string (b.extract k b.size)) W := fun W => by
            have h := run_slice_string_from_if (P := Tryz.prog) W 9 b .i64 (k : Int) Tryz.underlying9
            rw [if_pos ⟨by omega, by have := HK.out; omega⟩, show ((k : Int)).toNat = k from by omega] at h
            exact h
          clear hc hk
          go_enter Tryz.func145, Tryz.ntmps145
          go_wp2_with (go_at_call 143; refine HN.out.mono ?_; rintro e1 w1 ⟨rfl, rfl⟩)
          refine bodyPost_ret (results_tmp rfl _ _ _) rfl ?_
          exact ⟨rfl, only_set (World.grownBy.refl _ _) _, _, HR.out.setB _, drop_extract b k⟩
set_option maxRecDepth 20000 in
set_option maxHeartbeats 1000000 in
theorem rrText_any (p : Nat) (e : Int) (b : ByteArray) (w : World) (h : RRd p e b w) (hb : b.size ≤ 1000000000000) :
    Calls Tryz.prog 46 #[.pointer (some ⟨p, 0, none⟩)] w (RREnd p (.string ⟨(rText ⟨e, bl b⟩).1.toArray⟩) (rText ⟨e, bl b⟩).2 w) := by
  obtain ⟨c0, c1⟩ := h.cells
  have f0 := h.froz 0
  have HR := Lib.hid h
  clear h
  by_cases he : e ≠ 0
  · rw [rText, if_pos he]
    have hb2 : (e != 0) = true := by simpa using he
    clear he
    go_enter Tryz.func46, Tryz.ntmps46
    go_wp2_with fail
    refine bodyPost_ret (results_tmp rfl _ _ _) rfl ?_
    exact ⟨rfl, World.grownBy.refl _ _, b, HR.out, rfl⟩
  · have he0 : e = 0 := by omega
    subst he0
    rw [rText, if_neg he]
    clear he
    have HN := Lib.hid (rrnum_any b w hb)
    obtain ⟨⟨v, k, x⟩, hr⟩ : ∃ r, rdN (bl b) 0 0 = r := ⟨_, rfl⟩
    simp only [hr]
    have HN : Hid (Calls Tryz.prog 143 #[.string b] w fun en w' => en = .returned (.tuple #[.int .i64 v, .int .i64 (k : Int), .int .i64 x]) ∧ w = w') := Lib.hid (HN.out.mono fun en w' h => by unfold NumD at h; rw [hr] at h; exact h)
    have HRD := Lib.hid hr
    clear hr
    by_cases hx : x ≠ 0
    · have hc : tErr (bl b).length (v, k, x) = x := by unfold tErr; rw [if_pos hx]
      rw [hc, if_pos hx]
      have hb1 : (x == 0) = false := by simpa using hx
      have hb2 : (x != 0) = true := by simpa using hx
      clear hx hc
      go_enter Tryz.func46, Tryz.ntmps46
      go_wp2_with (first
        | (go_at_call 143; refine HN.out.mono ?_; rintro e1 w1 ⟨rfl, rfl⟩)
        | (go_at_call 144; refine (rrfail_ok p x b _ HR.out).mono ?_; rintro e1 w1 ⟨⟨u, rfl⟩, rfl⟩))
      refine bodyPost_ret (results_tmp rfl _ _ _) rfl ?_
      exact ⟨rfl, only_set (World.grownBy.refl _ _) _, b, HR.out.setE, rfl⟩
    · have hx0 : x = 0 := by omega
      subst hx0
      clear hx
      by_cases h1 : v > 1000
      · have hc : tErr (bl b).length (v, k, 0) = 2 := by unfold tErr; rw [if_neg (by simp), if_pos h1]
        rw [hc, if_pos (by decide)]
        clear hc
        go_enter Tryz.func46, Tryz.ntmps46
        go_wp2_with (first
          | (go_at_call 143; refine HN.out.mono ?_; rintro e1 w1 ⟨rfl, rfl⟩)
          | (go_at_call 144; refine (rrfail_ok p 2 b _ HR.out).mono ?_; rintro e1 w1 ⟨⟨u, rfl⟩, rfl⟩))
        refine bodyPost_ret (results_tmp rfl _ _ _) rfl ?_
        exact ⟨rfl, only_set (World.grownBy.refl _ _) _, b, HR.out.setE, rfl⟩
      · by_cases h2 : v < 0
        · have hc : tErr (bl b).length (v, k, 0) = 4 := by unfold tErr; rw [if_neg (by simp), if_neg h1, if_pos h2]
          rw [hc, if_pos (by decide)]
          clear hc
          go_enter Tryz.func46, Tryz.ntmps46
          go_wp2_with (first
            | (go_at_call 143; refine HN.out.mono ?_; rintro e1 w1 ⟨rfl, rfl⟩)
            | (go_at_call 144; refine (rrfail_ok p 4 b _ HR.out).mono ?_; rintro e1 w1 ⟨⟨u, rfl⟩, rfl⟩))
          refine bodyPost_ret (results_tmp rfl _ _ _) rfl ?_
          exact ⟨rfl, only_set (World.grownBy.refl _ _) _, b, HR.out.setE, rfl⟩
        · have hln : (bl b).length = b.size := by rw [bl, Array.length_toList]; rfl
          have hk := rd_le HRD.out
          rw [hln] at hk
          obtain ⟨nv, hnv⟩ : ∃ nv : Nat, v = nv := ⟨v.toNat, by omega⟩
          subst hnv
          by_cases h3 : (nv : Int) > (b.size : Int) - k
          · have hc : tErr (bl b).length ((nv : Int), k, 0) = 5 := by
              unfold tErr
              rw [if_neg (by simp), if_neg h1, if_neg h2, if_pos (by rw [hln]; exact h3)]
            rw [hc, if_pos (by decide)]
            have hkI : (k : Int) ≤ b.size := by omega
            clear hc hk hln
            go_enter Tryz.func46, Tryz.ntmps46
            go_wp2_with (first
              | (go_at_call 143; refine HN.out.mono ?_; rintro e1 w1 ⟨rfl, rfl⟩)
              | (go_at_call 144; refine (rrfail_ok p 5 b _ HR.out).mono ?_; rintro e1 w1 ⟨⟨u, rfl⟩, rfl⟩))
            refine bodyPost_ret (results_tmp rfl _ _ _) rfl ?_
            exact ⟨rfl, only_set (World.grownBy.refl _ _) _, b, HR.out.setE, rfl⟩
          · have hc : tErr (bl b).length ((nv : Int), k, 0) = 0 := by
              unfold tErr
              rw [if_neg (by simp), if_neg h1, if_neg h2, if_neg (by rw [hln]; exact h3)]
            rw [hc, if_neg (by decide)]
            have HK : Hid (k + nv ≤ b.size) := Lib.hid (by omega)
            have hsl1 : ∀ W : World, (Instr.slice 9 (.string b) (some (.int .i64 ((k : Int) + nv))) none none).run Tryz.prog W = .ok (.string (b.extract (k + nv) b.size)) W := fun W => by
              have h := run_slice_string_from_if (P := Tryz.prog) W 9 b .i64 ((k : Int) + nv) Tryz.underlying9
              rw [if_pos ⟨by omega, by have := HK.out; omega⟩, show ((k : Int) + nv).toNat = k + nv from by omega] at h
              exact h
            have hsl : ∀ W : World, (Instr.slice 9 (.string b) (some (.int .i64 (k : Int))) (some (.int .i64 ((k : Int) + nv))) none).run Tryz.prog W = .ok (.string (b.extract k (k + nv))) W := fun W => by
              have h := run_slice_string (P := Tryz.prog) W 9 b .i64 .i64 (k : Int) ((k : Int) + nv) Tryz.underlying9 (by omega) (by omega) (by have := HK.out; omega)
              rw [show ((k : Int)).toNat = k from by omega, show ((k : Int) + nv).toNat = k + nv from by omega] at h
              exact h
            clear hc hk hln
            go_enter Tryz.func46, Tryz.ntmps46
            go_wp2_with (go_at_call 143; refine HN.out.mono ?_; rintro e1 w1 ⟨rfl, rfl⟩)
            refine bodyPost_ret (results_tmp rfl _ _ _) rfl ?_
            refine ⟨?_, only_set (World.grownBy.refl _ _) _, _, HR.out.setB _, ?_⟩
            · have h := extract_eq b 0 k nv
              simp only [Nat.zero_add, List.drop_zero] at h
              rw [h]
              rfl
            · rw [drop_extract]
              simp [List.drop_drop]
end Go.Proofs.YthlpdficpmdebaaGreat.Wire
