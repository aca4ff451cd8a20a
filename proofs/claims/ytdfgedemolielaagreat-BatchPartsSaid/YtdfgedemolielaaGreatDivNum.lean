/- money.MulDiv: a contract, and a hook at numbers. -/
import Derived.Test.YtdfgedemolielaaGreatDivDone
namespace Go.Proofs.YtdfgedemolielaaGreat
open Go Go.RowKit Gv
def dsBd : List (Int × Int) := [(0, 18446744073709551615), (1, 18446744073709551615), (0, 18446744073709551615), (0, 18446744073709551615)]
def dsNl : List NL := [⟨1, .u64, (0,[(0,1)]), (0,[(1,1)]), 2⟩, ⟨2, .u64, (0,[(0,1)]), (0,[(1,1)]), 3⟩]
theorem dsRun : ((callN (evE Tryz.prog (fun _ => none) dsBd [] dsNl) 10 447 [.int .u64 0, .sint .u64 0 [(0,1)], .sint .u64 0 [(1,1)]] H0).isV (.tuple [.sint .u64 0 [(2,1)], .sint .u64 0 [(3,1)]])) = true := by kernel_rfl
theorem div64_small (lo y : Int) (rlo : 0 ≤ lo ∧ lo ≤ 18446744073709551615) (ry : 1 ≤ y ∧ y ≤ 18446744073709551615) (w : World) :
    Calls Tryz.prog 447 #[.int .u64 0, .int .u64 lo, .int .u64 y] w fun e w' => e = .returned (.tuple #[.int .u64 (lo / y), .int .u64 (lo % y)]) ∧ Below w.heap.size w w' := by
  obtain ⟨q, hq⟩ : ∃ z : Int, z = lo / y := ⟨_, rfl⟩
  obtain ⟨r, hr⟩ : ∃ z : Int, z = lo % y := ⟨_, rfl⟩
  have rq : 0 ≤ q ∧ q ≤ 18446744073709551615 := by rw [hq]; exact ⟨Int.ediv_nonneg rlo.1 (by omega), Int.le_trans (Int.ediv_le_self _ rlo.1) rlo.2⟩
  have rr : 0 ≤ r ∧ r ≤ 18446744073709551615 := by
    rw [hr]
    have := Int.emod_nonneg lo (show y ≠ 0 by omega)
    have := Int.emod_lt_of_pos lo (show 0 < y by omega)
    omega
  rw [← hq, ← hr]
  obtain ⟨G, hG⟩ : ∃ G, G = mkGh [] [lo, y, q, r] rfl := ⟨_, rfl⟩
  have fy : (0 + (1 * y + 0) : Int) ≠ 0 := by omega
  have hrem : ((0 + (1 * lo + 0))).tmod (0 + (1 * y + 0)) = r := by
    simp only [Int.zero_add, Int.add_zero, Int.one_mul]
    rw [Int.tmod_eq_emod_of_nonneg rlo.1, hr]
  have F : Facts G dsBd [] dsNl := by
    rw [hG]
    exact ⟨⟨rlo, ry, rq, rr, trivial⟩, trivial, ⟨.inr (.inl ⟨rfl, fy, x1 rlo.1 hq.symm rq⟩), .inr (.inr (.inl ⟨rfl, fy, hrem⟩)), trivial⟩⟩
  exact run_val (G := G) progOkB F noHooks Tryz.func447 rfl (by rw [hG]; simp [concL, conc, den, mkGh]) dsRun (fun φ => by rw [hG]; simp [concL, conc, den, mkGh]) w
theorem div64_ok (hi lo y : Int) (rhi : 0 ≤ hi) (rlo : 0 ≤ lo ∧ lo ≤ 18446744073709551615) (ry : y ≤ 18446744073709551615) (hlt : hi < y) (w : World) :
    Calls Tryz.prog 447 #[.int .u64 hi, .int .u64 lo, .int .u64 y] w fun e w' => e = .returned (.tuple #[.int .u64 ((hi * 18446744073709551616 + lo) / y), .int .u64 ((hi * 18446744073709551616 + lo) % y)]) ∧ Below w.heap.size w w' := by
  by_cases h : hi = 0
  · subst h
    have := div64_small lo y rlo (by omega) w
    rwa [show (0 : Int) * 18446744073709551616 + lo = lo from by omega]
  · exact div64_big hi lo y (by omega) rlo (by omega) hlt w

def mmBd : List (Int × Int) := [(0, 9223372036854775807), (0, 9223372036854775807), (1, 9223372036854775807), (0, 18446744073709551615), (0, 18446744073709551615), (0, 18446744073709551615), (0, 18446744073709551615)]
def mmT : List HT := [⟨446, [.sint .u64 0 [(0,1)], .sint .u64 0 [(1,1)]], .tuple [.sint .u64 0 [(3,1)], .sint .u64 0 [(4,1)]]⟩, ⟨447, [.sint .u64 0 [(3,1)], .sint .u64 0 [(4,1)], .sint .u64 0 [(2,1)]], .tuple [.sint .u64 0 [(5,1)], .sint .u64 0 [(6,1)]]⟩]
def mmT1 : List HT := [⟨446, [.sint .u64 0 [(0,1)], .sint .u64 0 [(1,1)]], .tuple [.sint .u64 0 [(3,1)], .sint .u64 0 [(4,1)]]⟩]
def mmGe : Nat → List (Int × List (Nat × Int))
  | 0 => [(0,[(3,1),(2,-1)])]
  | 1 => [(-1,[(2,1),(3,-1)]), (-1152921504606846977,[(5,1)])]
  | _ => [(-1,[(2,1),(3,-1)]), (1152921504606846976,[(5,-1)])]
def mmA : List V := [.sint .i64 0 [(0,1)], .sint .i64 0 [(1,1)], .sint .i64 0 [(2,1)]]
theorem mmRun0 : ((callN (evE Tryz.prog (hkT mmT1) mmBd (mmGe 0) []) 10 386 mmA H0).isV (.tuple [.int .i64 0, .int .i64 12])) = true := by kernel_rfl
theorem mmRun1 : ((callN (evE Tryz.prog (hkT mmT) mmBd (mmGe 1) []) 10 386 mmA H0).isV (.tuple [.int .i64 0, .int .i64 12])) = true := by kernel_rfl
theorem mmRun2 : ((callN (evE Tryz.prog (hkT mmT) mmBd (mmGe 2) []) 10 386 mmA H0).isV (.tuple [.sint .i64 0 [(5,1)], .int .i64 0])) = true := by kernel_rfl
set_option maxRecDepth 100000 in
set_option maxHeartbeats 1000000 in
theorem mmuldiv_ok (a b c : Int) (ha : 0 ≤ a ∧ a ≤ 9223372036854775807) (hb : 0 ≤ b ∧ b ≤ 9223372036854775807) (hc : 1 ≤ c ∧ c ≤ 9223372036854775807) (w : World) :
    Calls Tryz.prog 386 #[.int .i64 a, .int .i64 b, .int .i64 c] w fun e w' => e = .returned (mdV a b c) ∧ Below w.heap.size w w' := by
  have hab : 0 ≤ a * b := Int.mul_nonneg ha.1 hb.1
  have hab2 : a * b ≤ 9223372036854775807 * 9223372036854775807 := Int.mul_le_mul ha.2 hb.2 hb.1 (by omega)
  obtain ⟨N, hN⟩ : ∃ z : Int, z = a * b := ⟨_, rfl⟩
  rw [← hN] at hab hab2
  obtain ⟨hi, hhi⟩ : ∃ z : Int, z = N / 18446744073709551616 := ⟨_, rfl⟩
  obtain ⟨lo, hlo⟩ : ∃ z : Int, z = N % 18446744073709551616 := ⟨_, rfl⟩
  have hNe : hi * 18446744073709551616 + lo = N := by omega
  have rhi : 0 ≤ hi ∧ hi ≤ 18446744073709551615 := by omega
  have rlo : 0 ≤ lo ∧ lo ≤ 18446744073709551615 := by omega
  obtain ⟨q, hq⟩ : ∃ z : Int, z = N / c := ⟨_, rfl⟩
  have hq1 : q * c ≤ N := by rw [hq]; exact div_lo (by omega)
  have hq2 : N < (q + 1) * c := by rw [hq]; exact div_hi (by omega)
  have hq0 : 0 ≤ q := by rw [hq]; exact Int.ediv_nonneg hab (by omega)
  have over : c ≤ hi → 1152921504606846976 < q := fun h => by
    have h1 : 18446744073709551616 * c ≤ N := by omega
    have h2 : 18446744073709551616 ≤ N / c := (Int.le_ediv_iff_mul_le (by omega)).2 h1
    omega
  have under : hi < c → q ≤ 18446744073709551615 := fun h => by
    have h1 : N < 18446744073709551616 * c := by omega
    have h2 : N / c < 18446744073709551616 := (Int.ediv_lt_iff_lt_mul (by omega)).2 h1
    omega
  obtain ⟨qq, hqq⟩ : ∃ z : Int, z = if hi < c then q else 0 := ⟨_, rfl⟩
  obtain ⟨rr, hrr⟩ : ∃ z : Int, z = N % c := ⟨_, rfl⟩
  have rrr : 0 ≤ rr ∧ rr ≤ 18446744073709551615 := by
    rw [hrr]
    have := Int.emod_nonneg N (show c ≠ 0 by omega)
    have := Int.emod_lt_of_pos N (show 0 < c by omega)
    omega
  have rqq : 0 ≤ qq ∧ qq ≤ 18446744073709551615 := by
    rw [hqq]
    by_cases h : hi < c
    · rw [if_pos h]; exact ⟨hq0, under h⟩
    · rw [if_neg h]; omega
  obtain ⟨G, hG⟩ : ∃ G, G = mkGh [] [a, b, c, hi, lo, qq, rr] rfl := ⟨_, rfl⟩
  have s0 : G.σ 0 = a := by rw [hG]; rfl
  have s1 : G.σ 1 = b := by rw [hG]; rfl
  have s2 : G.σ 2 = c := by rw [hG]; rfl
  have s3 : G.σ 3 = hi := by rw [hG]; rfl
  have s4 : G.σ 4 = lo := by rw [hG]; rfl
  have s5 : G.σ 5 = qq := by rw [hG]; rfl
  have s6 : G.σ 6 = rr := by rw [hG]; rfl
  have hm : ¬ G.mono := by rw [hG]; exact fun h => h
  have hbd : bdOk G.σ mmBd 0 := by rw [hG]; exact ⟨ha, hb, hc, rhi, rlo, rqq, rrr, trivial⟩
  have hmul : HTOk Tryz.prog G ⟨446, [.sint .u64 0 [(0,1)], .sint .u64 0 [(1,1)]], .tuple [.sint .u64 0 [(3,1)], .sint .u64 0 [(4,1)]]⟩ := by
    refine HTOk.of Tryz.func446 rfl (ul := [.int .u64 a, .int .u64 b]) (u := .tuple #[.int .u64 hi, .int .u64 lo]) (fun φ => by simp [concL, conc, den, s0, s1]) (fun φ => by simp [concL, conc, den, s3, s4]) (fun w => ?_)
    obtain ⟨m, hm⟩ := Int.eq_ofNat_of_zero_le ha.1
    obtain ⟨n, hn⟩ := Int.eq_ofNat_of_zero_le hb.1
    have hmn : ((m * n : Nat) : Int) = N := by rw [hN, hm, hn, Int.natCast_mul]
    refine ((by rw [hm, hn]; exact Tryz.bits_Mul64 m n (by omega) (by omega) w : Calls Tryz.prog 446 #[.int .u64 a, .int .u64 b] w fun e w' => e = .returned (.tuple #[.int .u64 ((m * n / 18446744073709551616 : Nat) : Int), .int .u64 ((m * n % 18446744073709551616 : Nat) : Int)]) ∧ w' = w)).mono ?_
    rintro e w' ⟨rfl, rfl⟩
    have g1 : ((m * n / 18446744073709551616 : Nat) : Int) = hi := by omega
    have g2 : ((m * n % 18446744073709551616 : Nat) : Int) = lo := by omega
    exact ⟨by rw [g1, g2], Below.refl _ _⟩
  have harg : concL G (fun _ => none) mmA = some [.int .i64 a, .int .i64 b, .int .i64 c] := by simp [mmA, concL, conc, den, s0, s1, s2]
  unfold mdV
  rw [← hN, ← hq]
  by_cases h : hi < c
  · rw [if_pos h] at hqq
    subst hqq
    have hdiv : HTOk Tryz.prog G ⟨447, [.sint .u64 0 [(3,1)], .sint .u64 0 [(4,1)], .sint .u64 0 [(2,1)]], .tuple [.sint .u64 0 [(5,1)], .sint .u64 0 [(6,1)]]⟩ := by
      refine HTOk.of Tryz.func447 rfl (ul := [.int .u64 hi, .int .u64 lo, .int .u64 c]) (u := .tuple #[.int .u64 qq, .int .u64 rr]) (fun φ => by simp [concL, conc, den, s3, s4, s2]) (fun φ => by simp [concL, conc, den, s5, s6]) (fun w => ?_)
      have := div64_ok hi lo c rhi.1 rlo (by omega) h w
      rwa [hNe, ← hq, ← hrr] at this
    have hh : HooksOk Tryz.prog G (hkT mmT) := hkT_ok progOkB mmT (fun t ht => by
      simp only [mmT, List.mem_cons, List.not_mem_nil, or_false] at ht
      rcases ht with rfl | rfl
      · exact hmul
      · exact hdiv) hm
    by_cases hqm : qq ≤ 1152921504606846976
    · rw [if_pos hqm]
      exact run_val (G := G) (ge := mmGe 2) (nl := []) progOkB ⟨hbd, by simp only [mmGe, geOk, and_true, den, s2, s3, s5]; omega, trivial⟩ hh Tryz.func386 rfl harg mmRun2 (fun φ => by simp [concL, conc, den, s5]) w
    · rw [if_neg hqm]
      exact run_val (G := G) (ge := mmGe 1) (nl := []) progOkB ⟨hbd, by simp only [mmGe, geOk, and_true, den, s2, s3, s5]; omega, trivial⟩ hh Tryz.func386 rfl harg mmRun1 (fun φ => by simp [concL, conc]) w
  · have hov := over (by omega)
    rw [if_neg (by omega)]
    have hh : HooksOk Tryz.prog G (hkT mmT1) := hkT_ok progOkB mmT1 (fun t ht => by
      simp only [mmT1, List.mem_cons, List.not_mem_nil, or_false] at ht
      subst ht
      exact hmul) hm
    exact run_val (G := G) (ge := mmGe 0) (nl := []) progOkB ⟨hbd, by simp only [mmGe, geOk, and_true, den, s2, s3]; omega, trivial⟩ hh Tryz.func386 rfl harg mmRun0 (fun φ => by simp [concL, conc]) w
set_option maxRecDepth 100000 in
theorem mmH_ok {G : Gh} (hm : ¬ G.mono) : HookOk Tryz.prog G 386 mdH := by
  intro call _ l h v h' e φ w ul hl r _
  unfold mdH at e
  split at e
  · rename_i a b c
    obtain ⟨hc, e⟩ := bif_ok e
    simp only [Bool.and_eq_true, nble, decide_eq_true_eq] at hc
    obtain ⟨h1, h2, h3, h4⟩ := hc
    have hul : ul = [.int .i64 (a : Int), .int .i64 (b : Int), .int .i64 (c : Int)] := by
      simp [concL, conc] at hl
      exact hl.symm
    subst hul
    rw [run_enter Tryz.func386 (prog_name progOkB Tryz.func386) rfl]
    refine (mmuldiv_ok a b c (by omega) (by omega) (by omega) w).mono ?_
    rintro e2 w2 ⟨rfl, hb⟩
    have hcast : ((a : Int) * b / c) = ((a * b / c : Nat) : Int) := by push_cast; rfl
    have hV : mdV a b c = if a * b / c ≤ 1152921504606846976 then .tuple #[.int .i64 ((a * b / c : Nat) : Int), .int .i64 0] else .tuple #[.int .i64 0, .int .i64 12] := by
      unfold mdV
      rw [hcast]
      by_cases hq : a * b / c ≤ 1152921504606846976
      · rw [if_pos hq, if_pos (by omega)]
      · rw [if_neg hq, if_neg (by omega)]
    cases hq : Nat.ble (a * b / c) 1152921504606846976 with
    | true =>
      rw [hq, cond_true] at e
      rw [nble, decide_eq_true_eq] at hq
      cases e
      refine ⟨_, rfl, below_post hm r hb ?_⟩
      rw [hV, if_pos hq]
      simp [conc, concL]
    | false =>
      rw [hq, cond_false] at e
      rw [nble, decide_eq_false_iff_not] at hq
      cases e
      refine ⟨_, rfl, below_post hm r hb ?_⟩
      rw [hV, if_neg hq]
      simp [conc, concL]
  · cases e
end Go.Proofs.YtdfgedemolielaaGreat
