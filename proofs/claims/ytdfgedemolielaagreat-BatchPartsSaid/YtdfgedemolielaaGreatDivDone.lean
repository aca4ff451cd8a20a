/- math/bits.Div64: what it hands back. -/
import Derived.Test.YtdfgedemolielaaGreatDiv64
namespace Go.Proofs.YtdfgedemolielaaGreat
open Go Go.RowKit Gv
theorem x13 {x s z : Int} {S : Nat} (hS : S ≤ 63) (hs : s = (S : Int)) (hz : x * 2 ^ S % 18446744073709551616 = z) : intRes 13 .u64 (0 + (1 * x + 0)) (0 + (1 * s + 0)) = some z := by
  simp only [Int.zero_add, Int.add_zero, Int.one_mul]
  subst hs
  show (if (S : Int) < 0 then none else some (IntKind.u64.wrap (x * 2 ^ Nat.min (S : Int).toNat 64))) = _
  rw [if_neg (by omega), show Nat.min (S : Int).toNat 64 = S from Nat.min_eq_left (by simp; omega), IntKind.wrap_u64, hz]
theorem x14 {x a b z : Int} {S : Nat} (hS : S ≤ 64) (hs : a + b = (S : Int)) (hz : x / 2 ^ S = z) : intRes 14 .u64 (0 + (1 * x + 0)) (a + b) = some z := by
  simp only [Int.zero_add, Int.add_zero, Int.one_mul]
  rw [hs]
  show (if (S : Int) < 0 then none else some (x.fdiv (2 ^ Nat.min (S : Int).toNat 64))) = _
  rw [if_neg (by omega), show Nat.min (S : Int).toNat 64 = S from Nat.min_eq_left (by simpa using hS), Int.fdiv_eq_ediv_of_nonneg _ (Int.le_of_lt (Int.pow_pos (by decide))), hz]
theorem x15 {x z : Int} (hx : 0 ≤ x ∧ x ≤ 18446744073709551615) (hz : x % 4294967296 = z) : intRes 15 .u64 (0 + (1 * x + 0)) (4294967295 + 0) = some z := by
  simp only [Int.zero_add, Int.add_zero, Int.one_mul]
  obtain ⟨n, rfl⟩ := Int.eq_ofNat_of_zero_le hx.1
  show some (IntKind.u64.wrap ((BitVec.ofInt 64 (n : Int) &&& BitVec.ofInt 64 4294967295).toNat : Int)) = _
  rw [and_mask n (by omega), IntKind.wrap_u64]
  congr 1
  omega
theorem x12 {x y z : Int} (hz : x * y % 18446744073709551616 = z) : intRes 12 .u64 (0 + (1 * x + 0)) (0 + (1 * y + 0)) = some z := by
  simp only [Int.zero_add, Int.add_zero, Int.one_mul]
  show some (IntKind.u64.wrap (x * y)) = _
  rw [IntKind.wrap_u64, hz]
theorem x12c {x z : Int} (hz : x * 4294967296 % 18446744073709551616 = z) : intRes 12 .u64 (0 + (1 * x + 0)) (4294967296 + 0) = some z := by
  simp only [Int.zero_add, Int.add_zero, Int.one_mul]
  show some (IntKind.u64.wrap (x * 4294967296)) = _
  rw [IntKind.wrap_u64, hz]
theorem x11 {x y b z : Int} (hz : (x + y - b) % 18446744073709551616 = z) : intRes 11 .u64 (0 + (1 * x + (1 * y + 0))) (0 + (1 * b + 0)) = some z := by
  simp only [Int.zero_add, Int.add_zero, Int.one_mul]
  show some (IntKind.u64.wrap (x + y - b)) = _
  rw [IntKind.wrap_u64, hz]
theorem x1 {x y z : Int} (hx : 0 ≤ x) (hz : x / y = z) (hb : 0 ≤ z ∧ z ≤ 18446744073709551615) : IntKind.u64.wrap ((0 + (1 * x + 0)).tdiv (0 + (1 * y + 0))) = z := by
  simp only [Int.zero_add, Int.add_zero, Int.one_mul]
  rw [Int.tdiv_eq_ediv_of_nonneg hx, hz, IntKind.wrap_u64]
  omega
/-- A digit's start: the guess and what it leaves. -/
theorem start {u y1 : Int} (h1 : 2147483648 ≤ y1 ∧ y1 ≤ 4294967295) (hu : 0 ≤ u ∧ u ≤ 18446744073709551615) : 0 ≤ u / y1 * y1 ∧ u / y1 * y1 ≤ 18446744073709551615 ∧ 0 ≤ u - u / y1 * y1 ∧ u - u / y1 * y1 ≤ 4294967295 := by
  have a := div_lo (a := u) (b := y1) (by omega)
  have b := div_hi (a := u) (b := y1) (by omega)
  have c : 0 ≤ u / y1 * y1 := Int.mul_nonneg (Int.ediv_nonneg hu.1 (by omega)) (by omega)
  rw [Int.add_mul, Int.one_mul] at b
  omega
set_option maxRecDepth 100000 in
set_option maxHeartbeats 4000000 in
theorem div64_big (hi lo y : Int) (rhi : 1 ≤ hi ∧ hi ≤ 18446744073709551615) (rlo : 0 ≤ lo ∧ lo ≤ 18446744073709551615) (ry : 1 ≤ y ∧ y ≤ 18446744073709551615) (hlt : hi < y) (w : World) :
    Calls Tryz.prog 447 #[.int .u64 hi, .int .u64 lo, .int .u64 y] w fun e w' => e = .returned (.tuple #[.int .u64 ((hi * 18446744073709551616 + lo) / y), .int .u64 ((hi * 18446744073709551616 + lo) % y)]) ∧ Below w.heap.size w w' := by
  obtain ⟨S, hS, hs, hyl, hyh, hpr, hp1⟩ := shift_nums y ry.1 ry.2
  obtain ⟨p, hp⟩ : ∃ z : Int, z = 2 ^ S := ⟨_, rfl⟩
  obtain ⟨r, hr⟩ : ∃ z : Int, z = 2 ^ (64 - S) := ⟨_, rfl⟩
  rw [← hp] at hyl hyh hpr hp1
  rw [← hr] at hpr
  have hr0 : 0 < r := by rw [hr]; exact Int.pow_pos (by decide)
  obtain ⟨s, hss⟩ : ∃ z : Int, z = (S : Int) := ⟨_, rfl⟩
  obtain ⟨yy, hyy⟩ : ∃ z : Int, z = y * p := ⟨_, rfl⟩
  rw [← hyy] at hyl hyh
  obtain ⟨y1, hy1⟩ : ∃ z : Int, z = yy / 4294967296 := ⟨_, rfl⟩
  obtain ⟨y0, hy0⟩ : ∃ z : Int, z = yy % 4294967296 := ⟨_, rfl⟩
  have hsplit : yy = y1 * 4294967296 + y0 := by omega
  have ry1 : 2147483648 ≤ y1 ∧ y1 ≤ 4294967295 := by omega
  have ry0 : 0 ≤ y0 ∧ y0 ≤ 4294967295 := by omega
  obtain ⟨his, hhis⟩ : ∃ z : Int, z = hi * p := ⟨_, rfl⟩
  obtain ⟨los, hlos⟩ : ∃ z : Int, z = lo / r := ⟨_, rfl⟩
  have hlos0 : 0 ≤ los := by rw [hlos]; exact Int.ediv_nonneg rlo.1 (by omega)
  have hlosp : los < p := by rw [hlos]; exact (Int.ediv_lt_iff_lt_mul hr0).2 (by rw [hpr]; omega)
  have hhis0 : 0 ≤ his := by rw [hhis]; exact Int.mul_nonneg (by omega) (by omega)
  have hhisy : his + p ≤ yy := by
    have := Int.mul_le_mul_of_nonneg_right (show hi + 1 ≤ y by omega) (show 0 ≤ p by omega)
    rw [Int.add_mul, Int.one_mul] at this
    rw [hhis, hyy]; exact this
  obtain ⟨u, hu⟩ : ∃ z : Int, z = his + los := ⟨_, rfl⟩
  have huy : u < y1 * 4294967296 + y0 := by omega
  have ru : 0 ≤ u ∧ u ≤ 18446744073709551615 := by omega
  obtain ⟨w0, hw0⟩ : ∃ z : Int, z = lo * p % 18446744073709551616 := ⟨_, rfl⟩
  obtain ⟨t1, ht1⟩ : ∃ z : Int, z = w0 / 4294967296 := ⟨_, rfl⟩
  obtain ⟨t0, ht0⟩ : ∃ z : Int, z = w0 % 4294967296 := ⟨_, rfl⟩
  have rw0 : 0 ≤ w0 ∧ w0 ≤ 18446744073709551615 := by omega
  have rt1 : 0 ≤ t1 ∧ t1 ≤ 4294967295 := by omega
  have rt0 : 0 ≤ t0 ∧ t0 ≤ 4294967295 := by omega
  have ht : t1 * 4294967296 + t0 = lo * p % 18446744073709551616 := by omega
  obtain ⟨Q1, q10, q11, hQ1, l1, l2, g1, g2⟩ := digit u t1 y1 y0 ru.1 rt1 ry1 ry0 huy
  rw [← hsplit] at hQ1
  obtain ⟨vv, hvv⟩ : ∃ z : Int, z = u * 4294967296 + t1 - Q1 * (y1 * 4294967296 + y0) := ⟨_, rfl⟩
  have hvy : vv < y1 * 4294967296 + y0 := by rw [Int.add_mul, Int.one_mul] at l2; omega
  have rvv : 0 ≤ vv ∧ vv ≤ 18446744073709551615 := by omega
  obtain ⟨Q0, q00, q01, hQ0, m1, m2, g3, g4⟩ := digit vv t0 y1 y0 rvv.1 rt0 ry1 ry0 hvy
  rw [← hsplit] at hQ0
  obtain ⟨a1, a2, a3, a4⟩ := start ry1 ru
  obtain ⟨b1, b2, b3, b4⟩ := start ry1 rvv
  obtain ⟨qa, hqa⟩ : ∃ z : Int, z = u / y1 := ⟨_, rfl⟩
  obtain ⟨pa, hpa⟩ : ∃ z : Int, z = qa * y1 := ⟨_, rfl⟩
  obtain ⟨qb, hqb⟩ : ∃ z : Int, z = vv / y1 := ⟨_, rfl⟩
  obtain ⟨pb, hpb⟩ : ∃ z : Int, z = qb * y1 := ⟨_, rfl⟩
  rw [← hqa] at a1 a2 a3 a4 g1 g2
  rw [← hpa] at a1 a2 a3 a4
  rw [← hqb] at b1 b2 b3 b4 g3 g4
  rw [← hpb] at b1 b2 b3 b4
  obtain ⟨w1, hw1⟩ : ∃ z : Int, z = u * 4294967296 % 18446744073709551616 := ⟨_, rfl⟩
  obtain ⟨w2, hw2⟩ : ∃ z : Int, z = Q1 * yy % 18446744073709551616 := ⟨_, rfl⟩
  obtain ⟨w3, hw3⟩ : ∃ z : Int, z = vv * 4294967296 % 18446744073709551616 := ⟨_, rfl⟩
  obtain ⟨w4, hw4⟩ : ∃ z : Int, z = Q0 * yy % 18446744073709551616 := ⟨_, rfl⟩
  obtain ⟨w5, hw5⟩ : ∃ z : Int, z = vv * 4294967296 + t0 - Q0 * (y1 * 4294967296 + y0) := ⟨_, rfl⟩
  have hw5y : w5 < y1 * 4294967296 + y0 := by rw [Int.add_mul, Int.one_mul] at m2; omega
  have rw5 : 0 ≤ w5 ∧ w5 ≤ 18446744073709551615 := by omega
  obtain ⟨rem, hrem⟩ : ∃ z : Int, z = w5 / p := ⟨_, rfl⟩
  have rrem : 0 ≤ rem ∧ rem ≤ 18446744073709551615 := by
    rw [hrem]
    exact ⟨Int.ediv_nonneg rw5.1 (by omega), Int.le_trans (Int.ediv_le_self _ rw5.1) rw5.2⟩
  have f18 : (t1 + w1 - w2) % 18446744073709551616 = vv := by rw [← hsplit] at hvv; omega
  have f24 : (t0 + w3 - w4) % 18446744073709551616 = w5 := by rw [← hsplit] at hw5; omega
  obtain ⟨e1, e2⟩ := whole hi lo y p r u t1 t0 Q1 Q0 vv hp1 hpr ry.1 (by rw [hu, hhis, hlos]) ht (by rw [hvv, ← hsplit, hyy]) (by rw [← hyy, hsplit]; exact m1) (by rw [← hyy, hsplit]; exact m2)
  rw [← hyy, hsplit, ← hw5, ← hrem] at e2
  rw [e1, ← e2]
  obtain ⟨G, hG⟩ : ∃ G, G = mkGh [] [hi, lo, y, s, yy, y1, y0, his, los, u, w0, t1, t0, qa, pa, Q1, w1, w2, vv, qb, pb, Q0, w3, w4, w5, rem] rfl := ⟨_, rfl⟩
  have s0 : G.σ 0 = hi := by rw [hG]; rfl
  have s1 : G.σ 1 = lo := by rw [hG]; rfl
  have s2 : G.σ 2 = y := by rw [hG]; rfl
  have s3 : G.σ 3 = s := by rw [hG]; rfl
  have s4 : G.σ 4 = yy := by rw [hG]; rfl
  have s5 : G.σ 5 = y1 := by rw [hG]; rfl
  have s6 : G.σ 6 = y0 := by rw [hG]; rfl
  have s7 : G.σ 7 = his := by rw [hG]; rfl
  have s8 : G.σ 8 = los := by rw [hG]; rfl
  have s9 : G.σ 9 = u := by rw [hG]; rfl
  have s10 : G.σ 10 = w0 := by rw [hG]; rfl
  have s11 : G.σ 11 = t1 := by rw [hG]; rfl
  have s12 : G.σ 12 = t0 := by rw [hG]; rfl
  have s13 : G.σ 13 = qa := by rw [hG]; rfl
  have s14 : G.σ 14 = pa := by rw [hG]; rfl
  have s15 : G.σ 15 = Q1 := by rw [hG]; rfl
  have s16 : G.σ 16 = w1 := by rw [hG]; rfl
  have s17 : G.σ 17 = w2 := by rw [hG]; rfl
  have s18 : G.σ 18 = vv := by rw [hG]; rfl
  have s19 : G.σ 19 = qb := by rw [hG]; rfl
  have s20 : G.σ 20 = pb := by rw [hG]; rfl
  have s21 : G.σ 21 = Q0 := by rw [hG]; rfl
  have s22 : G.σ 22 = w3 := by rw [hG]; rfl
  have s23 : G.σ 23 = w4 := by rw [hG]; rfl
  have s24 : G.σ 24 = w5 := by rw [hG]; rfl
  have s25 : G.σ 25 = rem := by rw [hG]; rfl
  have hm : ¬ G.mono := by rw [hG]; exact fun h => h
  have rs3 : 0 ≤ s ∧ s ≤ 63 := by omega
  have r7 : 0 ≤ his ∧ his ≤ 18446744073709551615 := by omega
  have r8 : 0 ≤ los ∧ los ≤ 18446744073709551615 := by omega
  have r13 : 0 ≤ qa ∧ qa ≤ 4294967297 := by omega
  have r16 : 0 ≤ w1 ∧ w1 ≤ 18446744069414584320 := by omega
  have r17 : 0 ≤ w2 ∧ w2 ≤ 18446744073709551615 := by omega
  have r19 : 0 ≤ qb ∧ qb ≤ 4294967297 := by omega
  have r22 : 0 ≤ w3 ∧ w3 ≤ 18446744069414584320 := by omega
  have r23 : 0 ≤ w4 ∧ w4 ≤ 18446744073709551615 := by omega
  have hbd : bdOk G.σ dvBd 0 := by
    rw [hG]
    exact ⟨rhi, rlo, ry, rs3, ⟨hyl, hyh⟩, ry1, ry0, r7, r8, ru, rw0, rt1, rt0, r13, ⟨a1, a2⟩, ⟨q10, q11⟩, r16, r17, rvv, r19, ⟨b1, b2⟩, ⟨q00, q01⟩, r22, r23, rw5, rrem, trivial⟩
  have hge : geOk G.σ dvGe := by
    refine ⟨?_, ?_, ?_, trivial⟩
    · show 0 ≤ -1 + (1 * G.σ 2 + (-1 * G.σ 0 + 0)); rw [s2, s0]; omega
    · show 0 ≤ 0 + (1 * G.σ 9 + (-1 * G.σ 14 + 0)); rw [s9, s14]; omega
    · show 0 ≤ 0 + (1 * G.σ 18 + (-1 * G.σ 20 + 0)); rw [s18, s20]; omega
  have hor : intRes 16 .u64 (0 + (1 * his + 0)) (0 + (1 * los + 0)) = some u := by
    simp only [Int.zero_add, Int.add_zero, Int.one_mul]
    obtain ⟨a, ha⟩ := Int.eq_ofNat_of_zero_le (show 0 ≤ hi by omega)
    obtain ⟨b, hb⟩ := Int.eq_ofNat_of_zero_le hlos0
    have hpn : p = ((2 ^ S : Nat) : Int) := by rw [hp, Int.natCast_pow]; rfl
    have hh : his = ((a * 2 ^ S : Nat) : Int) := by rw [hhis, ha, hpn, Int.natCast_mul]
    show some (IntKind.u64.wrap ((BitVec.ofInt 64 his ||| BitVec.ofInt 64 los).toNat : Int)) = _
    rw [hh, hb, or_add a b S (by omega) (by omega), IntKind.wrap_u64, hu]
    congr 1
    omega
  have f4 : y * 2 ^ S % 18446744073709551616 = yy := by rw [← hp, ← hyy]; omega
  have f5 : yy / 2 ^ 32 = y1 := hy1.symm
  have f7 : hi * 2 ^ S % 18446744073709551616 = his := by rw [← hp, ← hhis]; omega
  have f8 : lo / 2 ^ (64 - S) = los := by rw [← hr, hlos]
  have f8' : (64 : Int) + (-1 * s + 0) = ((64 - S : Nat) : Int) := by omega
  have f10 : lo * 2 ^ S % 18446744073709551616 = w0 := by rw [← hp]; exact hw0.symm
  have f11 : w0 / 2 ^ 32 = t1 := ht1.symm
  have f14 : qa * y1 % 18446744073709551616 = pa := by rw [← hpa]; omega
  have f20 : qb * y1 % 18446744073709551616 = pb := by rw [← hpb]; omega
  have f25 : w5 / 2 ^ S = rem := by rw [← hp, hrem]
  have f25' : (0 : Int) + (1 * s + 0) = ((S : Nat) : Int) := by omega
  have fy1 : (0 + (1 * y1 + 0) : Int) ≠ 0 := by omega
  have f13 : 0 ≤ qa ∧ qa ≤ 18446744073709551615 := by omega
  have f19 : 0 ≤ qb ∧ qb ≤ 18446744073709551615 := by omega
  have fyy : 0 ≤ yy ∧ yy ≤ 18446744073709551615 := by omega
  have hS64 : S ≤ 64 := by omega
  have hS64' : 64 - S ≤ 64 := by omega
  have hnl : nlOk G dvNl := by
    rw [hG]
    exact ⟨.inr (.inr (.inr (x13 hS hss f4))), .inr (.inr (.inr (x14 (S := 32) (by decide) rfl f5))), .inr (.inr (.inr (x15 fyy hy0.symm))),
      .inr (.inr (.inr (x13 hS hss f7))), .inr (.inr (.inr (x14 hS64' f8' f8))), .inr (.inr (.inr hor)), .inr (.inr (.inr (x13 hS hss f10))),
      .inr (.inr (.inr (x14 (S := 32) (by decide) rfl f11))), .inr (.inr (.inr (x15 rw0 ht0.symm))), .inr (.inl ⟨rfl, fy1, x1 ru.1 hqa.symm f13⟩),
      .inr (.inr (.inr (x12 f14))), .inr (.inr (.inr (x12c hw1.symm))), .inr (.inr (.inr (x12 hw2.symm))), .inr (.inr (.inr (x11 f18))),
      .inr (.inl ⟨rfl, fy1, x1 rvv.1 hqb.symm f19⟩), .inr (.inr (.inr (x12 f20))), .inr (.inr (.inr (x12c hw3.symm))), .inr (.inr (.inr (x12 hw4.symm))),
      .inr (.inr (.inr (x11 f24))), .inr (.inr (.inr (x14 hS64 f25' f25))), trivial⟩
  have agree : ∀ {G1 : Gh}, GLe 26 G G1 → bdOk G1.σ dvBd 0 ∧ geOk G1.σ dvGe ∧ nlOk G1 dvNl := by
    intro G1 g
    have e : ∀ i, i < 26 → G1.σ i = G.σ i := g.σ
    refine ⟨bd_congr (σ := G.σ) (fun i hi => e i (by simpa [dvBd] using hi)) hbd, ?_, ?_⟩
    · simp only [dvGe, geOk, den] at hge ⊢
      rw [e 0 (by decide), e 2 (by decide), e 9 (by decide), e 14 (by decide), e 18 (by decide), e 20 (by decide)]
      exact hge
    · simp only [dvNl, nlOk, NLOk, nlMore, den] at hnl ⊢
      rw [e 1 (by decide), e 2 (by decide), e 3 (by decide), e 4 (by decide), e 5 (by decide), e 6 (by decide), e 7 (by decide), e 8 (by decide), e 9 (by decide), e 10 (by decide), e 11 (by decide), e 12 (by decide), e 13 (by decide), e 14 (by decide), e 15 (by decide), e 16 (by decide), e 17 (by decide), e 18 (by decide), e 19 (by decide), e 20 (by decide), e 21 (by decide), e 22 (by decide), e 23 (by decide), e 24 (by decide), e 25 (by decide), e 0 (by decide)]
      exact hnl
  have hE : ∀ G1, GLe 26 G G1 → EnvOk dvE Tryz.prog G1 := fun G1 g => by
    obtain ⟨x1, x2, x3⟩ := agree g
    have F : Facts G1 dvBd dvGe dvNl := ⟨x1, x2, x3⟩
    exact evE_ok progOkB F.ends (geOk_at F.ge) (nlOk_at F.nl)
  have hF : ∀ G1, GLe 26 G G1 → FnOk dvE Tryz.prog G1 := fun G1 g => by
    have hm1 : ¬ G1.mono := by rw [g.mono]; exact hm
    refine evE_fn progOkB (hkT_ok progOkB dvT (fun t ht => ?_) hm1)
    simp only [dvT, List.mem_cons, List.not_mem_nil, or_false] at ht
    subst ht
    have z2 : G1.σ 2 = y := (g.σ 2 (by decide)).trans s2
    have z3 : G1.σ 3 = s := (g.σ 3 (by decide)).trans s3
    refine HTOk.of Tryz.func491 rfl (ul := [.int .u64 y]) (u := .int .i64 s) (fun φ => by simp [concL, conc, den, z2]) (fun φ => by simp [conc, den, z3]) (fun w => ?_)
    refine (Tryz.bits_LeadingZeros64 y w (by omega) ry.2).mono ?_
    rintro e w' ⟨rfl, rfl⟩
    exact ⟨by rw [hs, hss], Below.refl _ _⟩
  have semA : LSem Tryz.prog dvA G (dvGood G 9 15) (fun σ => (σ 26 - G.σ 15).toNat) :=
    dv_sem hbd 0 15 _ 9 11 15 13 14 (by decide) (by decide) (by rw [s11]; exact rt1) (by rw [s6]; exact ry0) (by rw [s5]; exact ry1) (by rw [s15]; exact ⟨q10, q11⟩)
      (by rw [s15, s5, s6, s9, s11]; exact l1) (by rw [s15, s5, s6, s9, s11]; exact l2) (by rw [s15, s13]; exact g1) (by rw [s13]; exact g2) (by rw [s14, s13, s5]; exact hpa) (by rw [s9, s14]; exact ⟨a3, a4⟩)
  have semB : LSem Tryz.prog dvB G (dvGood G 18 21) (fun σ => (σ 26 - G.σ 21).toNat) :=
    dv_sem hbd 2 18 _ 18 12 21 19 20 (by decide) (by decide) (by rw [s12]; exact rt0) (by rw [s6]; exact ry0) (by rw [s5]; exact ry1) (by rw [s21]; exact ⟨q00, q01⟩)
      (by rw [s21, s5, s6, s18, s12]; exact m1) (by rw [s21, s5, s6, s18, s12]; exact m2) (by rw [s21, s19]; exact g3) (by rw [s19]; exact g4) (by rw [s20, s19, s5]; exact hpb) (by rw [s18, s20]; exact ⟨b3, b4⟩)
  have hrun := dvRun
  unfold RV.isV at hrun
  cases hr : runL dvE dvLk 10 Tryz.f447 [.sint .u64 0 [(0,1)], .sint .u64 0 [(1,1)], .sint .u64 0 [(2,1)]] H0 with
  | bad m i => rw [hr] at hrun; cases hrun
  | ok x h' =>
    rw [hr] at hrun
    have hx := sameV_eq hrun
    subst hx
    have r0 : HRel G (fun _ => none) H0 w := ⟨fun b x l hb => (nomatch hb), fun b b' x x' l l' hb => (nomatch hb), fun b _ => rfl⟩
    have hul : concL G (fun _ => none) [.sint .u64 0 [(0,1)], .sint .u64 0 [(1,1)], .sint .u64 0 [(2,1)]] = some [.int .u64 hi, .int .u64 lo, .int .u64 y] := by
      simp [concL, conc, den, s0, s1, s2]
    refine (runL_ok (K := 26) (G := G) hE hF Tryz.func447 rfl (lk_two (by kernel_rfl) (by kernel_rfl) (loop_piece semA) (loop_piece semB)) hr hul r0 (fun _ _ _ => rfl)).mono ?_
    rintro e w' ⟨v, rfl, G2, gg, φ', hv, r', f', x⟩
    have hv2 : conc G2 φ' (.tuple [.sint .u64 0 [(21,1),(15,4294967296)], .sint .u64 0 [(25,1)]]) = some (.tuple #[.int .u64 (Q1 * 4294967296 + Q0), .int .u64 rem]) := by
      have z15 : G2.σ 15 = Q1 := (gg.σ 15 (by decide)).trans s15
      have z21 : G2.σ 21 = Q0 := (gg.σ 21 (by decide)).trans s21
      have z25 : G2.σ 25 = rem := (gg.σ 25 (by decide)).trans s25
      have i1 : conc G2 φ' (.sint .u64 0 [(21,1),(15,4294967296)]) = some (.int .u64 (Q1 * 4294967296 + Q0)) := by
        rw [conc]
        show some (Value.int .u64 (0 + (1 * G2.σ 21 + (4294967296 * G2.σ 15 + 0)))) = _
        rw [z15, z21, show (0 : Int) + (1 * Q0 + (4294967296 * Q1 + 0)) = Q1 * 4294967296 + Q0 from by omega]
      have i2 : conc G2 φ' (.sint .u64 0 [(25,1)]) = some (.int .u64 rem) := by simp [conc, den, z25]
      rw [conc, concL_cons.2 ⟨_, _, i1, concL_cons.2 ⟨_, _, i2, concL_nil, rfl⟩, rfl⟩]
    rw [hv2] at hv
    cases hv
    refine ⟨rfl, f'.os, f'.tape, f'.output, f'.size, fun k hk => f'.block k hk ?_⟩
    rintro ⟨b, y, l, hb, _⟩
    exact (nomatch hb)
end Go.Proofs.YtdfgedemolielaaGreat
