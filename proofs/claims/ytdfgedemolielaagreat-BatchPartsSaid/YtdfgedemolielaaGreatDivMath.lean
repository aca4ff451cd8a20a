/- The plain numbers of a two-digit division. -/
import Derived.Lib.ItoaNum
import Derived.Lib.BitFns
import Derived.Laws.Bits64
import Derived.Test.YtdfgedemolielaaGreatGvPermw
namespace Go.Proofs.YtdfgedemolielaaGreat
open Go

/-- The greatest number of which the product with b is at most a. -/
theorem div_of {a b q : Int} (hb : 0 < b) (h1 : q * b ≤ a) (h2 : a < (q + 1) * b) : a / b = q := by
  have h3 : q ≤ a / b := (Int.le_ediv_iff_mul_le hb).2 h1
  have h4 : a / b < q + 1 := (Int.ediv_lt_iff_lt_mul hb).2 h2
  omega
theorem div_lo {a b : Int} (hb : 0 < b) : a / b * b ≤ a := Int.ediv_mul_le _ (by omega)
theorem div_hi {a b : Int} (hb : 0 < b) : a < (a / b + 1) * b := Int.lt_ediv_add_one_mul_self _ hb
/-- A shift's number: p = 2 ^ S, r = 2 ^ (64 - S). -/
theorem shift_nums (y : Int) (h0 : 1 ≤ y) (h1 : y ≤ 18446744073709551615) : ∃ S : Nat, S ≤ 63 ∧ (64 : Int) - (Lib.bitLen y.toNat : Int) = (S : Int) ∧
    9223372036854775808 ≤ y * 2 ^ S ∧ y * 2 ^ S ≤ 18446744073709551615 ∧ (2 : Int) ^ S * 2 ^ (64 - S) = 18446744073709551616 ∧ (1 : Int) ≤ 2 ^ S := by
  obtain ⟨b1, b2, b3⟩ := Lib.bitLenAux_bounds 64 y.toNat (by omega) (by omega)
  have hle := Lib.bitLen_le y.toNat 64 (by omega) (by omega)
  obtain ⟨L, hL⟩ : ∃ L, L = Lib.bitLen y.toNat := ⟨_, rfl⟩
  have hL' : Lib.bitLenAux 64 y.toNat = L := hL.symm
  rw [hL'] at b1 b2 b3
  rw [← hL] at hle ⊢
  have hy : ((y.toNat : Nat) : Int) = y := by omega
  have e1 : (2 : Nat) ^ (L - 1) * 2 ^ (64 - L) = 9223372036854775808 := by rw [← Nat.pow_add, show L - 1 + (64 - L) = 63 from by omega]
  have e2 : (2 : Nat) ^ L * 2 ^ (64 - L) = 18446744073709551616 := by rw [← Nat.pow_add, show L + (64 - L) = 64 from by omega]
  have hp : 0 < (2 : Nat) ^ (64 - L) := Nat.pow_pos (by decide)
  have k1 := Nat.mul_le_mul_right (2 ^ (64 - L)) b2
  have k2 : (y.toNat + 1) * 2 ^ (64 - L) ≤ 2 ^ L * 2 ^ (64 - L) := Nat.mul_le_mul_right _ b3
  rw [e1] at k1
  rw [e2, Nat.add_mul] at k2
  have e3 : (2 : Nat) ^ (64 - L) * 2 ^ (64 - (64 - L)) = 18446744073709551616 := by rw [← Nat.pow_add, show 64 - L + (64 - (64 - L)) = 64 from by omega]
  have hyP : y * 2 ^ (64 - L) = ((y.toNat * 2 ^ (64 - L) : Nat) : Int) := by rw [Int.natCast_mul, hy, Int.natCast_pow]; rfl
  refine ⟨64 - L, by omega, by omega, ?_, ?_, ?_, ?_⟩
  · rw [hyP]; omega
  · rw [hyP]; omega
  · have := congrArg (fun n : Nat => (n : Int)) e3
    simp only [Int.natCast_mul, Int.natCast_pow] at this
    exact this
  · have : ((2 ^ (64 - L) : Nat) : Int) = (2 : Int) ^ (64 - L) := by rw [Int.natCast_pow]; rfl
    omega

/-- One digit: the guess from the first halves is not below the digit. -/
theorem digit (u t y1 y0 : Int) (hu : 0 ≤ u) (ht : 0 ≤ t ∧ t ≤ 4294967295) (hy1 : 2147483648 ≤ y1 ∧ y1 ≤ 4294967295) (hy0 : 0 ≤ y0 ∧ y0 ≤ 4294967295) (hlt : u < y1 * 4294967296 + y0) :
    ∃ Q : Int, 0 ≤ Q ∧ Q ≤ 4294967295 ∧ (u * 4294967296 + t) / (y1 * 4294967296 + y0) = Q ∧ Q * (y1 * 4294967296 + y0) ≤ u * 4294967296 + t ∧ u * 4294967296 + t < (Q + 1) * (y1 * 4294967296 + y0) ∧
      Q ≤ u / y1 ∧ u / y1 ≤ 4294967297 := by
  obtain ⟨Y, hY⟩ : ∃ Y, Y = y1 * 4294967296 + y0 := ⟨_, rfl⟩
  rw [← hY] at hlt ⊢
  have hY0 : 0 < Y := by omega
  obtain ⟨Q, hQ⟩ : ∃ Q, Q = (u * 4294967296 + t) / Y := ⟨_, rfl⟩
  have l1 := div_lo (a := u * 4294967296 + t) hY0
  have l2 := div_hi (a := u * 4294967296 + t) hY0
  rw [← hQ] at l1 l2
  have q0 : 0 ≤ Q := by rw [hQ]; exact Int.ediv_nonneg (by omega) (by omega)
  have q1 : Q ≤ 4294967295 := by
    have : (u * 4294967296 + t) / Y < 4294967296 := (Int.ediv_lt_iff_lt_mul hY0).2 (by omega)
    omega
  have q2 : Q * y1 ≤ u := by
    have h1 : Q * Y = Q * y1 * 4294967296 + Q * y0 := by rw [hY, Int.mul_add, Int.mul_assoc]
    have h2 : 0 ≤ Q * y0 := Int.mul_nonneg q0 hy0.1
    omega
  refine ⟨Q, q0, q1, hQ.symm, l1, l2, (Int.le_ediv_iff_mul_le (by omega)).2 q2, ?_⟩
  have g : u / y1 < 4294967298 := (Int.ediv_lt_iff_lt_mul (by omega)).2 (by omega)
  omega
/-- What a guess too great is, and one that is not. -/
theorem guess (u t y1 y0 q Q rh : Int) (hrh : rh = u - q * y1) (ht : 0 ≤ t ∧ t ≤ 4294967295) (hy0 : 0 ≤ y0 ∧ y0 ≤ 4294967295) (hY : 0 < y1 * 4294967296 + y0)
    (l1 : Q * (y1 * 4294967296 + y0) ≤ u * 4294967296 + t) (l2 : u * 4294967296 + t < (Q + 1) * (y1 * 4294967296 + y0)) :
    (q * y0 ≤ 4294967296 * rh + t ↔ q ≤ Q) ∧ (q ≤ 4294967297 → 1 ≤ q → 4294967296 ≤ rh + y1 → q - 1 ≤ Q) := by
  obtain ⟨Y, hYe⟩ : ∃ Y, Y = y1 * 4294967296 + y0 := ⟨_, rfl⟩
  rw [← hYe] at l1 l2 hY
  have e1 : q * Y = q * y1 * 4294967296 + q * y0 := by rw [hYe, Int.mul_add, Int.mul_assoc]
  have e2 : (q - 1) * Y = q * Y - Y := by rw [Int.sub_mul, Int.one_mul]
  have up : ∀ a : Int, a * Y ≤ u * 4294967296 + t → a ≤ Q := fun a h => by
    have : a * Y < (Q + 1) * Y := Int.lt_of_le_of_lt h l2
    have := Int.lt_of_mul_lt_mul_right this (by omega)
    omega
  have down : ∀ a : Int, a ≤ Q → a * Y ≤ u * 4294967296 + t := fun a h => Int.le_trans (Int.mul_le_mul_of_nonneg_right h (by omega)) l1
  constructor
  · constructor
    · intro h
      exact up q (by omega)
    · intro h
      have := down q h
      omega
  · intro hq hq1 hb
    refine up (q - 1) ?_
    have h1 : (q - 1) * y0 ≤ 4294967296 * 4294967295 := Int.mul_le_mul (by omega) hy0.2 hy0.1 (by omega)
    rw [Int.sub_mul, Int.one_mul] at h1
    omega
/-- The whole division. -/
theorem whole (hi lo y p r u t1 t0 Q1 Q0 v : Int) (hp : 1 ≤ p) (hpr : p * r = 18446744073709551616) (hy : 1 ≤ y)
    (hu : u = hi * p + lo / r) (ht : t1 * 4294967296 + t0 = lo * p % 18446744073709551616)
    (hv : v = u * 4294967296 + t1 - Q1 * (y * p)) (a3 : Q0 * (y * p) ≤ v * 4294967296 + t0) (a4 : v * 4294967296 + t0 < (Q0 + 1) * (y * p)) :
    (hi * 18446744073709551616 + lo) / y = Q1 * 4294967296 + Q0 ∧ (v * 4294967296 + t0 - Q0 * (y * p)) / p = (hi * 18446744073709551616 + lo) % y := by
  obtain ⟨N, hN⟩ : ∃ N, N = hi * 18446744073709551616 + lo := ⟨_, rfl⟩
  rw [← hN]
  -- N * p = (u * 2^32 + t1) * 2^32 + t0
  have e1 : lo * p = lo / r * 18446744073709551616 + lo * p % 18446744073709551616 := by
    have h1 : lo * p / 18446744073709551616 = lo / r := by rw [← hpr, Int.mul_comm lo p, Int.mul_ediv_mul_of_pos _ _ (by omega)]
    have h2 := Int.mul_ediv_add_emod (lo * p) 18446744073709551616
    omega
  have e2 : N * p = (u * 4294967296 + t1) * 4294967296 + t0 := by
    rw [hN, hu, Int.add_mul, Int.mul_right_comm]
    omega
  obtain ⟨z, hz⟩ : ∃ z, z = y * p := ⟨_, rfl⟩
  rw [← hz] at hv a3 a4 ⊢
  have hzp : 0 < z := by rw [hz]; exact Int.mul_pos (by omega) (by omega)
  have e3 : (Q1 * 4294967296 + Q0) * z = Q1 * z * 4294967296 + Q0 * z := by rw [Int.add_mul, Int.mul_right_comm]
  have e4 : (Q1 * 4294967296 + Q0 + 1) * z = Q1 * z * 4294967296 + (Q0 + 1) * z := by rw [Int.add_assoc, Int.add_mul, Int.mul_right_comm]
  have d : N * p / (y * p) = Q1 * 4294967296 + Q0 := by
    rw [← hz]
    exact div_of hzp (by omega) (by omega)
  have d2 : N / y = Q1 * 4294967296 + Q0 := by rw [← d, Int.mul_ediv_mul_of_pos_left _ _ (by omega)]
  refine ⟨d2, ?_⟩
  have m : v * 4294967296 + t0 - Q0 * z = (N % y) * p := by
    have h1 : N % y = N - y * (N / y) := by have := Int.mul_ediv_add_emod N y; omega
    rw [h1, d2, Int.sub_mul, Int.mul_right_comm, ← hz, Int.mul_comm z]
    omega
  rw [m, Int.mul_ediv_cancel _ (by omega)]
theorem or_add (a b S : Nat) (hb : b < 2 ^ S) (h : a * 2 ^ S + b < 18446744073709551616) : (BitVec.ofInt 64 ((a * 2 ^ S : Nat) : Int) ||| BitVec.ofInt 64 (b : Int)).toNat = a * 2 ^ S + b := by
  have h1 : a * 2 ^ S < 18446744073709551616 := by omega
  have h2 : b < 18446744073709551616 := by omega
  rw [BitVec.toNat_or, BitVec.ofInt_natCast, BitVec.ofInt_natCast, BitVec.toNat_ofNat, BitVec.toNat_ofNat, Nat.mod_eq_of_lt h1, Nat.mod_eq_of_lt h2]
  rw [← Nat.shiftLeft_eq, ← Nat.shiftLeft_add_eq_or_of_lt hb]
theorem and_mask (a : Nat) (h : a < 18446744073709551616) : (BitVec.ofInt 64 (a : Int) &&& BitVec.ofInt 64 4294967295).toNat = a % 4294967296 := by
  have e : (BitVec.ofInt 64 4294967295 : BitVec 64) = BitVec.ofNat 64 (2 ^ 32 - 1) := by decide
  rw [e, BitVec.toNat_and, BitVec.ofInt_natCast, BitVec.toNat_ofNat, BitVec.toNat_ofNat, Nat.mod_eq_of_lt h, Nat.mod_eq_of_lt (by decide), Nat.and_two_pow_sub_one_eq_mod]
end Go.Proofs.YtdfgedemolielaaGreat
