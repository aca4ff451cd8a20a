/- Bits that the wire's reader wants. -/
import Derived.Test.YtfpaofeonlfnfaaGreatWireBits
namespace Go.Proofs.YtfpaofeonlfnfaaGreat.Wire
open Go Go.Lib
theorem wrap_u64' (n : Int) : IntKind.u64.wrap n = n % 18446744073709551616 := by simp [IntKind.wrap, IntKind.bits, IntKind.signed]
theorem wrap_i64' {n : Int} (h : -9223372036854775808 ≤ n ∧ n ≤ 9223372036854775807) : IntKind.i64.wrap n = n := by rw [IntKind.wrap_i64]; omega
theorem pow_le63 {k : Nat} (h : k ≤ 9) : (2 : Nat) ^ (7 * k) ≤ 9223372036854775808 := by
  have : (2 : Nat) ^ (7 * k) ≤ 2 ^ 63 := Nat.pow_le_pow_right (by decide) (by omega)
  exact this
theorem acc_lt {k a c : Nat} (ha : a < 2 ^ (7 * k)) : a + c % 128 * 2 ^ (7 * k) < 2 ^ (7 * (k + 1)) := by
  rw [pow_step]
  have h1 : c % 128 ≤ 127 := by omega
  have h2 := Nat.mul_le_mul_right (2 ^ (7 * k)) h1
  omega
theorem acc_lt64 {k a c : Nat} (hk : k ≤ 9) (ha : a < 2 ^ (7 * k)) (h9 : k = 9 → c ≤ 1) : a + c % 128 * 2 ^ (7 * k) < 18446744073709551616 := by
  by_cases h : k = 9
  · subst h
    have h1 : c % 128 ≤ 1 := by have := h9 rfl; omega
    have h2 := Nat.mul_le_mul_right (2 ^ (7 * 9)) h1
    have h3 : (2 : Nat) ^ (7 * 9) = 9223372036854775808 := by decide
    rw [h3] at ha h2 ⊢
    omega
  · have h1 := acc_lt (c := c) ha
    have h2 := pow_le63 (k := k + 1) (by omega)
    omega
/-- The group that is read goes above the ones that were. -/
theorem acc_or {k a c : Nat} (hk : k ≤ 9) (ha : a < 2 ^ (7 * k)) (hc : c < 256) (h9 : k = 9 → c ≤ 1) :
    bits .or .u64 (a : Int) (IntKind.u64.wrap (IntKind.u64.wrap (bits .and .u8 (c : Int) 127) * 2 ^ (7 * k))) = ((a + c % 128 * 2 ^ (7 * k) : Nat) : Int) := by
  have h1 : bits .and .u8 (c : Int) 127 = ((c % 128 : Nat) : Int) := by rw [u8_and127 _ (by omega) (by omega)]; omega
  have h2 := acc_lt64 hk ha h9
  have h3 : IntKind.u64.wrap ((c % 128 : Nat) : Int) = ((c % 128 : Nat) : Int) := by rw [wrap_u64']; omega
  have hp : ((2 : Int) ^ (7 * k)) = ((2 ^ (7 * k) : Nat) : Int) := by rw [Int.natCast_pow]; rfl
  have h4 : IntKind.u64.wrap (((c % 128 : Nat) : Int) * 2 ^ (7 * k)) = ((c % 128 * 2 ^ (7 * k) : Nat) : Int) := by
    rw [hp, ← Int.natCast_mul, wrap_u64']
    generalize c % 128 * 2 ^ (7 * k) = x at h2
    omega
  rw [h1, h3, h4]
  have hj := bits_join_low .u64 64 (by decide) wraps_u64 (7 * k) (a : Int) ((c % 128 * 2 ^ (7 * k) : Nat) : Int) (by omega) (by rw [hp]; omega) (by omega) (by omega)
    (by rw [hp, ← Int.natCast_emod, Nat.mul_mod_left]; rfl) (by omega)
  rw [hj]
  omega
theorem and128_big {c : Nat} (h : 128 ≤ c) (hc : c < 256) : (bits .and .u8 (c : Int) 128 != 0) = true := by
  rw [and128 c hc]
  have : c / 128 = 1 := by omega
  rw [this]
  rfl
theorem and128_small {c : Nat} (h : c < 128) : (bits .and .u8 (c : Int) 128 != 0) = false := by
  rw [and128 c (by omega)]
  have : c / 128 = 0 := by omega
  rw [this]
  rfl
/-- The zigzag undone. -/
theorem unzz_bits {n : Nat} (h : n < 18446744073709551616) : bits .xor .i64 (((n / 2 : Nat) : Int)) (if n % 2 = 0 then 0 else -1) = unzz n := by
  unfold unzz
  by_cases h2 : n % 2 = 0
  · rw [if_pos h2, if_pos h2]
    show IntKind.i64.wrap ((BitVec.ofInt 64 ((n / 2 : Nat) : Int) ^^^ BitVec.ofInt 64 0).toNat : Int) = _
    have e1 : (BitVec.ofInt 64 (0 : Int)) = 0#64 := by decide
    rw [e1, BitVec.xor_zero, BitVec.ofInt_natCast, BitVec.toNat_ofNat, Nat.mod_eq_of_lt (by omega)]
    exact wrap_i64' (by omega)
  · rw [if_neg h2, if_neg h2]
    have hx := i64_not (n / 2) (by omega)
    show IntKind.i64.wrap ((BitVec.ofInt 64 ((n / 2 : Nat) : Int) ^^^ BitVec.ofInt 64 (-1)).toNat : Int) = _
    rw [BitVec.xor_comm]
    exact hx
theorem unzz_walk {A : Nat} (h : A < 18446744073709551616) : bits .xor .i64 (IntKind.i64.wrap ((A : Int) / 2)) (IntKind.i64.wrap (-IntKind.i64.wrap (bits .and .u64 (A : Int) 1))) = unzz A := by
  rw [← unzz_bits h, u64_and1 _ (by omega) (by omega)]
  have e1 : IntKind.i64.wrap ((A : Int) / 2) = ((A / 2 : Nat) : Int) := by rw [wrap_i64' (by omega)]; omega
  have e2 : IntKind.i64.wrap (-IntKind.i64.wrap ((A : Int) % 2)) = if A % 2 = 0 then 0 else -1 := by
    rw [wrap_i64' (n := (A : Int) % 2) (by omega), wrap_i64' (by omega)]
    split <;> omega
  rw [e1, e2]
theorem drop_cons {b : ByteArray} {i : Nat} (h : i < b.size) : b.data.toList.drop i = b[i] :: b.data.toList.drop (i + 1) := by
  have h2 : i < b.data.toList.length := by rw [Array.length_toList]; exact h
  rw [List.drop_eq_getElem_cons h2]
  rfl
theorem drop_end {b : ByteArray} {i : Nat} (h : i = b.size) : b.data.toList.drop i = [] := by
  apply List.drop_eq_nil_of_le
  rw [Array.length_toList, h]
  exact Nat.le_refl _
theorem rdN_ten (l : List UInt8) (a : Nat) : rdN l 10 a = (0, 0, 4) := by
  cases l <;> simp [rdN]
theorem rdN_nil {k a : Nat} (h : k ≠ 10) : rdN [] k a = (0, 0, 5) := by simp [rdN, h]
theorem rdN_nine {c : UInt8} {t : List UInt8} {a : Nat} (h : 1 < c.toNat) : rdN (c :: t) 9 a = (0, 0, 4) := by
  rw [rdN, if_neg (by decide), if_pos ⟨rfl, h⟩]
theorem rdN_next {c : UInt8} {t : List UInt8} {k a : Nat} (h : k < 9) (hc : 128 ≤ c.toNat) : rdN (c :: t) k a = rdN t (k + 1) (a + c.toNat % 128 * 2 ^ (7 * k)) := by
  rw [rdN, if_neg (by omega), if_neg (by omega), if_pos hc]
theorem rdN_zero {c : UInt8} {t : List UInt8} {k a : Nat} (h : k ≤ 9) (hc : c.toNat = 0) (hk : 0 < k) : rdN (c :: t) k a = (0, 0, 4) := by
  rw [rdN, if_neg (by omega), if_neg (by omega), if_neg (by omega), if_pos ⟨hc, hk⟩]
theorem rdN_done {c : UInt8} {t : List UInt8} {k a : Nat} (h : k ≤ 9) (h9 : k = 9 → c.toNat ≤ 1) (hc : c.toNat < 128) (hz : ¬ (c.toNat = 0 ∧ 0 < k)) : rdN (c :: t) k a = (unzz (a + c.toNat % 128 * 2 ^ (7 * k)), k + 1, 0) := by
  rw [rdN, if_neg (by omega), if_neg (by omega), if_neg (by omega), if_neg hz, Nat.mod_eq_of_lt hc]
end Go.Proofs.YtfpaofeonlfnfaaGreat.Wire
