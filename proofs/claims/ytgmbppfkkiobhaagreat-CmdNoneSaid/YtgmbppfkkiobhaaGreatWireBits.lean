/- Bits that the wire's numbers want. -/
import Derived.Test.YtgmbppfkkiobhaaGreatWireMath
import Derived.Lib.Zigzag
import Derived.Lib.VarintBits
import Derived.Laws.BitsAllLaws
import Derived.KernelRfl
namespace Go.Proofs.YtgmbppfkkiobhaaGreat.Wire
open Go Go.Lib
theorem or128_all : (List.range 256).all (fun n => decide (bits .or .u8 ((n : Nat) : Int) 128 = ((n % 128 + 128 : Nat) : Int))) = true := by kernel_rfl
theorem and128_all : (List.range 256).all (fun n => decide (bits .and .u8 ((n : Nat) : Int) 128 = ((n / 128 * 128 : Nat) : Int))) = true := by kernel_rfl
theorem or128 (n : Nat) (h : n < 256) : bits .or .u8 (n : Int) 128 = ((n % 128 + 128 : Nat) : Int) := by
  have := List.all_eq_true.1 or128_all n (List.mem_range.2 h)
  exact of_decide_eq_true this
theorem and128 (n : Nat) (h : n < 256) : bits .and .u8 (n : Int) 128 = ((n / 128 * 128 : Nat) : Int) := by
  have := List.all_eq_true.1 and128_all n (List.mem_range.2 h)
  exact of_decide_eq_true this
theorem wrap_u8 (n : Int) : IntKind.u8.wrap n = n % 256 := by simp [IntKind.wrap, IntKind.bits, IntKind.signed]
/-- The byte that goes ahead of others. -/
theorem byte_more (k : Nat) : bits .or .u8 (IntKind.u8.wrap (k : Int)) 128 = ((UInt8.ofNat (k % 128 + 128)).toNat : Int) := by
  have e : IntKind.u8.wrap (k : Int) = ((k % 256 : Nat) : Int) := by rw [wrap_u8]; omega
  rw [e, or128 _ (Nat.mod_lt _ (by decide)), byte_of (by omega)]
  omega
theorem byte_last (k : Nat) (h : k < 128) : IntKind.u8.wrap (k : Int) = ((UInt8.ofNat k).toNat : Int) := by
  rw [wrap_u8, byte_of (by omega)]
  omega
/-- The zigzag as the writer reckons it. -/
theorem xor_zz {v : Int} (h : okI v) : bits .xor .u64 (IntKind.u64.wrap (IntKind.u64.wrap v * 2)) (IntKind.u64.wrap (v / 9223372036854775808)) = ((zz v : Nat) : Int) := by
  obtain ⟨h1, h2⟩ := h
  by_cases hv : 0 ≤ v
  · have e1 : IntKind.u64.wrap (IntKind.u64.wrap v * 2) = (((2 * v).toNat : Nat) : Int) := by
      rw [IntKind.wrap_u64, IntKind.wrap_u64]; omega
    have e2 : IntKind.u64.wrap (v / 9223372036854775808) = ((0 : Nat) : Int) := by
      rw [IntKind.wrap_u64, show v / 9223372036854775808 = 0 by omega]; rfl
    rw [e1, e2, bits_xor_u64_nat _ _ (by omega) (by decide), Nat.xor_zero]
    unfold zz
    rw [if_pos hv]
  · have e1 : IntKind.u64.wrap (IntKind.u64.wrap v * 2) = (((2 * v + 18446744073709551616).toNat : Nat) : Int) := by
      rw [IntKind.wrap_u64, IntKind.wrap_u64]; omega
    have e2 : IntKind.u64.wrap (v / 9223372036854775808) = ((2 ^ 64 - 1 : Nat) : Int) := by
      rw [IntKind.wrap_u64, show v / 9223372036854775808 = -1 by omega]; decide
    rw [e1, e2, bits_xor_u64_nat _ _ (by omega) (by decide), Nat.xor_comm, xor_ones64 _ (by omega)]
    unfold zz
    rw [if_neg hv]
    omega
end Go.Proofs.YtgmbppfkkiobhaaGreat.Wire
