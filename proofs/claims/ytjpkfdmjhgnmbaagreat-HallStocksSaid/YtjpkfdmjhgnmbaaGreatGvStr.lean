/- Laws of strings as numbers. -/
import Derived.Test.YtjpkfdmjhgnmbaaGreatGvRel
namespace Go.Proofs.YtjpkfdmjhgnmbaaGreat.Gv
open Go

theorem strL_length : ∀ n v, (strL n v).length = n
  | 0, _ => rfl
  | n + 1, v => by simp [strL, strL_length n]
theorem strL_mod : ∀ n v, strL n (v % 256 ^ n) = strL n v
  | 0, _ => rfl
  | n + 1, v => by
    have h1 : v % 256 ^ (n + 1) % 256 = v % 256 := Nat.mod_mod_of_dvd _ ⟨256 ^ n, by rw [Nat.pow_succ, Nat.mul_comm]⟩
    have h2 : v % 256 ^ (n + 1) / 256 = v / 256 % 256 ^ n := by rw [Nat.pow_succ, Nat.mul_comm, Nat.mod_mul_right_div_self]
    rw [strL, strL, h1, h2, strL_mod n]
theorem strL_bytesNat : ∀ l : List UInt8, strL l.length (bytesNat l) = l
  | [] => rfl
  | b :: l => by
    have hb : b.toNat < 256 := b.toNat_lt
    have h1 : (b.toNat + 256 * bytesNat l) % 256 = b.toNat := by omega
    have h2 : (b.toNat + 256 * bytesNat l) / 256 = bytesNat l := by omega
    rw [List.length_cons, strL, bytesNat, h1, h2, strL_bytesNat l]
    simp
theorem strL_add : ∀ n m a b, strL (n + m) (a % 256 ^ n + b * 256 ^ n) = strL n a ++ strL m b
  | 0, m, a, b => by simp [strL, Nat.mod_one]
  | n + 1, m, a, b => by
    have hp : 256 ^ (n + 1) = 256 * 256 ^ n := by rw [Nat.pow_succ, Nat.mul_comm]
    have h0 : a % 256 ^ (n + 1) % 256 = a % 256 := Nat.mod_mod_of_dvd _ ⟨256 ^ n, hp⟩
    have h0' : a % 256 ^ (n + 1) / 256 = a / 256 % 256 ^ n := by rw [hp, Nat.mod_mul_right_div_self]
    have hb : b * 256 ^ (n + 1) = 256 * (b * 256 ^ n) := by rw [hp]; ac_rfl
    have h1 : (a % 256 ^ (n + 1) + b * 256 ^ (n + 1)) % 256 = a % 256 := by omega
    have h2 : (a % 256 ^ (n + 1) + b * 256 ^ (n + 1)) / 256 = a / 256 % 256 ^ n + b * 256 ^ n := by omega
    rw [show n + 1 + m = (n + m) + 1 from by omega, strL, strL, h1, h2, strL_add n m]
    simp
theorem strL_get : ∀ (n v i : Nat), i < n → (strL n v)[i]? = some (UInt8.ofNat (v / 256 ^ i % 256))
  | 0, _, i, h => absurd h (Nat.not_lt_zero _)
  | n + 1, v, 0, _ => by simp [strL]
  | n + 1, v, i + 1, h => by
    rw [strL, List.getElem?_cons_succ, strL_get n (v / 256) i (by omega), Nat.div_div_eq_div_mul, Nat.pow_succ, Nat.mul_comm 256]
theorem strL_take (n v k : Nat) (h : k ≤ n) : (strL n v).take k = strL k (v % 256 ^ k) := by
  apply List.ext_getElem?
  intro i
  rw [strL_mod]
  by_cases hi : i < k
  · rw [List.getElem?_take, if_pos hi, strL_get n v i (by omega), strL_get k v i hi]
  · rw [List.getElem?_take, if_neg hi, List.getElem?_eq_none]
    rw [strL_length]; omega
theorem strL_drop : ∀ (l n v : Nat), (strL n v).drop l = strL (n - l) (v / 256 ^ l)
  | 0, n, v => by simp
  | l + 1, 0, v => by simp [strL]
  | l + 1, n + 1, v => by
    rw [strL, List.drop_succ_cons, strL_drop l n (v / 256), Nat.div_div_eq_div_mul, Nat.pow_succ, Nat.mul_comm 256]
    congr 1
    omega
theorem strL_inj : ∀ n a b, strL n a = strL n b → a % 256 ^ n = b % 256 ^ n
  | 0, a, b, _ => by simp [Nat.mod_one]
  | n + 1, a, b, h => by
    rw [strL, strL] at h
    injection h with h1 h2
    have ih := strL_inj n _ _ h2
    have h3 : a % 256 = b % 256 := by
      have := congrArg UInt8.toNat h1
      simpa using this
    have hp : 256 ^ (n + 1) = 256 * 256 ^ n := by rw [Nat.pow_succ, Nat.mul_comm]
    rw [hp, Nat.mod_mul, Nat.mod_mul, h3, ih]
theorem strEq_ok (n a m b : Nat) : strEq n a m b = decide (strL n a = strL m b) := by
  unfold strEq
  by_cases hnm : n = m
  · subst hnm
    rw [show Nat.beq n n = true from Nat.beq_refl n, cond_true]
    by_cases h : a % 256 ^ n = b % 256 ^ n
    · rw [decide_eq_true (by rw [← strL_mod n a, ← strL_mod n b, h])]
      rw [nbeq, decide_eq_true h]
    · rw [decide_eq_false (fun e => h (strL_inj n a b e))]
      cases hb : Nat.beq (a % 256 ^ n) (b % 256 ^ n) with
      | false => rfl
      | true => exact absurd (Nat.eq_of_beq_eq_true hb) h
  · have : Nat.beq n m = false := by
      cases hb : Nat.beq n m with
      | false => rfl
      | true => exact absurd (Nat.eq_of_beq_eq_true hb) hnm
    rw [this, cond_false, decide_eq_false]
    intro e
    have := congrArg List.length e
    rw [strL_length, strL_length] at this
    exact hnm this
theorem strLess_succ (f n a m b : Nat) : strLess (f + 1) n a m b =
    bif Nat.beq m 0 then false else bif Nat.beq n 0 then true else
    bif Nat.blt (a % 256) (b % 256) then true else bif Nat.beq (a % 256) (b % 256) then strLess f (n - 1) (a / 256) (m - 1) (b / 256) else false := rfl
theorem strLess_ok : ∀ f n a m b, m < f → strLess f n a m b = Op.bytesLess (strL n a) (strL m b)
  | 0, _, _, _, _, h => absurd h (Nat.not_lt_zero _)
  | f + 1, n, a, 0, b, _ => by
    rw [strLess_succ]
    cases n <;> simp [strL, Op.bytesLess]
  | f + 1, 0, a, m + 1, b, _ => by
    rw [strLess_succ]
    simp [strL, Op.bytesLess, nbeq]
  | f + 1, n + 1, a, m + 1, b, h => by
    rw [strLess_succ, strL, strL, Op.bytesLess]
    have ih := strLess_ok f n (a / 256) m (b / 256) (by omega)
    simp only [Nat.add_sub_cancel]
    rw [ih]
    have ha : a % 256 < 256 := Nat.mod_lt _ (by omega)
    have hb : b % 256 < 256 := Nat.mod_lt _ (by omega)
    have e1 : (UInt8.ofNat (a % 256) < UInt8.ofNat (b % 256)) ↔ a % 256 < b % 256 := by
      rw [UInt8.lt_iff_toNat_lt]; simp
    have e2 : (UInt8.ofNat (a % 256) == UInt8.ofNat (b % 256)) = decide (a % 256 = b % 256) := by
      by_cases hh : a % 256 = b % 256
      · simp [hh]
      · rw [decide_eq_false hh, beq_eq_false_iff_ne]
        intro e
        have := congrArg UInt8.toNat e
        simp at this
        exact hh this
    have e1' : decide (UInt8.ofNat (a % 256) < UInt8.ofNat (b % 256)) = decide (a % 256 < b % 256) := decide_eq_decide.2 e1
    rw [nbeq, nbeq, nbeq, nblt, e2, e1']
    simp only [Nat.add_eq_zero_iff, Nat.succ_ne_self, decide_false, cond_false, and_false]
    by_cases h1 : a % 256 < b % 256
    · simp [h1]
    · by_cases h2 : a % 256 = b % 256
      · simp [h2]
      · simp [h1, h2]
theorem strLs_ok (n a m b : Nat) : strLs n a m b = Op.bytesLess (strL n a) (strL m b) := strLess_ok _ _ _ _ _ (by omega)
end Go.Proofs.YtjpkfdmjhgnmbaaGreat.Gv
