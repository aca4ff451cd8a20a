/- The plain numbers of a two-digit division. -/
import Derived.Lib.ItoaNum
import Derived.Lib.BitFns
import Derived.Laws.Bits64
import Derived.Test.YtmfmjhklajmhoaaGreatGvPermw
import Derived.Test.YtmfmjhklajmhoaaGreatProg
import Derived.Test.YtmfmjhklajmhoaaGreatLay
namespace Go.Proofs.YtmfmjhklajmhoaaGreat
open Go
theorem div_of {a b q : Int} (hb : 0 < b) (h1 : q * b ≤ a) (h2 : a < (q + 1) * b) : a / b = q := by
 have h3 : q ≤ a / b := (Int.le_ediv_iff_mul_le hb).2 h1
 have h4 : a / b < q + 1 := (Int.ediv_lt_iff_lt_mul hb).2 h2
 omega
theorem div_lo {a b : Int} (hb : 0 < b) : a / b * b ≤ a := Int.ediv_mul_le _ (by omega)
theorem div_hi {a b : Int} (hb : 0 < b) : a < (a / b + 1) * b := Int.lt_ediv_add_one_mul_self _ hb
theorem shift_nums (y : Int) (h0 : 1 ≤ y) (h1 : y ≤ 18446744073709551615) : ∃ S : Nat, S ≤ 63 ∧ (64 : Int) - (Lib.bitLen y.toNat : Int) = (S : Int) ∧
 9223372036854775808 ≤ y * 2 ^ S ∧ y * 2 ^ S ≤ 18446744073709551615 ∧ (2 : Int) ^ S * 2 ^ (64 - S) = 18446744073709551616 ∧ (1 : Int) ≤ 2 ^ S := by
 obtain ⟨b1, b2, b3⟩ := Lib.bitLenAux_bounds 64 y.toNat (by omega) (by omega)
 have hle := Lib.bitLen_le y.toNat 64 (by omega) (by omega)
 obtain ⟨L, hL⟩ : ∃ L, L = Lib.bitLen y.toNat := ⟨_, rfl⟩
 have hL' : Lib.bitLenAux 64 y.toNat = L := hL.symm
 rw [hL'] at b1 b2 b3
 rw [← hL] at hle ⊢
 have hy : ((y.toNat : Nat) : Int) = y := by omega
 have e1 : (2 : Nat) ^ (L - 1) * 2 ^ (64 - L) = 9223372036854775808 := by rw [← Nat.pow_add, show L - 1 + (64 - L) = 63 from by omega]
 have e2 : (2 : Nat) ^ L * 2 ^ (64 - L) = 18446744073709551616 := by rw [← Nat.pow_add, show L + (64 - L) = 64 from by omega]
 have hp : 0 < (2 : Nat) ^ (64 - L) := Nat.pow_pos (by decide)
 have k1 := Nat.mul_le_mul_right (2 ^ (64 - L)) b2
 have k2 : (y.toNat + 1) * 2 ^ (64 - L) ≤ 2 ^ L * 2 ^ (64 - L) := Nat.mul_le_mul_right _ b3
 rw [e1] at k1
 rw [e2, Nat.add_mul] at k2
 have e3 : (2 : Nat) ^ (64 - L) * 2 ^ (64 - (64 - L)) = 18446744073709551616 := by rw [← Nat.pow_add, show 64 - L + (64 - (64 - L)) = 64 from by omega]
 have hyP : y * 2 ^ (64 - L) = ((y.toNat * 2 ^ (64 - L) : Nat) : Int) := by rw [Int.natCast_mul, hy, Int.natCast_pow]; rfl
 refine ⟨64 - L, by omega, by omega, ?_, ?_, ?_, ?_⟩
 · rw [hyP]; omega
 · rw [hyP]; omega
 · have := congrArg (fun n : Nat => (n : Int)) e3
   simp only [Int.natCast_mul, Int.natCast_pow] at this
   exact this
 · have : ((2 ^ (64 - L) : Nat) : Int) = (2 : Int) ^ (64 - L) := by rw [Int.natCast_pow]; rfl
   omega
theorem digit (u t y1 y0 : Int) (hu : 0 ≤ u) (ht : 0 ≤ t ∧ t ≤ 4294967295) (hy1 : 2147483648 ≤ y1 ∧ y1 ≤ 4294967295) (hy0 : 0 ≤ y0 ∧ y0 ≤ 4294967295) (hlt : u < y1 * 4294967296 + y0) :
 ∃ Q : Int, 0 ≤ Q ∧ Q ≤ 4294967295 ∧ (u * 4294967296 + t) / (y1 * 4294967296 + y0) = Q ∧ Q * (y1 * 4294967296 + y0) ≤ u * 4294967296 + t ∧ u * 4294967296 + t < (Q + 1) * (y1 * 4294967296 + y0) ∧
  Q ≤ u / y1 ∧ u / y1 ≤ 4294967297 := by
 obtain ⟨Y, hY⟩ : ∃ Y, Y = y1 * 4294967296 + y0 := ⟨_, rfl⟩
 rw [← hY] at hlt ⊢
 have hY0 : 0 < Y := by omega
 obtain ⟨Q, hQ⟩ : ∃ Q, Q = (u * 4294967296 + t) / Y := ⟨_, rfl⟩
 have l1 := div_lo (a := u * 4294967296 + t) hY0
 have l2 := div_hi (a := u * 4294967296 + t) hY0
 rw [← hQ] at l1 l2
 have q0 : 0 ≤ Q := by rw [hQ]; exact Int.ediv_nonneg (by omega) (by omega)
 have q1 : Q ≤ 4294967295 := by
  have : (u * 4294967296 + t) / Y < 4294967296 := (Int.ediv_lt_iff_lt_mul hY0).2 (by omega)
  omega
 have q2 : Q * y1 ≤ u := by
  have h1 : Q * Y = Q * y1 * 4294967296 + Q * y0 := by rw [hY, Int.mul_add, Int.mul_assoc]
  have h2 : 0 ≤ Q * y0 := Int.mul_nonneg q0 hy0.1
  omega
 refine ⟨Q, q0, q1, hQ.symm, l1, l2, (Int.le_ediv_iff_mul_le (by omega)).2 q2, ?_⟩
 have g : u / y1 < 4294967298 := (Int.ediv_lt_iff_lt_mul (by omega)).2 (by omega)
 omega
theorem guess (u t y1 y0 q Q rh : Int) (hrh : rh = u - q * y1) (ht : 0 ≤ t ∧ t ≤ 4294967295) (hy0 : 0 ≤ y0 ∧ y0 ≤ 4294967295) (hY : 0 < y1 * 4294967296 + y0)
 (l1 : Q * (y1 * 4294967296 + y0) ≤ u * 4294967296 + t) (l2 : u * 4294967296 + t < (Q + 1) * (y1 * 4294967296 + y0)) :
 (q * y0 ≤ 4294967296 * rh + t ↔ q ≤ Q) ∧ (q ≤ 4294967297 → 1 ≤ q → 4294967296 ≤ rh + y1 → q - 1 ≤ Q) := by
 obtain ⟨Y, hYe⟩ : ∃ Y, Y = y1 * 4294967296 + y0 := ⟨_, rfl⟩
 rw [← hYe] at l1 l2 hY
 have e1 : q * Y = q * y1 * 4294967296 + q * y0 := by rw [hYe, Int.mul_add, Int.mul_assoc]
 have e2 : (q - 1) * Y = q * Y - Y := by rw [Int.sub_mul, Int.one_mul]
 have up : ∀ a : Int, a * Y ≤ u * 4294967296 + t → a ≤ Q := fun a h => by
  have : a * Y < (Q + 1) * Y := Int.lt_of_le_of_lt h l2
  have := Int.lt_of_mul_lt_mul_right this (by omega)
  omega
 have down : ∀ a : Int, a ≤ Q → a * Y ≤ u * 4294967296 + t := fun a h => Int.le_trans (Int.mul_le_mul_of_nonneg_right h (by omega)) l1
 constructor
 · constructor
   · intro h
     exact up q (by omega)
   · intro h
     have := down q h
     omega
 · intro hq hq1 hb
   refine up (q - 1) ?_
   have h1 : (q - 1) * y0 ≤ 4294967296 * 4294967295 := Int.mul_le_mul (by omega) hy0.2 hy0.1 (by omega)
   rw [Int.sub_mul, Int.one_mul] at h1
   omega
theorem whole (hi lo y p r u t1 t0 Q1 Q0 v : Int) (hp : 1 ≤ p) (hpr : p * r = 18446744073709551616) (hy : 1 ≤ y)
 (hu : u = hi * p + lo / r) (ht : t1 * 4294967296 + t0 = lo * p % 18446744073709551616)
 (hv : v = u * 4294967296 + t1 - Q1 * (y * p)) (a3 : Q0 * (y * p) ≤ v * 4294967296 + t0) (a4 : v * 4294967296 + t0 < (Q0 + 1) * (y * p)) :
 (hi * 18446744073709551616 + lo) / y = Q1 * 4294967296 + Q0 ∧ (v * 4294967296 + t0 - Q0 * (y * p)) / p = (hi * 18446744073709551616 + lo) % y := by
 obtain ⟨N, hN⟩ : ∃ N, N = hi * 18446744073709551616 + lo := ⟨_, rfl⟩
 rw [← hN]
 have e1 : lo * p = lo / r * 18446744073709551616 + lo * p % 18446744073709551616 := by
  have h1 : lo * p / 18446744073709551616 = lo / r := by rw [← hpr, Int.mul_comm lo p, Int.mul_ediv_mul_of_pos _ _ (by omega)]
  have h2 := Int.mul_ediv_add_emod (lo * p) 18446744073709551616
  omega
 have e2 : N * p = (u * 4294967296 + t1) * 4294967296 + t0 := by
  rw [hN, hu, Int.add_mul, Int.mul_right_comm]
  omega
 obtain ⟨z, hz⟩ : ∃ z, z = y * p := ⟨_, rfl⟩
 rw [← hz] at hv a3 a4 ⊢
 have hzp : 0 < z := by rw [hz]; exact Int.mul_pos (by omega) (by omega)
 have e3 : (Q1 * 4294967296 + Q0) * z = Q1 * z * 4294967296 + Q0 * z := by rw [Int.add_mul, Int.mul_right_comm]
 have e4 : (Q1 * 4294967296 + Q0 + 1) * z = Q1 * z * 4294967296 + (Q0 + 1) * z := by rw [Int.add_assoc, Int.add_mul, Int.mul_right_comm]
 have d : N * p / (y * p) = Q1 * 4294967296 + Q0 := by
  rw [← hz]
  exact div_of hzp (by omega) (by omega)
 have d2 : N / y = Q1 * 4294967296 + Q0 := by rw [← d, Int.mul_ediv_mul_of_pos_left _ _ (by omega)]
 refine ⟨d2, ?_⟩
 have m : v * 4294967296 + t0 - Q0 * z = (N % y) * p := by
  have h1 : N % y = N - y * (N / y) := by have := Int.mul_ediv_add_emod N y; omega
  rw [h1, d2, Int.sub_mul, Int.mul_right_comm, ← hz, Int.mul_comm z]
  omega
 rw [m, Int.mul_ediv_cancel _ (by omega)]
theorem or_add (a b S : Nat) (hb : b < 2 ^ S) (h : a * 2 ^ S + b < 18446744073709551616) : (BitVec.ofInt 64 ((a * 2 ^ S : Nat) : Int) ||| BitVec.ofInt 64 (b : Int)).toNat = a * 2 ^ S + b := by
 have h1 : a * 2 ^ S < 18446744073709551616 := by omega
 have h2 : b < 18446744073709551616 := by omega
 rw [BitVec.toNat_or, BitVec.ofInt_natCast, BitVec.ofInt_natCast, BitVec.toNat_ofNat, BitVec.toNat_ofNat, Nat.mod_eq_of_lt h1, Nat.mod_eq_of_lt h2]
 rw [← Nat.shiftLeft_eq, ← Nat.shiftLeft_add_eq_or_of_lt hb]
theorem and_mask (a : Nat) (h : a < 18446744073709551616) : (BitVec.ofInt 64 (a : Int) &&& BitVec.ofInt 64 4294967295).toNat = a % 4294967296 := by
 have e : (BitVec.ofInt 64 4294967295 : BitVec 64) = BitVec.ofNat 64 (2 ^ 32 - 1) := by decide
 rw [e, BitVec.toNat_and, BitVec.ofInt_natCast, BitVec.toNat_ofNat, BitVec.toNat_ofNat, Nat.mod_eq_of_lt h, Nat.mod_eq_of_lt (by decide), Nat.and_two_pow_sub_one_eq_mod]
end Go.Proofs.YtmfmjhklajmhoaaGreat
/- What runs with loops have in common. -/
namespace Go.Proofs.YtmfmjhklajmhoaaGreat
open Go Go.RowKit Gv
theorem progOkB : ProgOk Tryz.prog := ⟨of_decide_eq_true (by kernel_rfl), by kernel_rfl, by kernel_rfl⟩
def bodyOf (id : Nat) (fn : Func) : Code := match fn.body with | some c => (match (blocksC c).find? (fun p => Nat.beq p.1 id) with | some (_, .loop x) => x | _ => .skip) | none => .skip
def extσ (σ : Nat → Int) (k : Nat) (l : List Int) : Nat → Int := fun i => if i < k then σ i else l.getD (i - k) 0
theorem extσ_lo {σ : Nat → Int} {k : Nat} {l : List Int} {i : Nat} (h : i < k) : extσ σ k l i = σ i := if_pos h
theorem lk_one {P : Program} {G : Gh} {K n id : Nat} {c x : Code} {g : Fr → H → RX} (h : (blocksC c).filter (fun p => Nat.beq p.1 id) = [(id, .loop x)]) (hg : PieceX P G K n (.block id (.loop x)) g) :
 LkOk P G K n (fun i => bif Nat.beq i id then some g else none) (blocksC c) := by
 intro p hp g' e
 dsimp only at e
 cases hi : Nat.beq p.1 id with
 | false => rw [hi] at e; cases e
 | true =>
   rw [hi, cond_true] at e
   cases e
   have : p ∈ (blocksC c).filter (fun p => Nat.beq p.1 id) := List.mem_filter.2 ⟨hp, hi⟩
   rw [h] at this
   simp at this
   subst this
   exact hg
theorem HTOk.of {P : Program} {G : Gh} {f : Nat} {args : List V} {v : V} {fn : Func} {c : Code} (hf : P.funcs[f]? = some fn) (hb : fn.body = some c) {ul : List Value} {u : Value} (hl : ∀ φ, concL G φ args = some ul) (hv : ∀ φ, conc G φ v = some u)
 (h : ∀ w : World, Calls P f ul.toArray w fun e w' => e = .returned u ∧ Below w.heap.size w w') : HTOk P G ⟨f, args, v⟩ := by
 refine ⟨⟨fn, c, hf, hb⟩, fun φ ul' hl' w => ?_⟩
 have := hl'.symm.trans (hl φ)
 cases this
 exact (h w).mono fun e w' ⟨h1, h2⟩ => ⟨u, hv, h1, h2⟩
theorem bd_app {σ : Nat → Int} : ∀ {l m : List (Int × Int)} {k : Nat}, bdOk σ l k → bdOk σ m (k + l.length) → bdOk σ (l ++ m) k
 | [], m, k, _, h => by simpa using h
 | p :: l, m, k, h, h2 => ⟨h.1, bd_app h.2 (by rw [show k + 1 + l.length = k + (p :: l).length from by simp; omega]; exact h2)⟩
theorem bd_congr {σ σ' : Nat → Int} : ∀ {l : List (Int × Int)} {k : Nat}, (∀ i, i < k + l.length → σ' i = σ i) → bdOk σ l k → bdOk σ' l k
 | [], k, _, _ => trivial
 | p :: l, k, hs, h => ⟨by rw [hs k (by simp)]; exact h.1, bd_congr (fun i hi => hs i (by simp; omega)) h.2⟩
theorem lk_two {P : Program} {G : Gh} {K n i j : Nat} {c x y : Code} {g g' : Fr → H → RX} (h : (blocksC c).filter (fun p => Nat.beq p.1 i) = [(i, .loop x)]) (h' : (blocksC c).filter (fun p => Nat.beq p.1 j) = [(j, .loop y)])
 (hg : PieceX P G K n (.block i (.loop x)) g) (hg' : PieceX P G K n (.block j (.loop y)) g') : LkOk P G K n (fun k => bif Nat.beq k i then some g else bif Nat.beq k j then some g' else none) (blocksC c) := by
 intro p hp f e
 dsimp only at e
 cases hi : Nat.beq p.1 i with
 | true =>
   rw [hi, cond_true] at e
   cases e
   have : p ∈ (blocksC c).filter (fun p => Nat.beq p.1 i) := List.mem_filter.2 ⟨hp, hi⟩
   rw [h] at this
   simp at this
   subst this
   exact hg
 | false =>
   rw [hi, cond_false] at e
   cases hj : Nat.beq p.1 j with
   | true =>
     rw [hj, cond_true] at e
     cases e
     have : p ∈ (blocksC c).filter (fun p => Nat.beq p.1 j) := List.mem_filter.2 ⟨hp, hj⟩
     rw [h'] at this
     simp at this
     subst this
     exact hg'
   | false => rw [hj] at e; cases e
def mdV (a b c : Int) : Value := if a * b / c ≤ 1152921504606846976 then .tuple #[.int .i64 (a * b / c), .int .i64 0] else .tuple #[.int .i64 0, .int .i64 12]
noncomputable def mdH (_ : Gv.Call) (l : List V) (h : H) : RV :=
 match l with
 | [.int .i64 (.ofNat a), .int .i64 (.ofNat b), .int .i64 (.ofNat c)] => bif Nat.ble a 9223372036854775807 && (Nat.ble b 9223372036854775807 && (Nat.ble 1 c && Nat.ble c 9223372036854775807)) then
  (bif Nat.ble (a * b / c) 1152921504606846976 then .ok (.tuple [.int .i64 (.ofNat (a * b / c)), .int .i64 0]) h else .ok (.tuple [.int .i64 0, .int .i64 12]) h) else .bad "MulDiv" 1
 | _ => .bad "MulDiv" 0
end Go.Proofs.YtmfmjhklajmhoaaGreat
/- math/bits.Div64: a contract, by loops that are told by what holds at their heads. -/
namespace Go.Proofs.YtmfmjhklajmhoaaGreat
open Go Go.RowKit Gv
def dvBd : List (Int × Int) := [(1, 18446744073709551615), (0, 18446744073709551615), (1, 18446744073709551615), (0, 63), (9223372036854775808, 18446744073709551615), (2147483648, 4294967295), (0, 4294967295), (0, 18446744073709551615), (0, 18446744073709551615), (0, 18446744073709551615), (0, 18446744073709551615), (0, 4294967295), (0, 4294967295), (0, 4294967297), (0, 18446744073709551615), (0, 4294967295), (0, 18446744069414584320), (0, 18446744073709551615), (0, 18446744073709551615), (0, 4294967297), (0, 18446744073709551615), (0, 4294967295), (0, 18446744069414584320), (0, 18446744073709551615), (0, 18446744073709551615), (0, 18446744073709551615)]
def dvNl : List NL := [⟨13, .u64, (0,[(2,1)]), (0,[(3,1)]), 4⟩, ⟨14, .u64, (0,[(4,1)]), (32,[]), 5⟩, ⟨15, .u64, (0,[(4,1)]), (4294967295,[]), 6⟩, ⟨13, .u64, (0,[(0,1)]), (0,[(3,1)]), 7⟩, ⟨14, .u64, (0,[(1,1)]), (64,[(3,-1)]), 8⟩, ⟨16, .u64, (0,[(7,1)]), (0,[(8,1)]), 9⟩, ⟨13, .u64, (0,[(1,1)]), (0,[(3,1)]), 10⟩, ⟨14, .u64, (0,[(10,1)]), (32,[]), 11⟩, ⟨15, .u64, (0,[(10,1)]), (4294967295,[]), 12⟩, ⟨1, .u64, (0,[(9,1)]), (0,[(5,1)]), 13⟩, ⟨12, .u64, (0,[(13,1)]), (0,[(5,1)]), 14⟩, ⟨12, .u64, (0,[(9,1)]), (4294967296,[]), 16⟩, ⟨12, .u64, (0,[(15,1)]), (0,[(4,1)]), 17⟩, ⟨11, .u64, (0,[(11,1),(16,1)]), (0,[(17,1)]), 18⟩, ⟨1, .u64, (0,[(18,1)]), (0,[(5,1)]), 19⟩, ⟨12, .u64, (0,[(19,1)]), (0,[(5,1)]), 20⟩, ⟨12, .u64, (0,[(18,1)]), (4294967296,[]), 22⟩, ⟨12, .u64, (0,[(21,1)]), (0,[(4,1)]), 23⟩, ⟨11, .u64, (0,[(12,1),(22,1)]), (0,[(23,1)]), 24⟩, ⟨14, .u64, (0,[(24,1)]), (0,[(3,1)]), 25⟩]
def dvGe : List (Int × List (Nat × Int)) := [(-1,[(2,1),(0,-1)]), (0,[(9,1),(14,-1)]), (0,[(18,1),(20,-1)])]
def dvT : List HT := [⟨572, [.sint .u64 0 [(2,1)]], .sint .i64 0 [(3,1)]⟩]
noncomputable def dvE : Env := evE Tryz.prog (hkT dvT) dvBd dvGe dvNl
def dvLb : List (Int × Int) := dvBd ++ [(0, 4294967297), (0, 4294967295), (0, 18446744073709551615)]
def dvPr : NL := ⟨12, .u64, (0,[(26,1)]), (0,[(6,1)]), 28⟩
def dvG (t Q : Nat) : Nat → List (Int × List (Nat × Int))
 | 0 => [(4294967295,[(26,-1)]), (0,[(27,4294967296),(t,1),(28,-1)]), (0,[(26,1),(Q,-1)]), (0,[(Q,1),(26,-1)])]
 | 1 => [(-4294967296,[(26,1)]), (-4294967296,[(27,1),(5,1)]), (-1,[(26,1),(Q,-1)]), (1,[(Q,1),(26,-1)]), (-1,[(26,1)])]
 | 2 => [(4294967295,[(26,-1)]), (-1,[(28,1),(27,-4294967296),(t,-1)]), (-4294967296,[(27,1),(5,1)]), (-1,[(26,1),(Q,-1)]), (1,[(Q,1),(26,-1)]), (-1,[(26,1)])]
 | 3 => [(-4294967296,[(26,1)]), (4294967295,[(27,-1),(5,-1)]), (-1,[(26,1)])]
 | _ => [(4294967295,[(26,-1)]), (-1,[(28,1),(27,-4294967296),(t,-1)]), (4294967295,[(27,-1),(5,-1)]), (-1,[(26,1)])]
def dvN : Nat → List NL
 | 0 => [dvPr]
 | 1 => []
 | 2 => [dvPr]
 | 3 => []
 | _ => [dvPr]
noncomputable def dvC (t Q i : Nat) : Env := evE Tryz.prog (fun _ => none) dvLb (dvG t Q i) (dvN i)
def dvSub : List LF := [(-1,[(26,1)]), (0,[(5,1),(27,1)])]
noncomputable def dvS (idb qs : Nat) (W : List Nat) (u t Q qi pi : Nat) : LSpec where
 K := 26
 id := idb
 body := bodyOf idb Tryz.f534
 W := W
 inv := [(qs, .sint .u64 0 [(26,1)]), (16, .sint .u64 0 [(27,1)])]
 init := [(0,[(qi,1)]), (0,[(u,1),(pi,-1)])]
 cases := [⟨dvC t Q 0, 1, false, []⟩, ⟨dvC t Q 1, 1, false, []⟩, ⟨dvC t Q 2, 1, false, []⟩, ⟨dvC t Q 3, 1, true, dvSub⟩, ⟨dvC t Q 4, 1, true, dvSub⟩]
 fin := [(qs, .sint .u64 0 [(Q,1)])]
 need := []
noncomputable def dvA : LSpec := dvS 0 15 [15, 16, 67, 68, 69, 70, 71, 72, 73, 74, 75, 76, 77, 78, 79, 80, 81, 82, 83, 84, 85] 9 11 15 13 14
noncomputable def dvB : LSpec := dvS 2 18 [18, 16, 67, 68, 69, 70, 71, 72, 73, 74, 75, 76, 77, 78, 79, 80, 81, 82, 83, 84, 85, 102, 103, 104, 105, 106, 107, 108, 109, 110, 111, 112, 113, 114, 115, 116, 117, 118, 119, 120] 18 12 21 19 20
noncomputable def dvLk (i : Nat) : Option (Fr → H → RX) := bif Nat.beq i 0 then some (loopG dvA Tryz.f534.ntmps) else bif Nat.beq i 2 then some (loopG dvB Tryz.f534.ntmps) else none
theorem dvRun : ((runL dvE dvLk 10 Tryz.f534 [.sint .u64 0 [(0,1)], .sint .u64 0 [(1,1)], .sint .u64 0 [(2,1)]] H0).isV (.tuple [.sint .u64 0 [(21,1),(15,4294967296)], .sint .u64 0 [(25,1)]])) = true := by kernel_rfl
def dvGood (G : Gh) (u Q : Nat) (σ : Nat → Int) : Prop := G.σ Q ≤ σ 26 ∧ σ 26 ≤ 4294967297 ∧ 0 ≤ σ 27 ∧ σ 27 ≤ 4294967295 ∧ σ 27 = G.σ u - σ 26 * G.σ 5
set_option maxRecDepth 100000 in
set_option maxHeartbeats 1000000 in
theorem dv_sem {G : Gh} (hbd : bdOk G.σ dvBd 0) (idb qs : Nat) (W : List Nat) (u t Q qi pi : Nat) (ht : t < 26) (hQ : Q < 26)
 (rt : 0 ≤ G.σ t ∧ G.σ t ≤ 4294967295) (ry0 : 0 ≤ G.σ 6 ∧ G.σ 6 ≤ 4294967295) (ry1 : 2147483648 ≤ G.σ 5 ∧ G.σ 5 ≤ 4294967295) (rQ : 0 ≤ G.σ Q ∧ G.σ Q ≤ 4294967295)
 (l1 : G.σ Q * (G.σ 5 * 4294967296 + G.σ 6) ≤ G.σ u * 4294967296 + G.σ t) (l2 : G.σ u * 4294967296 + G.σ t < (G.σ Q + 1) * (G.σ 5 * 4294967296 + G.σ 6))
 (hq1 : G.σ Q ≤ G.σ qi) (hq2 : G.σ qi ≤ 4294967297) (hpi : G.σ pi = G.σ qi * G.σ 5) (hr : 0 ≤ G.σ u - G.σ pi ∧ G.σ u - G.σ pi ≤ 4294967295) :
 LSem Tryz.prog (dvS idb qs W u t Q qi pi) G (dvGood G u Q) (fun σ => (σ 26 - G.σ Q).toNat) := by
 refine ⟨fun σ' hσ hi => ?_, fun σ' hσ hgood => ?_⟩
 · have e26 : σ' 26 = 0 + (1 * G.σ qi + 0) := hi 0 _ rfl
   have e27 : σ' 27 = 0 + (1 * G.σ u + (-1 * G.σ pi + 0)) := hi 1 _ rfl
   have e26' : σ' 26 = G.σ qi := by omega
   have e27' : σ' 27 = G.σ u - G.σ pi := by omega
   unfold dvGood
   rw [e26', e27', hpi]
   rw [hpi] at hr
   exact ⟨hq1, hq2, hr.1, hr.2, rfl⟩
 · obtain ⟨k1, k2, k3, k4, k5⟩ := hgood
   obtain ⟨q, hq⟩ : ∃ z, z = σ' 26 := ⟨_, rfl⟩
   obtain ⟨rh, hrh⟩ : ∃ z, z = σ' 27 := ⟨_, rfl⟩
   rw [← hq] at k1 k2 k5
   rw [← hrh] at k3 k4 k5
   obtain ⟨T, hT⟩ : ∃ z, z = G.σ t := ⟨_, rfl⟩
   obtain ⟨Y0, hY0⟩ : ∃ z, z = G.σ 6 := ⟨_, rfl⟩
   obtain ⟨Y1, hY1⟩ : ∃ z, z = G.σ 5 := ⟨_, rfl⟩
   obtain ⟨V, hV⟩ : ∃ z, z = G.σ Q := ⟨_, rfl⟩
   rw [← hT] at rt l1 l2
   rw [← hY0] at ry0 l1 l2
   rw [← hY1] at ry1 l1 l2 k5
   rw [← hV] at rQ l1 l2 k1
   obtain ⟨g1, g2⟩ := guess (G.σ u) T Y1 Y0 q V rh k5 rt ry0 (by omega) l1 l2
   obtain ⟨pr, hpr⟩ : ∃ z : Int, z = if q ≤ 4294967295 then q * Y0 else 0 := ⟨_, rfl⟩
   have rpr : 0 ≤ pr ∧ pr ≤ 18446744073709551615 := by
    rw [hpr]
    by_cases hqm : q ≤ 4294967295
    · rw [if_pos hqm]
      have h1 : q * Y0 ≤ 4294967295 * 4294967295 := Int.mul_le_mul hqm ry0.2 ry0.1 (by omega)
      have h2 : 0 ≤ q * Y0 := Int.mul_nonneg (by omega) ry0.1
      omega
    · rw [if_neg hqm]; omega
   obtain ⟨σ2, hσ2⟩ : ∃ z, z = extσ σ' 28 [pr] := ⟨_, rfl⟩
   have hlow : ∀ i, i < 28 → σ2 i = σ' i := fun i hi => by rw [hσ2]; exact extσ_lo hi
   have s26 : σ2 26 = q := (hlow 26 (by decide)).trans hq.symm
   have s27 : σ2 27 = rh := (hlow 27 (by decide)).trans hrh.symm
   have s28 : σ2 28 = pr := by rw [hσ2]; rfl
   have st : σ2 t = T := (hlow t (by omega)).trans ((hσ t ht).trans hT.symm)
   have sQ : σ2 Q = V := (hlow Q (by omega)).trans ((hσ Q hQ).trans hV.symm)
   have s5 : σ2 5 = Y1 := (hlow 5 (by decide)).trans ((hσ 5 (by show 5 < 26; decide)).trans hY1.symm)
   have s6 : σ2 6 = Y0 := (hlow 6 (by decide)).trans ((hσ 6 (by show 6 < 26; decide)).trans hY0.symm)
   have hb2 : bdOk σ2 dvLb 0 := by
    refine bd_app (bd_congr (σ := G.σ) (fun i hi => ?_) hbd) ⟨?_, ?_, ?_, trivial⟩
    · have hi26 : i < 26 := by simpa [dvBd] using hi
      exact (hlow i (by omega)).trans (hσ i hi26)
    · show 0 ≤ σ2 26 ∧ σ2 26 ≤ _
      rw [s26]; omega
    · show 0 ≤ σ2 27 ∧ σ2 27 ≤ _
      rw [s27]; omega
    · show 0 ≤ σ2 28 ∧ σ2 28 ≤ _
      rw [s28]; exact rpr
   have hfacts : ∀ i, geOk σ2 (dvG t Q i) → (q ≤ 4294967295 ∨ dvN i = []) → ∀ G2 : Gh, G2.σ = σ2 → (∀ i, i < 1000 → G2.ε i = G.ε i) → G2.mono = G.mono → EnvOk (dvC t Q i) Tryz.prog G2 ∧ FnOk (dvC t Q i) Tryz.prog G2 := by
    intro i hge hn G2 h2 _ hmono
    have hnl : nlOk G2 (dvN i) := by
     have one : q ≤ 4294967295 → nlOk G2 [dvPr] := fun hqm => by
      refine ⟨.inr (.inr (.inr ?_)), trivial⟩
      show some (IntKind.u64.wrap ((0 + (1 * G2.σ 26 + 0)) * (0 + (1 * G2.σ 6 + 0)))) = some (G2.σ 28)
      rw [h2, s26, s6, s28, hpr, if_pos hqm]
      simp only [Int.zero_add, Int.add_zero, Int.one_mul]
      rw [hpr, if_pos hqm] at rpr
      rw [IntKind.wrap_u64, Int.emod_eq_of_lt rpr.1 (by omega)]
     rcases hn with hqm | hn
     · unfold dvN
       split <;> first | exact one hqm | trivial
     · rw [hn]; trivial
    have F : Facts G2 dvLb (dvG t Q i) (dvN i) := ⟨by rw [h2]; exact hb2, by rw [h2]; exact hge, hnl⟩
    exact ⟨evE_ok progOkB F.ends (geOk_at F.ge) (nlOk_at F.nl), evE_fn progOkB (fun _ _ h => (nomatch h))⟩
   have back : ∀ (i : Nat) (_ : V < q), (1 ≤ q) → rh + Y1 ≤ 4294967295 → ∀ σ3 : Nat → Int, (∀ j x, dvSub[j]? = some x → σ3 (26 + j) = LF.den σ2 x) → dvGood G u Q σ3 ∧ (σ3 26 - G.σ Q).toNat < (σ' 26 - G.σ Q).toNat := by
    intro _ hVq _ hnb σ3 hs3
    have e26 : σ3 26 = -1 + (1 * σ2 26 + 0) := hs3 0 _ rfl
    have e27 : σ3 27 = 0 + (1 * σ2 5 + (1 * σ2 27 + 0)) := hs3 1 _ rfl
    rw [s26] at e26
    rw [s5, s27] at e27
    have e26' : σ3 26 = q - 1 := by omega
    have e27' : σ3 27 = rh + Y1 := by omega
    unfold dvGood
    rw [e26', e27', ← hV, ← hY1, ← hq, Int.sub_mul, Int.one_mul]
    omega
   have mem : ∀ (i : Nat) (b : Bool) (x : List LF), (⟨dvC t Q i, 1, b, x⟩ : LCase) ∈ [(⟨dvC t Q 0, 1, false, []⟩ : LCase), ⟨dvC t Q 1, 1, false, []⟩, ⟨dvC t Q 2, 1, false, []⟩, ⟨dvC t Q 3, 1, true, dvSub⟩, ⟨dvC t Q 4, 1, true, dvSub⟩] → (⟨dvC t Q i, 1, b, x⟩ : LCase) ∈ (dvS idb qs W u t Q qi pi).cases := fun _ _ _ h => h
   have hlow2 : ∀ i, i < (dvS idb qs W u t Q qi pi).K + (dvS idb qs W u t Q qi pi).init.length → σ2 i = σ' i := hlow
   by_cases hb : 4294967296 ≤ q
   · by_cases hk : 4294967296 ≤ rh + Y1
     · have := g2 k2 (by omega) hk
       exact ⟨⟨dvC t Q 1, 1, false, []⟩, mem 1 _ _ (by simp), σ2, hlow2, hfacts 1 (by simp only [dvG, geOk, and_true, den, s26, s27, s5, sQ]; omega) (.inr rfl), fun h => by cases h⟩
     · exact ⟨⟨dvC t Q 3, 1, true, dvSub⟩, mem 3 _ _ (by simp), σ2, hlow2, hfacts 3 (by simp only [dvG, geOk, and_true, den, s26, s27, s5]; omega) (.inr rfl), fun _ σ3 _ hs3 => back 3 (by omega) (by omega) (by omega) σ3 hs3⟩
   · have hqm : q ≤ 4294967295 := by omega
     rw [if_pos hqm] at hpr
     by_cases hc : q * Y0 ≤ 4294967296 * rh + T
     · have := g1.1 hc
       exact ⟨⟨dvC t Q 0, 1, false, []⟩, mem 0 _ _ (by simp), σ2, hlow2, hfacts 0 (by simp only [dvG, geOk, and_true, den, s26, s27, s28, st, sQ]; omega) (.inl hqm), fun h => by cases h⟩
     · have hVq : V < q := by
        by_cases h : q ≤ V
        · exact absurd (g1.2 h) hc
        · omega
       by_cases hk : 4294967296 ≤ rh + Y1
       · have := g2 k2 (by omega) hk
         exact ⟨⟨dvC t Q 2, 1, false, []⟩, mem 2 _ _ (by simp), σ2, hlow2, hfacts 2 (by simp only [dvG, geOk, and_true, den, s26, s27, s28, s5, st, sQ]; omega) (.inl hqm), fun h => by cases h⟩
       · exact ⟨⟨dvC t Q 4, 1, true, dvSub⟩, mem 4 _ _ (by simp), σ2, hlow2, hfacts 4 (by simp only [dvG, geOk, and_true, den, s26, s27, s28, s5, st]; omega) (.inl hqm), fun _ σ3 _ hs3 => back 4 (by omega) (by omega) (by omega) σ3 hs3⟩
end Go.Proofs.YtmfmjhklajmhoaaGreat
/- math/bits.Div64: what it hands back. -/
namespace Go.Proofs.YtmfmjhklajmhoaaGreat
open Go Go.RowKit Gv
theorem x13 {x s z : Int} {S : Nat} (hS : S ≤ 63) (hs : s = (S : Int)) (hz : x * 2 ^ S % 18446744073709551616 = z) : intRes 13 .u64 (0 + (1 * x + 0)) (0 + (1 * s + 0)) = some z := by
 simp only [Int.zero_add, Int.add_zero, Int.one_mul]
 subst hs
 show (if (S : Int) < 0 then none else some (IntKind.u64.wrap (x * 2 ^ Nat.min (S : Int).toNat 64))) = _
 rw [if_neg (by omega), show Nat.min (S : Int).toNat 64 = S from Nat.min_eq_left (by simp; omega), IntKind.wrap_u64, hz]
theorem x14 {x a b z : Int} {S : Nat} (hS : S ≤ 64) (hs : a + b = (S : Int)) (hz : x / 2 ^ S = z) : intRes 14 .u64 (0 + (1 * x + 0)) (a + b) = some z := by
 simp only [Int.zero_add, Int.add_zero, Int.one_mul]
 rw [hs]
 show (if (S : Int) < 0 then none else some (x.fdiv (2 ^ Nat.min (S : Int).toNat 64))) = _
 rw [if_neg (by omega), show Nat.min (S : Int).toNat 64 = S from Nat.min_eq_left (by simpa using hS), Int.fdiv_eq_ediv_of_nonneg _ (Int.le_of_lt (Int.pow_pos (by decide))), hz]
theorem x15 {x z : Int} (hx : 0 ≤ x ∧ x ≤ 18446744073709551615) (hz : x % 4294967296 = z) : intRes 15 .u64 (0 + (1 * x + 0)) (4294967295 + 0) = some z := by
 simp only [Int.zero_add, Int.add_zero, Int.one_mul]
 obtain ⟨n, rfl⟩ := Int.eq_ofNat_of_zero_le hx.1
 show some (IntKind.u64.wrap ((BitVec.ofInt 64 (n : Int) &&& BitVec.ofInt 64 4294967295).toNat : Int)) = _
 rw [and_mask n (by omega), IntKind.wrap_u64]
 congr 1
 omega
theorem x12 {x y z : Int} (hz : x * y % 18446744073709551616 = z) : intRes 12 .u64 (0 + (1 * x + 0)) (0 + (1 * y + 0)) = some z := by
 simp only [Int.zero_add, Int.add_zero, Int.one_mul]
 show some (IntKind.u64.wrap (x * y)) = _
 rw [IntKind.wrap_u64, hz]
theorem x12c {x z : Int} (hz : x * 4294967296 % 18446744073709551616 = z) : intRes 12 .u64 (0 + (1 * x + 0)) (4294967296 + 0) = some z := by
 simp only [Int.zero_add, Int.add_zero, Int.one_mul]
 show some (IntKind.u64.wrap (x * 4294967296)) = _
 rw [IntKind.wrap_u64, hz]
theorem x11 {x y b z : Int} (hz : (x + y - b) % 18446744073709551616 = z) : intRes 11 .u64 (0 + (1 * x + (1 * y + 0))) (0 + (1 * b + 0)) = some z := by
 simp only [Int.zero_add, Int.add_zero, Int.one_mul]
 show some (IntKind.u64.wrap (x + y - b)) = _
 rw [IntKind.wrap_u64, hz]
theorem x1 {x y z : Int} (hx : 0 ≤ x) (hz : x / y = z) (hb : 0 ≤ z ∧ z ≤ 18446744073709551615) : IntKind.u64.wrap ((0 + (1 * x + 0)).tdiv (0 + (1 * y + 0))) = z := by
 simp only [Int.zero_add, Int.add_zero, Int.one_mul]
 rw [Int.tdiv_eq_ediv_of_nonneg hx, hz, IntKind.wrap_u64]
 omega
theorem start {u y1 : Int} (h1 : 2147483648 ≤ y1 ∧ y1 ≤ 4294967295) (hu : 0 ≤ u ∧ u ≤ 18446744073709551615) : 0 ≤ u / y1 * y1 ∧ u / y1 * y1 ≤ 18446744073709551615 ∧ 0 ≤ u - u / y1 * y1 ∧ u - u / y1 * y1 ≤ 4294967295 := by
 have a := div_lo (a := u) (b := y1) (by omega)
 have b := div_hi (a := u) (b := y1) (by omega)
 have c : 0 ≤ u / y1 * y1 := Int.mul_nonneg (Int.ediv_nonneg hu.1 (by omega)) (by omega)
 rw [Int.add_mul, Int.one_mul] at b
 omega
set_option maxRecDepth 100000 in
set_option maxHeartbeats 4000000 in
theorem div64_big (hi lo y : Int) (rhi : 1 ≤ hi ∧ hi ≤ 18446744073709551615) (rlo : 0 ≤ lo ∧ lo ≤ 18446744073709551615) (ry : 1 ≤ y ∧ y ≤ 18446744073709551615) (hlt : hi < y) (w : World) :
 Calls Tryz.prog 534 #[.int .u64 hi, .int .u64 lo, .int .u64 y] w fun e w' => e = .returned (.tuple #[.int .u64 ((hi * 18446744073709551616 + lo) / y), .int .u64 ((hi * 18446744073709551616 + lo) % y)]) ∧ Below w.heap.size w w' := by
 obtain ⟨S, hS, hs, hyl, hyh, hpr, hp1⟩ := shift_nums y ry.1 ry.2
 obtain ⟨p, hp⟩ : ∃ z : Int, z = 2 ^ S := ⟨_, rfl⟩
 obtain ⟨r, hr⟩ : ∃ z : Int, z = 2 ^ (64 - S) := ⟨_, rfl⟩
 rw [← hp] at hyl hyh hpr hp1
 rw [← hr] at hpr
 have hr0 : 0 < r := by rw [hr]; exact Int.pow_pos (by decide)
 obtain ⟨s, hss⟩ : ∃ z : Int, z = (S : Int) := ⟨_, rfl⟩
 obtain ⟨yy, hyy⟩ : ∃ z : Int, z = y * p := ⟨_, rfl⟩
 rw [← hyy] at hyl hyh
 obtain ⟨y1, hy1⟩ : ∃ z : Int, z = yy / 4294967296 := ⟨_, rfl⟩
 obtain ⟨y0, hy0⟩ : ∃ z : Int, z = yy % 4294967296 := ⟨_, rfl⟩
 have hsplit : yy = y1 * 4294967296 + y0 := by omega
 have ry1 : 2147483648 ≤ y1 ∧ y1 ≤ 4294967295 := by omega
 have ry0 : 0 ≤ y0 ∧ y0 ≤ 4294967295 := by omega
 obtain ⟨his, hhis⟩ : ∃ z : Int, z = hi * p := ⟨_, rfl⟩
 obtain ⟨los, hlos⟩ : ∃ z : Int, z = lo / r := ⟨_, rfl⟩
 have hlos0 : 0 ≤ los := by rw [hlos]; exact Int.ediv_nonneg rlo.1 (by omega)
 have hlosp : los < p := by rw [hlos]; exact (Int.ediv_lt_iff_lt_mul hr0).2 (by rw [hpr]; omega)
 have hhis0 : 0 ≤ his := by rw [hhis]; exact Int.mul_nonneg (by omega) (by omega)
 have hhisy : his + p ≤ yy := by
  have := Int.mul_le_mul_of_nonneg_right (show hi + 1 ≤ y by omega) (show 0 ≤ p by omega)
  rw [Int.add_mul, Int.one_mul] at this
  rw [hhis, hyy]; exact this
 obtain ⟨u, hu⟩ : ∃ z : Int, z = his + los := ⟨_, rfl⟩
 have huy : u < y1 * 4294967296 + y0 := by omega
 have ru : 0 ≤ u ∧ u ≤ 18446744073709551615 := by omega
 obtain ⟨w0, hw0⟩ : ∃ z : Int, z = lo * p % 18446744073709551616 := ⟨_, rfl⟩
 obtain ⟨t1, ht1⟩ : ∃ z : Int, z = w0 / 4294967296 := ⟨_, rfl⟩
 obtain ⟨t0, ht0⟩ : ∃ z : Int, z = w0 % 4294967296 := ⟨_, rfl⟩
 have rw0 : 0 ≤ w0 ∧ w0 ≤ 18446744073709551615 := by omega
 have rt1 : 0 ≤ t1 ∧ t1 ≤ 4294967295 := by omega
 have rt0 : 0 ≤ t0 ∧ t0 ≤ 4294967295 := by omega
 have ht : t1 * 4294967296 + t0 = lo * p % 18446744073709551616 := by omega
 obtain ⟨Q1, q10, q11, hQ1, l1, l2, g1, g2⟩ := digit u t1 y1 y0 ru.1 rt1 ry1 ry0 huy
 rw [← hsplit] at hQ1
 obtain ⟨vv, hvv⟩ : ∃ z : Int, z = u * 4294967296 + t1 - Q1 * (y1 * 4294967296 + y0) := ⟨_, rfl⟩
 have hvy : vv < y1 * 4294967296 + y0 := by rw [Int.add_mul, Int.one_mul] at l2; omega
 have rvv : 0 ≤ vv ∧ vv ≤ 18446744073709551615 := by omega
 obtain ⟨Q0, q00, q01, hQ0, m1, m2, g3, g4⟩ := digit vv t0 y1 y0 rvv.1 rt0 ry1 ry0 hvy
 rw [← hsplit] at hQ0
 obtain ⟨a1, a2, a3, a4⟩ := start ry1 ru
 obtain ⟨b1, b2, b3, b4⟩ := start ry1 rvv
 obtain ⟨qa, hqa⟩ : ∃ z : Int, z = u / y1 := ⟨_, rfl⟩
 obtain ⟨pa, hpa⟩ : ∃ z : Int, z = qa * y1 := ⟨_, rfl⟩
 obtain ⟨qb, hqb⟩ : ∃ z : Int, z = vv / y1 := ⟨_, rfl⟩
 obtain ⟨pb, hpb⟩ : ∃ z : Int, z = qb * y1 := ⟨_, rfl⟩
 rw [← hqa] at a1 a2 a3 a4 g1 g2
 rw [← hpa] at a1 a2 a3 a4
 rw [← hqb] at b1 b2 b3 b4 g3 g4
 rw [← hpb] at b1 b2 b3 b4
 obtain ⟨w1, hw1⟩ : ∃ z : Int, z = u * 4294967296 % 18446744073709551616 := ⟨_, rfl⟩
 obtain ⟨w2, hw2⟩ : ∃ z : Int, z = Q1 * yy % 18446744073709551616 := ⟨_, rfl⟩
 obtain ⟨w3, hw3⟩ : ∃ z : Int, z = vv * 4294967296 % 18446744073709551616 := ⟨_, rfl⟩
 obtain ⟨w4, hw4⟩ : ∃ z : Int, z = Q0 * yy % 18446744073709551616 := ⟨_, rfl⟩
 obtain ⟨w5, hw5⟩ : ∃ z : Int, z = vv * 4294967296 + t0 - Q0 * (y1 * 4294967296 + y0) := ⟨_, rfl⟩
 have hw5y : w5 < y1 * 4294967296 + y0 := by rw [Int.add_mul, Int.one_mul] at m2; omega
 have rw5 : 0 ≤ w5 ∧ w5 ≤ 18446744073709551615 := by omega
 obtain ⟨rem, hrem⟩ : ∃ z : Int, z = w5 / p := ⟨_, rfl⟩
 have rrem : 0 ≤ rem ∧ rem ≤ 18446744073709551615 := by
  rw [hrem]
  exact ⟨Int.ediv_nonneg rw5.1 (by omega), Int.le_trans (Int.ediv_le_self _ rw5.1) rw5.2⟩
 have f18 : (t1 + w1 - w2) % 18446744073709551616 = vv := by rw [← hsplit] at hvv; omega
 have f24 : (t0 + w3 - w4) % 18446744073709551616 = w5 := by rw [← hsplit] at hw5; omega
 obtain ⟨e1, e2⟩ := whole hi lo y p r u t1 t0 Q1 Q0 vv hp1 hpr ry.1 (by rw [hu, hhis, hlos]) ht (by rw [hvv, ← hsplit, hyy]) (by rw [← hyy, hsplit]; exact m1) (by rw [← hyy, hsplit]; exact m2)
 rw [← hyy, hsplit, ← hw5, ← hrem] at e2
 rw [e1, ← e2]
 obtain ⟨G, hG⟩ : ∃ G, G = mkGh [] [hi, lo, y, s, yy, y1, y0, his, los, u, w0, t1, t0, qa, pa, Q1, w1, w2, vv, qb, pb, Q0, w3, w4, w5, rem] rfl := ⟨_, rfl⟩
 have s0 : G.σ 0 = hi := by rw [hG]; rfl
 have s1 : G.σ 1 = lo := by rw [hG]; rfl
 have s2 : G.σ 2 = y := by rw [hG]; rfl
 have s3 : G.σ 3 = s := by rw [hG]; rfl
 have s4 : G.σ 4 = yy := by rw [hG]; rfl
 have s5 : G.σ 5 = y1 := by rw [hG]; rfl
 have s6 : G.σ 6 = y0 := by rw [hG]; rfl
 have s7 : G.σ 7 = his := by rw [hG]; rfl
 have s8 : G.σ 8 = los := by rw [hG]; rfl
 have s9 : G.σ 9 = u := by rw [hG]; rfl
 have s10 : G.σ 10 = w0 := by rw [hG]; rfl
 have s11 : G.σ 11 = t1 := by rw [hG]; rfl
 have s12 : G.σ 12 = t0 := by rw [hG]; rfl
 have s13 : G.σ 13 = qa := by rw [hG]; rfl
 have s14 : G.σ 14 = pa := by rw [hG]; rfl
 have s15 : G.σ 15 = Q1 := by rw [hG]; rfl
 have s16 : G.σ 16 = w1 := by rw [hG]; rfl
 have s17 : G.σ 17 = w2 := by rw [hG]; rfl
 have s18 : G.σ 18 = vv := by rw [hG]; rfl
 have s19 : G.σ 19 = qb := by rw [hG]; rfl
 have s20 : G.σ 20 = pb := by rw [hG]; rfl
 have s21 : G.σ 21 = Q0 := by rw [hG]; rfl
 have s22 : G.σ 22 = w3 := by rw [hG]; rfl
 have s23 : G.σ 23 = w4 := by rw [hG]; rfl
 have s24 : G.σ 24 = w5 := by rw [hG]; rfl
 have s25 : G.σ 25 = rem := by rw [hG]; rfl
 have hm : ¬ G.mono := by rw [hG]; exact fun h => h
 have rs3 : 0 ≤ s ∧ s ≤ 63 := by omega
 have r7 : 0 ≤ his ∧ his ≤ 18446744073709551615 := by omega
 have r8 : 0 ≤ los ∧ los ≤ 18446744073709551615 := by omega
 have r13 : 0 ≤ qa ∧ qa ≤ 4294967297 := by omega
 have r16 : 0 ≤ w1 ∧ w1 ≤ 18446744069414584320 := by omega
 have r17 : 0 ≤ w2 ∧ w2 ≤ 18446744073709551615 := by omega
 have r19 : 0 ≤ qb ∧ qb ≤ 4294967297 := by omega
 have r22 : 0 ≤ w3 ∧ w3 ≤ 18446744069414584320 := by omega
 have r23 : 0 ≤ w4 ∧ w4 ≤ 18446744073709551615 := by omega
 have hbd : bdOk G.σ dvBd 0 := by
  rw [hG]
  exact ⟨rhi, rlo, ry, rs3, ⟨hyl, hyh⟩, ry1, ry0, r7, r8, ru, rw0, rt1, rt0, r13, ⟨a1, a2⟩, ⟨q10, q11⟩, r16, r17, rvv, r19, ⟨b1, b2⟩, ⟨q00, q01⟩, r22, r23, rw5, rrem, trivial⟩
 have hge : geOk G.σ dvGe := by
  refine ⟨?_, ?_, ?_, trivial⟩
  · show 0 ≤ -1 + (1 * G.σ 2 + (-1 * G.σ 0 + 0)); rw [s2, s0]; omega
  · show 0 ≤ 0 + (1 * G.σ 9 + (-1 * G.σ 14 + 0)); rw [s9, s14]; omega
  · show 0 ≤ 0 + (1 * G.σ 18 + (-1 * G.σ 20 + 0)); rw [s18, s20]; omega
 have hor : intRes 16 .u64 (0 + (1 * his + 0)) (0 + (1 * los + 0)) = some u := by
  simp only [Int.zero_add, Int.add_zero, Int.one_mul]
  obtain ⟨a, ha⟩ := Int.eq_ofNat_of_zero_le (show 0 ≤ hi by omega)
  obtain ⟨b, hb⟩ := Int.eq_ofNat_of_zero_le hlos0
  have hpn : p = ((2 ^ S : Nat) : Int) := by rw [hp, Int.natCast_pow]; rfl
  have hh : his = ((a * 2 ^ S : Nat) : Int) := by rw [hhis, ha, hpn, Int.natCast_mul]
  show some (IntKind.u64.wrap ((BitVec.ofInt 64 his ||| BitVec.ofInt 64 los).toNat : Int)) = _
  rw [hh, hb, or_add a b S (by omega) (by omega), IntKind.wrap_u64, hu]
  congr 1
  omega
 have f4 : y * 2 ^ S % 18446744073709551616 = yy := by rw [← hp, ← hyy]; omega
 have f5 : yy / 2 ^ 32 = y1 := hy1.symm
 have f7 : hi * 2 ^ S % 18446744073709551616 = his := by rw [← hp, ← hhis]; omega
 have f8 : lo / 2 ^ (64 - S) = los := by rw [← hr, hlos]
 have f8' : (64 : Int) + (-1 * s + 0) = ((64 - S : Nat) : Int) := by omega
 have f10 : lo * 2 ^ S % 18446744073709551616 = w0 := by rw [← hp]; exact hw0.symm
 have f11 : w0 / 2 ^ 32 = t1 := ht1.symm
 have f14 : qa * y1 % 18446744073709551616 = pa := by rw [← hpa]; omega
 have f20 : qb * y1 % 18446744073709551616 = pb := by rw [← hpb]; omega
 have f25 : w5 / 2 ^ S = rem := by rw [← hp, hrem]
 have f25' : (0 : Int) + (1 * s + 0) = ((S : Nat) : Int) := by omega
 have fy1 : (0 + (1 * y1 + 0) : Int) ≠ 0 := by omega
 have f13 : 0 ≤ qa ∧ qa ≤ 18446744073709551615 := by omega
 have f19 : 0 ≤ qb ∧ qb ≤ 18446744073709551615 := by omega
 have fyy : 0 ≤ yy ∧ yy ≤ 18446744073709551615 := by omega
 have hS64 : S ≤ 64 := by omega
 have hS64' : 64 - S ≤ 64 := by omega
 have hnl : nlOk G dvNl := by
  rw [hG]
  exact ⟨.inr (.inr (.inr (x13 hS hss f4))), .inr (.inr (.inr (x14 (S := 32) (by decide) rfl f5))), .inr (.inr (.inr (x15 fyy hy0.symm))),
   .inr (.inr (.inr (x13 hS hss f7))), .inr (.inr (.inr (x14 hS64' f8' f8))), .inr (.inr (.inr hor)), .inr (.inr (.inr (x13 hS hss f10))),
   .inr (.inr (.inr (x14 (S := 32) (by decide) rfl f11))), .inr (.inr (.inr (x15 rw0 ht0.symm))), .inr (.inl ⟨rfl, fy1, x1 ru.1 hqa.symm f13⟩),
   .inr (.inr (.inr (x12 f14))), .inr (.inr (.inr (x12c hw1.symm))), .inr (.inr (.inr (x12 hw2.symm))), .inr (.inr (.inr (x11 f18))),
   .inr (.inl ⟨rfl, fy1, x1 rvv.1 hqb.symm f19⟩), .inr (.inr (.inr (x12 f20))), .inr (.inr (.inr (x12c hw3.symm))), .inr (.inr (.inr (x12 hw4.symm))),
   .inr (.inr (.inr (x11 f24))), .inr (.inr (.inr (x14 hS64 f25' f25))), trivial⟩
 have agree : ∀ {G1 : Gh}, GLe 26 G G1 → bdOk G1.σ dvBd 0 ∧ geOk G1.σ dvGe ∧ nlOk G1 dvNl := by
  intro G1 g
  have e : ∀ i, i < 26 → G1.σ i = G.σ i := g.σ
  refine ⟨bd_congr (σ := G.σ) (fun i hi => e i (by simpa [dvBd] using hi)) hbd, ?_, ?_⟩
  · simp only [dvGe, geOk, den] at hge ⊢
    rw [e 0 (by decide), e 2 (by decide), e 9 (by decide), e 14 (by decide), e 18 (by decide), e 20 (by decide)]
    exact hge
  · simp only [dvNl, nlOk, NLOk, nlMore, den] at hnl ⊢
    rw [e 1 (by decide), e 2 (by decide), e 3 (by decide), e 4 (by decide), e 5 (by decide), e 6 (by decide), e 7 (by decide), e 8 (by decide), e 9 (by decide), e 10 (by decide), e 11 (by decide), e 12 (by decide), e 13 (by decide), e 14 (by decide), e 15 (by decide), e 16 (by decide), e 17 (by decide), e 18 (by decide), e 19 (by decide), e 20 (by decide), e 21 (by decide), e 22 (by decide), e 23 (by decide), e 24 (by decide), e 25 (by decide), e 0 (by decide)]
    exact hnl
 have hE : ∀ G1, GLe 26 G G1 → EnvOk dvE Tryz.prog G1 := fun G1 g => by
  obtain ⟨x1, x2, x3⟩ := agree g
  have F : Facts G1 dvBd dvGe dvNl := ⟨x1, x2, x3⟩
  exact evE_ok progOkB F.ends (geOk_at F.ge) (nlOk_at F.nl)
 have hF : ∀ G1, GLe 26 G G1 → FnOk dvE Tryz.prog G1 := fun G1 g => by
  have hm1 : ¬ G1.mono := by rw [g.mono]; exact hm
  refine evE_fn progOkB (hkT_ok progOkB dvT (fun t ht => ?_) hm1)
  simp only [dvT, List.mem_cons, List.not_mem_nil, or_false] at ht
  subst ht
  have z2 : G1.σ 2 = y := (g.σ 2 (by decide)).trans s2
  have z3 : G1.σ 3 = s := (g.σ 3 (by decide)).trans s3
  refine HTOk.of Tryz.func572 rfl (ul := [.int .u64 y]) (u := .int .i64 s) (fun φ => by simp [concL, conc, den, z2]) (fun φ => by simp [conc, den, z3]) (fun w => ?_)
  refine (Tryz.bits_LeadingZeros64 y w (by omega) ry.2).mono ?_
  rintro e w' ⟨rfl, rfl⟩
  exact ⟨by rw [hs, hss], Below.refl _ _⟩
 have semA : LSem Tryz.prog dvA G (dvGood G 9 15) (fun σ => (σ 26 - G.σ 15).toNat) :=
  dv_sem hbd 0 15 _ 9 11 15 13 14 (by decide) (by decide) (by rw [s11]; exact rt1) (by rw [s6]; exact ry0) (by rw [s5]; exact ry1) (by rw [s15]; exact ⟨q10, q11⟩)
   (by rw [s15, s5, s6, s9, s11]; exact l1) (by rw [s15, s5, s6, s9, s11]; exact l2) (by rw [s15, s13]; exact g1) (by rw [s13]; exact g2) (by rw [s14, s13, s5]; exact hpa) (by rw [s9, s14]; exact ⟨a3, a4⟩)
 have semB : LSem Tryz.prog dvB G (dvGood G 18 21) (fun σ => (σ 26 - G.σ 21).toNat) :=
  dv_sem hbd 2 18 _ 18 12 21 19 20 (by decide) (by decide) (by rw [s12]; exact rt0) (by rw [s6]; exact ry0) (by rw [s5]; exact ry1) (by rw [s21]; exact ⟨q00, q01⟩)
   (by rw [s21, s5, s6, s18, s12]; exact m1) (by rw [s21, s5, s6, s18, s12]; exact m2) (by rw [s21, s19]; exact g3) (by rw [s19]; exact g4) (by rw [s20, s19, s5]; exact hpb) (by rw [s18, s20]; exact ⟨b3, b4⟩)
 have hrun := dvRun
 unfold RV.isV at hrun
 cases hr : runL dvE dvLk 10 Tryz.f534 [.sint .u64 0 [(0,1)], .sint .u64 0 [(1,1)], .sint .u64 0 [(2,1)]] H0 with
 | bad m i => rw [hr] at hrun; cases hrun
 | ok x h' =>
   rw [hr] at hrun
   have hx := sameV_eq hrun
   subst hx
   have r0 : HRel G (fun _ => none) H0 w := ⟨fun b x l hb => (nomatch hb), fun b b' x x' l l' hb => (nomatch hb), fun b _ => rfl⟩
   have hul : concL G (fun _ => none) [.sint .u64 0 [(0,1)], .sint .u64 0 [(1,1)], .sint .u64 0 [(2,1)]] = some [.int .u64 hi, .int .u64 lo, .int .u64 y] := by
    simp [concL, conc, den, s0, s1, s2]
   refine (runL_ok (K := 26) (G := G) hE hF Tryz.func534 rfl (lk_two (by kernel_rfl) (by kernel_rfl) (loop_piece semA) (loop_piece semB)) hr hul r0 (fun _ _ _ => rfl)).mono ?_
   rintro e w' ⟨v, rfl, G2, gg, φ', hv, r', f', x⟩
   have hv2 : conc G2 φ' (.tuple [.sint .u64 0 [(21,1),(15,4294967296)], .sint .u64 0 [(25,1)]]) = some (.tuple #[.int .u64 (Q1 * 4294967296 + Q0), .int .u64 rem]) := by
    have z15 : G2.σ 15 = Q1 := (gg.σ 15 (by decide)).trans s15
    have z21 : G2.σ 21 = Q0 := (gg.σ 21 (by decide)).trans s21
    have z25 : G2.σ 25 = rem := (gg.σ 25 (by decide)).trans s25
    have i1 : conc G2 φ' (.sint .u64 0 [(21,1),(15,4294967296)]) = some (.int .u64 (Q1 * 4294967296 + Q0)) := by
     rw [conc]
     show some (Value.int .u64 (0 + (1 * G2.σ 21 + (4294967296 * G2.σ 15 + 0)))) = _
     rw [z15, z21, show (0 : Int) + (1 * Q0 + (4294967296 * Q1 + 0)) = Q1 * 4294967296 + Q0 from by omega]
    have i2 : conc G2 φ' (.sint .u64 0 [(25,1)]) = some (.int .u64 rem) := by simp [conc, den, z25]
    rw [conc, concL_cons.2 ⟨_, _, i1, concL_cons.2 ⟨_, _, i2, concL_nil, rfl⟩, rfl⟩]
   rw [hv2] at hv
   cases hv
   refine ⟨rfl, f'.os, f'.tape, f'.output, f'.size, fun k hk => f'.block k hk ?_⟩
   rintro ⟨b, y, l, hb, _⟩
   exact (nomatch hb)
end Go.Proofs.YtmfmjhklajmhoaaGreat
/- money.MulDiv: a contract, and a hook at numbers. -/
namespace Go.Proofs.YtmfmjhklajmhoaaGreat
open Go Go.RowKit Gv
def dsBd : List (Int × Int) := [(0, 18446744073709551615), (1, 18446744073709551615), (0, 18446744073709551615), (0, 18446744073709551615)]
def dsNl : List NL := [⟨1, .u64, (0,[(0,1)]), (0,[(1,1)]), 2⟩, ⟨2, .u64, (0,[(0,1)]), (0,[(1,1)]), 3⟩]
theorem dsRun : ((callN (evE Tryz.prog (fun _ => none) dsBd [] dsNl) 10 534 [.int .u64 0, .sint .u64 0 [(0,1)], .sint .u64 0 [(1,1)]] H0).isV (.tuple [.sint .u64 0 [(2,1)], .sint .u64 0 [(3,1)]])) = true := by kernel_rfl
theorem div64_small (lo y : Int) (rlo : 0 ≤ lo ∧ lo ≤ 18446744073709551615) (ry : 1 ≤ y ∧ y ≤ 18446744073709551615) (w : World) :
 Calls Tryz.prog 534 #[.int .u64 0, .int .u64 lo, .int .u64 y] w fun e w' => e = .returned (.tuple #[.int .u64 (lo / y), .int .u64 (lo % y)]) ∧ Below w.heap.size w w' := by
 obtain ⟨q, hq⟩ : ∃ z : Int, z = lo / y := ⟨_, rfl⟩
 obtain ⟨r, hr⟩ : ∃ z : Int, z = lo % y := ⟨_, rfl⟩
 have rq : 0 ≤ q ∧ q ≤ 18446744073709551615 := by rw [hq]; exact ⟨Int.ediv_nonneg rlo.1 (by omega), Int.le_trans (Int.ediv_le_self _ rlo.1) rlo.2⟩
 have rr : 0 ≤ r ∧ r ≤ 18446744073709551615 := by
  rw [hr]
  have := Int.emod_nonneg lo (show y ≠ 0 by omega)
  have := Int.emod_lt_of_pos lo (show 0 < y by omega)
  omega
 rw [← hq, ← hr]
 obtain ⟨G, hG⟩ : ∃ G, G = mkGh [] [lo, y, q, r] rfl := ⟨_, rfl⟩
 have fy : (0 + (1 * y + 0) : Int) ≠ 0 := by omega
 have hrem : ((0 + (1 * lo + 0))).tmod (0 + (1 * y + 0)) = r := by
  simp only [Int.zero_add, Int.add_zero, Int.one_mul]
  rw [Int.tmod_eq_emod_of_nonneg rlo.1, hr]
 have F : Facts G dsBd [] dsNl := by
  rw [hG]
  exact ⟨⟨rlo, ry, rq, rr, trivial⟩, trivial, ⟨.inr (.inl ⟨rfl, fy, x1 rlo.1 hq.symm rq⟩), .inr (.inr (.inl ⟨rfl, fy, hrem⟩)), trivial⟩⟩
 exact run_val (G := G) progOkB F noHooks Tryz.func534 rfl (by rw [hG]; simp [concL, conc, den, mkGh]) dsRun (fun φ => by rw [hG]; simp [concL, conc, den, mkGh]) w
theorem div64_ok (hi lo y : Int) (rhi : 0 ≤ hi) (rlo : 0 ≤ lo ∧ lo ≤ 18446744073709551615) (ry : y ≤ 18446744073709551615) (hlt : hi < y) (w : World) :
 Calls Tryz.prog 534 #[.int .u64 hi, .int .u64 lo, .int .u64 y] w fun e w' => e = .returned (.tuple #[.int .u64 ((hi * 18446744073709551616 + lo) / y), .int .u64 ((hi * 18446744073709551616 + lo) % y)]) ∧ Below w.heap.size w w' := by
 by_cases h : hi = 0
 · subst h
   have := div64_small lo y rlo (by omega) w
   rwa [show (0 : Int) * 18446744073709551616 + lo = lo from by omega]
 · exact div64_big hi lo y (by omega) rlo (by omega) hlt w
def mmBd : List (Int × Int) := [(0, 9223372036854775807), (0, 9223372036854775807), (1, 9223372036854775807), (0, 18446744073709551615), (0, 18446744073709551615), (0, 18446744073709551615), (0, 18446744073709551615)]
def mmT : List HT := [⟨533, [.sint .u64 0 [(0,1)], .sint .u64 0 [(1,1)]], .tuple [.sint .u64 0 [(3,1)], .sint .u64 0 [(4,1)]]⟩, ⟨534, [.sint .u64 0 [(3,1)], .sint .u64 0 [(4,1)], .sint .u64 0 [(2,1)]], .tuple [.sint .u64 0 [(5,1)], .sint .u64 0 [(6,1)]]⟩]
def mmT1 : List HT := [⟨533, [.sint .u64 0 [(0,1)], .sint .u64 0 [(1,1)]], .tuple [.sint .u64 0 [(3,1)], .sint .u64 0 [(4,1)]]⟩]
def mmGe : Nat → List (Int × List (Nat × Int))
 | 0 => [(0,[(3,1),(2,-1)])]
 | 1 => [(-1,[(2,1),(3,-1)]), (-1152921504606846977,[(5,1)])]
 | _ => [(-1,[(2,1),(3,-1)]), (1152921504606846976,[(5,-1)])]
def mmA : List V := [.sint .i64 0 [(0,1)], .sint .i64 0 [(1,1)], .sint .i64 0 [(2,1)]]
theorem mmRun0 : ((callN (evE Tryz.prog (hkT mmT1) mmBd (mmGe 0) []) 10 456 mmA H0).isV (.tuple [.int .i64 0, .int .i64 12])) = true := by kernel_rfl
theorem mmRun1 : ((callN (evE Tryz.prog (hkT mmT) mmBd (mmGe 1) []) 10 456 mmA H0).isV (.tuple [.int .i64 0, .int .i64 12])) = true := by kernel_rfl
theorem mmRun2 : ((callN (evE Tryz.prog (hkT mmT) mmBd (mmGe 2) []) 10 456 mmA H0).isV (.tuple [.sint .i64 0 [(5,1)], .int .i64 0])) = true := by kernel_rfl
set_option maxRecDepth 100000 in
set_option maxHeartbeats 1000000 in
theorem mmuldiv_ok (a b c : Int) (ha : 0 ≤ a ∧ a ≤ 9223372036854775807) (hb : 0 ≤ b ∧ b ≤ 9223372036854775807) (hc : 1 ≤ c ∧ c ≤ 9223372036854775807) (w : World) :
 Calls Tryz.prog 456 #[.int .i64 a, .int .i64 b, .int .i64 c] w fun e w' => e = .returned (mdV a b c) ∧ Below w.heap.size w w' := by
 have hab : 0 ≤ a * b := Int.mul_nonneg ha.1 hb.1
 have hab2 : a * b ≤ 9223372036854775807 * 9223372036854775807 := Int.mul_le_mul ha.2 hb.2 hb.1 (by omega)
 obtain ⟨N, hN⟩ : ∃ z : Int, z = a * b := ⟨_, rfl⟩
 rw [← hN] at hab hab2
 obtain ⟨hi, hhi⟩ : ∃ z : Int, z = N / 18446744073709551616 := ⟨_, rfl⟩
 obtain ⟨lo, hlo⟩ : ∃ z : Int, z = N % 18446744073709551616 := ⟨_, rfl⟩
 have hNe : hi * 18446744073709551616 + lo = N := by omega
 have rhi : 0 ≤ hi ∧ hi ≤ 18446744073709551615 := by omega
 have rlo : 0 ≤ lo ∧ lo ≤ 18446744073709551615 := by omega
 obtain ⟨q, hq⟩ : ∃ z : Int, z = N / c := ⟨_, rfl⟩
 have hq1 : q * c ≤ N := by rw [hq]; exact div_lo (by omega)
 have hq2 : N < (q + 1) * c := by rw [hq]; exact div_hi (by omega)
 have hq0 : 0 ≤ q := by rw [hq]; exact Int.ediv_nonneg hab (by omega)
 have over : c ≤ hi → 1152921504606846976 < q := fun h => by
  have h1 : 18446744073709551616 * c ≤ N := by omega
  have h2 : 18446744073709551616 ≤ N / c := (Int.le_ediv_iff_mul_le (by omega)).2 h1
  omega
 have under : hi < c → q ≤ 18446744073709551615 := fun h => by
  have h1 : N < 18446744073709551616 * c := by omega
  have h2 : N / c < 18446744073709551616 := (Int.ediv_lt_iff_lt_mul (by omega)).2 h1
  omega
 obtain ⟨qq, hqq⟩ : ∃ z : Int, z = if hi < c then q else 0 := ⟨_, rfl⟩
 obtain ⟨rr, hrr⟩ : ∃ z : Int, z = N % c := ⟨_, rfl⟩
 have rrr : 0 ≤ rr ∧ rr ≤ 18446744073709551615 := by
  rw [hrr]
  have := Int.emod_nonneg N (show c ≠ 0 by omega)
  have := Int.emod_lt_of_pos N (show 0 < c by omega)
  omega
 have rqq : 0 ≤ qq ∧ qq ≤ 18446744073709551615 := by
  rw [hqq]
  by_cases h : hi < c
  · rw [if_pos h]; exact ⟨hq0, under h⟩
  · rw [if_neg h]; omega
 obtain ⟨G, hG⟩ : ∃ G, G = mkGh [] [a, b, c, hi, lo, qq, rr] rfl := ⟨_, rfl⟩
 have s0 : G.σ 0 = a := by rw [hG]; rfl
 have s1 : G.σ 1 = b := by rw [hG]; rfl
 have s2 : G.σ 2 = c := by rw [hG]; rfl
 have s3 : G.σ 3 = hi := by rw [hG]; rfl
 have s4 : G.σ 4 = lo := by rw [hG]; rfl
 have s5 : G.σ 5 = qq := by rw [hG]; rfl
 have s6 : G.σ 6 = rr := by rw [hG]; rfl
 have hm : ¬ G.mono := by rw [hG]; exact fun h => h
 have hbd : bdOk G.σ mmBd 0 := by rw [hG]; exact ⟨ha, hb, hc, rhi, rlo, rqq, rrr, trivial⟩
 have hmul : HTOk Tryz.prog G ⟨533, [.sint .u64 0 [(0,1)], .sint .u64 0 [(1,1)]], .tuple [.sint .u64 0 [(3,1)], .sint .u64 0 [(4,1)]]⟩ := by
  refine HTOk.of Tryz.func533 rfl (ul := [.int .u64 a, .int .u64 b]) (u := .tuple #[.int .u64 hi, .int .u64 lo]) (fun φ => by simp [concL, conc, den, s0, s1]) (fun φ => by simp [concL, conc, den, s3, s4]) (fun w => ?_)
  obtain ⟨m, hm⟩ := Int.eq_ofNat_of_zero_le ha.1
  obtain ⟨n, hn⟩ := Int.eq_ofNat_of_zero_le hb.1
  have hmn : ((m * n : Nat) : Int) = N := by rw [hN, hm, hn, Int.natCast_mul]
  refine ((by rw [hm, hn]; exact Tryz.bits_Mul64 m n (by omega) (by omega) w : Calls Tryz.prog 533 #[.int .u64 a, .int .u64 b] w fun e w' => e = .returned (.tuple #[.int .u64 ((m * n / 18446744073709551616 : Nat) : Int), .int .u64 ((m * n % 18446744073709551616 : Nat) : Int)]) ∧ w' = w)).mono ?_
  rintro e w' ⟨rfl, rfl⟩
  have g1 : ((m * n / 18446744073709551616 : Nat) : Int) = hi := by omega
  have g2 : ((m * n % 18446744073709551616 : Nat) : Int) = lo := by omega
  exact ⟨by rw [g1, g2], Below.refl _ _⟩
 have harg : concL G (fun _ => none) mmA = some [.int .i64 a, .int .i64 b, .int .i64 c] := by simp [mmA, concL, conc, den, s0, s1, s2]
 unfold mdV
 rw [← hN, ← hq]
 by_cases h : hi < c
 · rw [if_pos h] at hqq
   subst hqq
   have hdiv : HTOk Tryz.prog G ⟨534, [.sint .u64 0 [(3,1)], .sint .u64 0 [(4,1)], .sint .u64 0 [(2,1)]], .tuple [.sint .u64 0 [(5,1)], .sint .u64 0 [(6,1)]]⟩ := by
    refine HTOk.of Tryz.func534 rfl (ul := [.int .u64 hi, .int .u64 lo, .int .u64 c]) (u := .tuple #[.int .u64 qq, .int .u64 rr]) (fun φ => by simp [concL, conc, den, s3, s4, s2]) (fun φ => by simp [concL, conc, den, s5, s6]) (fun w => ?_)
    have := div64_ok hi lo c rhi.1 rlo (by omega) h w
    rwa [hNe, ← hq, ← hrr] at this
   have hh : HooksOk Tryz.prog G (hkT mmT) := hkT_ok progOkB mmT (fun t ht => by
    simp only [mmT, List.mem_cons, List.not_mem_nil, or_false] at ht
    rcases ht with rfl | rfl
    · exact hmul
    · exact hdiv) hm
   by_cases hqm : qq ≤ 1152921504606846976
   · rw [if_pos hqm]
     exact run_val (G := G) (ge := mmGe 2) (nl := []) progOkB ⟨hbd, by simp only [mmGe, geOk, and_true, den, s2, s3, s5]; omega, trivial⟩ hh Tryz.func456 rfl harg mmRun2 (fun φ => by simp [concL, conc, den, s5]) w
   · rw [if_neg hqm]
     exact run_val (G := G) (ge := mmGe 1) (nl := []) progOkB ⟨hbd, by simp only [mmGe, geOk, and_true, den, s2, s3, s5]; omega, trivial⟩ hh Tryz.func456 rfl harg mmRun1 (fun φ => by simp [concL, conc]) w
 · have hov := over (by omega)
   rw [if_neg (by omega)]
   have hh : HooksOk Tryz.prog G (hkT mmT1) := hkT_ok progOkB mmT1 (fun t ht => by
    simp only [mmT1, List.mem_cons, List.not_mem_nil, or_false] at ht
    subst ht
    exact hmul) hm
   exact run_val (G := G) (ge := mmGe 0) (nl := []) progOkB ⟨hbd, by simp only [mmGe, geOk, and_true, den, s2, s3]; omega, trivial⟩ hh Tryz.func456 rfl harg mmRun0 (fun φ => by simp [concL, conc]) w
set_option maxRecDepth 100000 in
theorem mmH_ok {G : Gh} (hm : ¬ G.mono) : HookOk Tryz.prog G 456 mdH := by
 intro call _ l h v h' e φ w ul hl r _
 unfold mdH at e
 split at e
 · rename_i a b c
   obtain ⟨hc, e⟩ := bif_ok e
   simp only [Bool.and_eq_true, nble, decide_eq_true_eq] at hc
   obtain ⟨h1, h2, h3, h4⟩ := hc
   have hul : ul = [.int .i64 (a : Int), .int .i64 (b : Int), .int .i64 (c : Int)] := by
    simp [concL, conc] at hl
    exact hl.symm
   subst hul
   rw [run_enter Tryz.func456 (prog_name progOkB Tryz.func456) rfl]
   refine (mmuldiv_ok a b c (by omega) (by omega) (by omega) w).mono ?_
   rintro e2 w2 ⟨rfl, hb⟩
   have hcast : ((a : Int) * b / c) = ((a * b / c : Nat) : Int) := by push_cast; rfl
   have hV : mdV a b c = if a * b / c ≤ 1152921504606846976 then .tuple #[.int .i64 ((a * b / c : Nat) : Int), .int .i64 0] else .tuple #[.int .i64 0, .int .i64 12] := by
    unfold mdV
    rw [hcast]
    by_cases hq : a * b / c ≤ 1152921504606846976
    · rw [if_pos hq, if_pos (by omega)]
    · rw [if_neg hq, if_neg (by omega)]
   cases hq : Nat.ble (a * b / c) 1152921504606846976 with
   | true =>
     rw [hq, cond_true] at e
     rw [nble, decide_eq_true_eq] at hq
     cases e
     refine ⟨_, rfl, below_post hm r hb ?_⟩
     rw [hV, if_pos hq]
     simp [conc, concL]
   | false =>
     rw [hq, cond_false] at e
     rw [nble, decide_eq_false_iff_not] at hq
     cases e
     refine ⟨_, rfl, below_post hm r hb ?_⟩
     rw [hV, if_neg hq]
     simp [conc, concL]
 · cases e
end Go.Proofs.YtmfmjhklajmhoaaGreat
