/- The document's big numbers: Of. -/
import Derived.Test.YtmfmjhklajmhoaaGreatDv
import Derived.WalkKit
import Derived.LoopN
import Derived.Below
import Derived.Laws.Rows
namespace Go.Proofs.YtmfmjhklajmhoaaGreat
open Go Go.RowKit Gv
def dg (v j : Nat) : Nat := v / 1073741824 ^ j % 1073741824
def bigV (v : Nat) : Value := .agg #[.int .i64 (dg v 0), .int .i64 (dg v 1), .int .i64 (dg v 2), .int .i64 (dg v 3), .int .i64 (dg v 4), .int .i64 (dg v 5)]
theorem step_rem (v : Nat) : (v : Int).tmod 1073741824 = ((v % 1073741824 : Nat) : Int) := by
 rw [Int.tmod_eq_emod_of_nonneg (by omega)]; omega
theorem step_quo (v : Nat) : (v : Int).tdiv 1073741824 = ((v / 1073741824 : Nat) : Int) := by
 rw [Int.tdiv_eq_ediv_of_nonneg (by omega)]; omega
theorem wrapI (v : Nat) (h : v < 9223372036854775808) : IntKind.i64.wrap (v : Int) = v := by rw [IntKind.wrap_i64]; omega
set_option maxRecDepth 100000 in
set_option maxHeartbeats 2000000 in
theorem of_ok (v : Nat) (hv : v < 9223372036854775808) (w : World) : Calls Tryz.prog 486 #[.int .i64 (v : Int)] w fun e w' => e = .returned (bigV v) ∧ Below w.heap.size w w' := by
 obtain ⟨v1, h1⟩ : ∃ v1, v / 1073741824 = v1 := ⟨_, rfl⟩
 obtain ⟨v2, h2⟩ : ∃ v2, v1 / 1073741824 = v2 := ⟨_, rfl⟩
 have hv3 : v2 / 1073741824 = 0 := by omega
 obtain ⟨r0, g0⟩ : ∃ r, v % 1073741824 = r := ⟨_, rfl⟩
 obtain ⟨r1, g1⟩ : ∃ r, v1 % 1073741824 = r := ⟨_, rfl⟩
 obtain ⟨r2, g2⟩ : ∃ r, v2 % 1073741824 = r := ⟨_, rfl⟩
 have q0 : (v : Int).tdiv 1073741824 = (v1 : Int) := by rw [step_quo, h1]
 have q1 : (v1 : Int).tdiv 1073741824 = (v2 : Int) := by rw [step_quo, h2]
 have q2 : (v2 : Int).tdiv 1073741824 = 0 := by rw [step_quo, hv3]; rfl
 have m0 : (v : Int).tmod 1073741824 = (r0 : Int) := by rw [step_rem, g0]
 have m1 : (v1 : Int).tmod 1073741824 = (r1 : Int) := by rw [step_rem, g1]
 have m2 : (v2 : Int).tmod 1073741824 = (r2 : Int) := by rw [step_rem, g2]
 have w0 : IntKind.i64.wrap (r0 : Int) = r0 := wrapI _ (by omega)
 have w1 : IntKind.i64.wrap (r1 : Int) = r1 := wrapI _ (by omega)
 have w2 : IntKind.i64.wrap (r2 : Int) = r2 := wrapI _ (by omega)
 have w3 : IntKind.i64.wrap (v1 : Int) = v1 := wrapI _ (by omega)
 have w4 : IntKind.i64.wrap (v2 : Int) = v2 := wrapI _ (by omega)
 have hb : bigV v = .agg #[.int .i64 r0, .int .i64 r1, .int .i64 r2, .int .i64 0, .int .i64 0, .int .i64 0] := by
  have e1 : dg v 0 = r0 := by unfold dg; rw [Nat.pow_zero, Nat.div_one]; exact g0
  have e2 : dg v 1 = r1 := by unfold dg; rw [Nat.pow_one, h1]; exact g1
  have e3 : dg v 2 = r2 := by unfold dg; rw [Nat.pow_succ, Nat.pow_one, ← Nat.div_div_eq_div_mul, h1, h2]; exact g2
  have e4 : dg v 3 = 0 := by unfold dg; rw [Nat.div_eq_of_lt (by omega)]
  have e5 : dg v 4 = 0 := by unfold dg; rw [Nat.div_eq_of_lt (by omega)]
  have e6 : dg v 5 = 0 := by unfold dg; rw [Nat.div_eq_of_lt (by omega)]
  unfold bigV
  rw [e1, e2, e3, e4, e5, e6]
  rfl
 rw [hb]
 have H := And.intro h1 (And.intro h2 (And.intro hv3 (And.intro g0 (And.intro g1 g2))))
 clear h1 h2 hv3 g0 g1 g2 hb H
 go_enter Tryz.func486, Tryz.ntmps486
 go_wp2
 refine wp_loop_rounds 7 ?_
 rw [rounds_succ]; go_wp2
 rw [rounds_succ]; go_wp2
 rw [rounds_succ]; go_wp2
 rw [rounds_succ]; go_wp2
 rw [rounds_succ]; go_wp2
 rw [rounds_succ]; go_wp2
 rw [rounds_succ]; go_wp2
 refine bodyPost_ret (results_cell_row rfl _ _ w.heap.size 564 _ (0, 0) _ rfl ((Below.heap_alloc _ _ _ (by simp)).trans (heap_alloc_new w _)) Tryz.underlying564 rfl rfl) rfl ?_
 refine ⟨rfl, ?_⟩
 exact ((Below.refl _ w).alloc (Nat.le_refl _) _).alloc (by simp) _
end Go.Proofs.YtmfmjhklajmhoaaGreat
/- The document's big numbers: Mul. -/
namespace Go.Proofs.YtmfmjhklajmhoaaGreat
open Go Go.RowKit Gv
theorem rmod (s : Int) : 0 ≤ s % 1073741824 ∧ s % 1073741824 ≤ 1073741823 := by omega
theorem rmod2 {s h : Int} (hs : 0 ≤ s ∧ s ≤ h) : 0 ≤ s % 1073741824 ∧ s % 1073741824 ≤ h := by omega
theorem rdiv {s h : Int} (hs : 0 ≤ s ∧ s ≤ h) : 0 ≤ s / 1073741824 ∧ s / 1073741824 ≤ h / 1073741824 := by omega
theorem radd {a b h k : Int} (ha : 0 ≤ a ∧ a ≤ h) (hb : 0 ≤ b ∧ b ≤ k) : 0 ≤ a + b ∧ a + b ≤ h + k := by omega
theorem rmul {a b h k : Int} (ha : 0 ≤ a ∧ a ≤ h) (hb : 0 ≤ b ∧ b ≤ k) : 0 ≤ a * b ∧ a * b ≤ h * k := ⟨Int.mul_nonneg ha.1 hb.1, Int.mul_le_mul ha.2 hb.2 hb.1 (by omega)⟩
theorem wmul {a b x : Int} (h : x = a * b) (r : 0 ≤ x ∧ x ≤ 9223372036854775807) : IntKind.i64.wrap ((0 + (1 * a + 0)) * (0 + (1 * b + 0))) = x := by
 simp only [Int.zero_add, Int.add_zero, Int.one_mul]; rw [← h, IntKind.wrap_i64]; omega
theorem wquo {S s x : Int} (hS : S = s) (h0 : 0 ≤ s) (h : x = s / 1073741824) (r : 0 ≤ x ∧ x ≤ 9223372036854775807) : IntKind.i64.wrap (S.tdiv (1073741824 + 0)) = x := by
 subst hS; rw [Int.add_zero, Int.tdiv_eq_ediv_of_nonneg h0, ← h, IntKind.wrap_i64]; omega
theorem wrem {S s x : Int} (hS : S = s) (h0 : 0 ≤ s) (h : x = s % 1073741824) : S.tmod (1073741824 + 0) = x := by
 subst hS; rw [Int.add_zero, Int.tmod_eq_emod_of_nonneg h0, ← h]
theorem nz : (1073741824 : Int) + 0 ≠ 0 := by omega
theorem rlt {x : Int} (r : 0 ≤ x ∧ x ≤ 1073741823) : 0 ≤ x ∧ x < 1073741824 := by omega
def bdM : List (Int × Int) := [(0, 1073741823), (0, 1073741823), (0, 7), (0, 1073741823), (0, 1073741823), (0, 7), (0, 1152921502459363329), (0, 1073741823), (0, 1073741822), (0, 1152921502459363329), (0, 1073741823), (0, 1073741822), (0, 7516192761), (0, 1073741823), (0, 7), (0, 7), (0, 0), (0, 0), (0, 0), (0, 0), (0, 0), (0, 1152921502459363329), (0, 1073741823), (0, 1073741823), (0, 1152921502459363329), (0, 1073741823), (0, 1073741823), (0, 7516192761), (0, 1073741823), (0, 7), (0, 7), (0, 0), (0, 0), (0, 0), (0, 7516192761), (0, 1073741823), (0, 7), (0, 7516192761), (0, 1073741823), (0, 7), (0, 49), (0, 63), (0, 0), (0, 0), (0, 0), (0, 1073741823), (0, 0), (0, 63), (0, 0), (0, 0), (0, 0), (0, 63), (0, 0), (0, 0), (0, 0), (0, 0), (0, 0)]
def nlM : List NL := [⟨0, .i64, (0,[(0,1)]), (0,[(3,1)]), 6⟩, ⟨2, .i64, (0,[(6,1)]), (1073741824,[]), 7⟩, ⟨1, .i64, (0,[(6,1)]), (1073741824,[]), 8⟩, ⟨0, .i64, (0,[(0,1)]), (0,[(4,1)]), 9⟩, ⟨2, .i64, (0,[(9,1),(8,1)]), (1073741824,[]), 10⟩, ⟨1, .i64, (0,[(9,1),(8,1)]), (1073741824,[]), 11⟩, ⟨0, .i64, (0,[(0,1)]), (0,[(5,1)]), 12⟩, ⟨2, .i64, (0,[(12,1),(11,1)]), (1073741824,[]), 13⟩, ⟨1, .i64, (0,[(12,1),(11,1)]), (1073741824,[]), 14⟩, ⟨2, .i64, (0,[(14,1)]), (1073741824,[]), 15⟩, ⟨1, .i64, (0,[(14,1)]), (1073741824,[]), 16⟩, ⟨2, .i64, (0,[(16,1)]), (1073741824,[]), 17⟩, ⟨1, .i64, (0,[(16,1)]), (1073741824,[]), 18⟩, ⟨2, .i64, (0,[(18,1)]), (1073741824,[]), 19⟩, ⟨1, .i64, (0,[(18,1)]), (1073741824,[]), 20⟩, ⟨0, .i64, (0,[(1,1)]), (0,[(3,1)]), 21⟩, ⟨2, .i64, (0,[(21,1),(10,1)]), (1073741824,[]), 22⟩, ⟨1, .i64, (0,[(21,1),(10,1)]), (1073741824,[]), 23⟩, ⟨0, .i64, (0,[(1,1)]), (0,[(4,1)]), 24⟩, ⟨2, .i64, (0,[(24,1),(13,1),(23,1)]), (1073741824,[]), 25⟩, ⟨1, .i64, (0,[(24,1),(13,1),(23,1)]), (1073741824,[]), 26⟩, ⟨0, .i64, (0,[(1,1)]), (0,[(5,1)]), 27⟩, ⟨2, .i64, (0,[(27,1),(15,1),(26,1)]), (1073741824,[]), 28⟩, ⟨1, .i64, (0,[(27,1),(15,1),(26,1)]), (1073741824,[]), 29⟩, ⟨2, .i64, (0,[(17,1),(29,1)]), (1073741824,[]), 30⟩, ⟨1, .i64, (0,[(17,1),(29,1)]), (1073741824,[]), 31⟩, ⟨2, .i64, (0,[(19,1),(31,1)]), (1073741824,[]), 32⟩, ⟨1, .i64, (0,[(19,1),(31,1)]), (1073741824,[]), 33⟩, ⟨0, .i64, (0,[(2,1)]), (0,[(3,1)]), 34⟩, ⟨2, .i64, (0,[(34,1),(25,1)]), (1073741824,[]), 35⟩, ⟨1, .i64, (0,[(34,1),(25,1)]), (1073741824,[]), 36⟩, ⟨0, .i64, (0,[(2,1)]), (0,[(4,1)]), 37⟩, ⟨2, .i64, (0,[(37,1),(28,1),(36,1)]), (1073741824,[]), 38⟩, ⟨1, .i64, (0,[(37,1),(28,1),(36,1)]), (1073741824,[]), 39⟩, ⟨0, .i64, (0,[(2,1)]), (0,[(5,1)]), 40⟩, ⟨2, .i64, (0,[(40,1),(30,1),(39,1)]), (1073741824,[]), 41⟩, ⟨1, .i64, (0,[(40,1),(30,1),(39,1)]), (1073741824,[]), 42⟩, ⟨2, .i64, (0,[(32,1),(42,1)]), (1073741824,[]), 43⟩, ⟨1, .i64, (0,[(32,1),(42,1)]), (1073741824,[]), 44⟩, ⟨2, .i64, (0,[(38,1)]), (1073741824,[]), 45⟩, ⟨1, .i64, (0,[(38,1)]), (1073741824,[]), 46⟩, ⟨2, .i64, (0,[(41,1),(46,1)]), (1073741824,[]), 47⟩, ⟨1, .i64, (0,[(41,1),(46,1)]), (1073741824,[]), 48⟩, ⟨2, .i64, (0,[(43,1),(48,1)]), (1073741824,[]), 49⟩, ⟨1, .i64, (0,[(43,1),(48,1)]), (1073741824,[]), 50⟩, ⟨2, .i64, (0,[(47,1)]), (1073741824,[]), 51⟩, ⟨1, .i64, (0,[(47,1)]), (1073741824,[]), 52⟩, ⟨2, .i64, (0,[(49,1),(52,1)]), (1073741824,[]), 53⟩, ⟨1, .i64, (0,[(49,1),(52,1)]), (1073741824,[]), 54⟩, ⟨2, .i64, (0,[(53,1)]), (1073741824,[]), 55⟩, ⟨1, .i64, (0,[(53,1)]), (1073741824,[]), 56⟩]
def argM : List V := [.agg [.sint .i64 0 [(0,1)], .sint .i64 0 [(1,1)], .sint .i64 0 [(2,1)], .int .i64 0, .int .i64 0, .int .i64 0], .agg [.sint .i64 0 [(3,1)], .sint .i64 0 [(4,1)], .sint .i64 0 [(5,1)], .int .i64 0, .int .i64 0, .int .i64 0]]
def resM : V := .agg [.sint .i64 0 [(7,1)], .sint .i64 0 [(22,1)], .sint .i64 0 [(35,1)], .sint .i64 0 [(45,1)], .sint .i64 0 [(51,1)], .sint .i64 0 [(55,1)]]
theorem mulRun : ((callN (evE Tryz.prog (fun _ => none) bdM [] nlM) 100 548 argM H0).isV resM) = true := by kernel_rfl
theorem mulSum (x6 x7 x8 x9 x10 x11 x12 x13 x14 x15 x16 x17 x18 x19 x20 x21 x22 x23 x24 x25 x26 x27 x28 x29 x30 x31 x32 x33 x34 x35 x36 x37 x38 x39 x40 x41 x42 x43 x44 x45 x46 x47 x48 x49 x50 x51 x52 x53 x54 x55 x56 : Int)
 (e8 : x6 = 1073741824 * x8 + x7)
 (e11 : x9 + x8 = 1073741824 * x11 + x10)
 (e14 : x12 + x11 = 1073741824 * x14 + x13)
 (e16 : x14 = 1073741824 * x16 + x15)
 (e18 : x16 = 1073741824 * x18 + x17)
 (e20 : x18 = 1073741824 * x20 + x19)
 (e23 : x21 + x10 = 1073741824 * x23 + x22)
 (e26 : x24 + x13 + x23 = 1073741824 * x26 + x25)
 (e29 : x27 + x15 + x26 = 1073741824 * x29 + x28)
 (e31 : x17 + x29 = 1073741824 * x31 + x30)
 (e33 : x19 + x31 = 1073741824 * x33 + x32)
 (e36 : x34 + x25 = 1073741824 * x36 + x35)
 (e39 : x37 + x28 + x36 = 1073741824 * x39 + x38)
 (e42 : x40 + x30 + x39 = 1073741824 * x42 + x41)
 (e44 : x32 + x42 = 1073741824 * x44 + x43)
 (e46 : x38 = 1073741824 * x46 + x45)
 (e48 : x41 + x46 = 1073741824 * x48 + x47)
 (e50 : x43 + x48 = 1073741824 * x50 + x49)
 (e52 : x47 = 1073741824 * x52 + x51)
 (e54 : x49 + x52 = 1073741824 * x54 + x53)
 (e56 : x53 = 1073741824 * x56 + x55)
 (z16 : x16 = 0)
 (z17 : x17 = 0)
 (z19 : x19 = 0)
 (z31 : x31 = 0)
 (z32 : x32 = 0)
 (z42 : x42 = 0)
 (z43 : x43 = 0)
 (z48 : x48 = 0)
 (z49 : x49 = 0)
 (z52 : x52 = 0)
 : x7 + 1073741824 * x22 + 1152921504606846976 * x35 + 1237940039285380274899124224 * x45 + 1329227995784915872903807060280344576 * x51 =
  x6 + 1073741824 * (x9 + x21) + 1152921504606846976 * (x12 + x24 + x34) + 1237940039285380274899124224 * (x27 + x37) + 1329227995784915872903807060280344576 * x40 := by omega
set_option maxRecDepth 100000 in
set_option maxHeartbeats 4000000 in
theorem mul3 (a0 a1 a2 b0 b1 b2 : Int) (r0 : 0 ≤ a0 ∧ a0 ≤ 1073741823) (r1 : 0 ≤ a1 ∧ a1 ≤ 1073741823) (r2 : 0 ≤ a2 ∧ a2 ≤ 7) (r3 : 0 ≤ b0 ∧ b0 ≤ 1073741823) (r4 : 0 ≤ b1 ∧ b1 ≤ 1073741823) (r5 : 0 ≤ b2 ∧ b2 ≤ 7) :
 ∃ o0 o1 o2 o3 o4 o5 : Int, (0 ≤ o0 ∧ o0 < 1073741824) ∧ (0 ≤ o1 ∧ o1 < 1073741824) ∧ (0 ≤ o2 ∧ o2 < 1073741824) ∧ (0 ≤ o3 ∧ o3 < 1073741824) ∧ (0 ≤ o4 ∧ o4 < 1073741824) ∧ o5 = 0 ∧
  o0 + 1073741824 * o1 + 1152921504606846976 * o2 + 1237940039285380274899124224 * o3 + 1329227995784915872903807060280344576 * o4 =
   a0 * b0 + 1073741824 * (a0 * b1 + a1 * b0) + 1152921504606846976 * (a0 * b2 + a1 * b1 + a2 * b0) + 1237940039285380274899124224 * (a1 * b2 + a2 * b1) + 1329227995784915872903807060280344576 * (a2 * b2) ∧
  ∀ w : World, Calls Tryz.prog 548 #[.agg #[.int .i64 a0, .int .i64 a1, .int .i64 a2, .int .i64 0, .int .i64 0, .int .i64 0], .agg #[.int .i64 b0, .int .i64 b1, .int .i64 b2, .int .i64 0, .int .i64 0, .int .i64 0]] w
   fun e w' => e = .returned (.agg #[.int .i64 o0, .int .i64 o1, .int .i64 o2, .int .i64 o3, .int .i64 o4, .int .i64 o5]) ∧ Below w.heap.size w w' := by
 obtain ⟨x6, h6⟩ : ∃ z : Int, z = (a0) * (b0) := ⟨_, rfl⟩
 have r6 : 0 ≤ x6 ∧ x6 ≤ 1152921502459363329 := h6 ▸ rmul r0 r3
 obtain ⟨x7, h7⟩ : ∃ z : Int, z = (x6) % 1073741824 := ⟨_, rfl⟩
 have r7 : 0 ≤ x7 ∧ x7 ≤ 1073741823 := h7 ▸ rmod _
 obtain ⟨x8, h8⟩ : ∃ z : Int, z = (x6) / 1073741824 := ⟨_, rfl⟩
 have r8 : 0 ≤ x8 ∧ x8 ≤ 1073741822 := h8 ▸ rdiv r6
 obtain ⟨x9, h9⟩ : ∃ z : Int, z = (a0) * (b1) := ⟨_, rfl⟩
 have r9 : 0 ≤ x9 ∧ x9 ≤ 1152921502459363329 := h9 ▸ rmul r0 r4
 obtain ⟨x10, h10⟩ : ∃ z : Int, z = (x9 + x8) % 1073741824 := ⟨_, rfl⟩
 have r10 : 0 ≤ x10 ∧ x10 ≤ 1073741823 := h10 ▸ rmod _
 obtain ⟨x11, h11⟩ : ∃ z : Int, z = (x9 + x8) / 1073741824 := ⟨_, rfl⟩
 have r11 : 0 ≤ x11 ∧ x11 ≤ 1073741822 := h11 ▸ rdiv (radd r9 r8)
 obtain ⟨x12, h12⟩ : ∃ z : Int, z = (a0) * (b2) := ⟨_, rfl⟩
 have r12 : 0 ≤ x12 ∧ x12 ≤ 7516192761 := h12 ▸ rmul r0 r5
 obtain ⟨x13, h13⟩ : ∃ z : Int, z = (x12 + x11) % 1073741824 := ⟨_, rfl⟩
 have r13 : 0 ≤ x13 ∧ x13 ≤ 1073741823 := h13 ▸ rmod _
 obtain ⟨x14, h14⟩ : ∃ z : Int, z = (x12 + x11) / 1073741824 := ⟨_, rfl⟩
 have r14 : 0 ≤ x14 ∧ x14 ≤ 7 := h14 ▸ rdiv (radd r12 r11)
 obtain ⟨x15, h15⟩ : ∃ z : Int, z = (x14) % 1073741824 := ⟨_, rfl⟩
 have r15 : 0 ≤ x15 ∧ x15 ≤ 7 := h15 ▸ rmod2 r14
 obtain ⟨x16, h16⟩ : ∃ z : Int, z = (x14) / 1073741824 := ⟨_, rfl⟩
 have r16 : 0 ≤ x16 ∧ x16 ≤ 0 := h16 ▸ rdiv r14
 obtain ⟨x17, h17⟩ : ∃ z : Int, z = (x16) % 1073741824 := ⟨_, rfl⟩
 have r17 : 0 ≤ x17 ∧ x17 ≤ 0 := h17 ▸ rmod2 r16
 obtain ⟨x18, h18⟩ : ∃ z : Int, z = (x16) / 1073741824 := ⟨_, rfl⟩
 have r18 : 0 ≤ x18 ∧ x18 ≤ 0 := h18 ▸ rdiv r16
 obtain ⟨x19, h19⟩ : ∃ z : Int, z = (x18) % 1073741824 := ⟨_, rfl⟩
 have r19 : 0 ≤ x19 ∧ x19 ≤ 0 := h19 ▸ rmod2 r18
 obtain ⟨x20, h20⟩ : ∃ z : Int, z = (x18) / 1073741824 := ⟨_, rfl⟩
 have r20 : 0 ≤ x20 ∧ x20 ≤ 0 := h20 ▸ rdiv r18
 obtain ⟨x21, h21⟩ : ∃ z : Int, z = (a1) * (b0) := ⟨_, rfl⟩
 have r21 : 0 ≤ x21 ∧ x21 ≤ 1152921502459363329 := h21 ▸ rmul r1 r3
 obtain ⟨x22, h22⟩ : ∃ z : Int, z = (x21 + x10) % 1073741824 := ⟨_, rfl⟩
 have r22 : 0 ≤ x22 ∧ x22 ≤ 1073741823 := h22 ▸ rmod _
 obtain ⟨x23, h23⟩ : ∃ z : Int, z = (x21 + x10) / 1073741824 := ⟨_, rfl⟩
 have r23 : 0 ≤ x23 ∧ x23 ≤ 1073741823 := h23 ▸ rdiv (radd r21 r10)
 obtain ⟨x24, h24⟩ : ∃ z : Int, z = (a1) * (b1) := ⟨_, rfl⟩
 have r24 : 0 ≤ x24 ∧ x24 ≤ 1152921502459363329 := h24 ▸ rmul r1 r4
 obtain ⟨x25, h25⟩ : ∃ z : Int, z = (x24 + x13 + x23) % 1073741824 := ⟨_, rfl⟩
 have r25 : 0 ≤ x25 ∧ x25 ≤ 1073741823 := h25 ▸ rmod _
 obtain ⟨x26, h26⟩ : ∃ z : Int, z = (x24 + x13 + x23) / 1073741824 := ⟨_, rfl⟩
 have r26 : 0 ≤ x26 ∧ x26 ≤ 1073741823 := h26 ▸ rdiv (radd (radd r24 r13) r23)
 obtain ⟨x27, h27⟩ : ∃ z : Int, z = (a1) * (b2) := ⟨_, rfl⟩
 have r27 : 0 ≤ x27 ∧ x27 ≤ 7516192761 := h27 ▸ rmul r1 r5
 obtain ⟨x28, h28⟩ : ∃ z : Int, z = (x27 + x15 + x26) % 1073741824 := ⟨_, rfl⟩
 have r28 : 0 ≤ x28 ∧ x28 ≤ 1073741823 := h28 ▸ rmod _
 obtain ⟨x29, h29⟩ : ∃ z : Int, z = (x27 + x15 + x26) / 1073741824 := ⟨_, rfl⟩
 have r29 : 0 ≤ x29 ∧ x29 ≤ 7 := h29 ▸ rdiv (radd (radd r27 r15) r26)
 obtain ⟨x30, h30⟩ : ∃ z : Int, z = (x17 + x29) % 1073741824 := ⟨_, rfl⟩
 have r30 : 0 ≤ x30 ∧ x30 ≤ 7 := h30 ▸ rmod2 (radd r17 r29)
 obtain ⟨x31, h31⟩ : ∃ z : Int, z = (x17 + x29) / 1073741824 := ⟨_, rfl⟩
 have r31 : 0 ≤ x31 ∧ x31 ≤ 0 := h31 ▸ rdiv (radd r17 r29)
 obtain ⟨x32, h32⟩ : ∃ z : Int, z = (x19 + x31) % 1073741824 := ⟨_, rfl⟩
 have r32 : 0 ≤ x32 ∧ x32 ≤ 0 := h32 ▸ rmod2 (radd r19 r31)
 obtain ⟨x33, h33⟩ : ∃ z : Int, z = (x19 + x31) / 1073741824 := ⟨_, rfl⟩
 have r33 : 0 ≤ x33 ∧ x33 ≤ 0 := h33 ▸ rdiv (radd r19 r31)
 obtain ⟨x34, h34⟩ : ∃ z : Int, z = (a2) * (b0) := ⟨_, rfl⟩
 have r34 : 0 ≤ x34 ∧ x34 ≤ 7516192761 := h34 ▸ rmul r2 r3
 obtain ⟨x35, h35⟩ : ∃ z : Int, z = (x34 + x25) % 1073741824 := ⟨_, rfl⟩
 have r35 : 0 ≤ x35 ∧ x35 ≤ 1073741823 := h35 ▸ rmod _
 obtain ⟨x36, h36⟩ : ∃ z : Int, z = (x34 + x25) / 1073741824 := ⟨_, rfl⟩
 have r36 : 0 ≤ x36 ∧ x36 ≤ 7 := h36 ▸ rdiv (radd r34 r25)
 obtain ⟨x37, h37⟩ : ∃ z : Int, z = (a2) * (b1) := ⟨_, rfl⟩
 have r37 : 0 ≤ x37 ∧ x37 ≤ 7516192761 := h37 ▸ rmul r2 r4
 obtain ⟨x38, h38⟩ : ∃ z : Int, z = (x37 + x28 + x36) % 1073741824 := ⟨_, rfl⟩
 have r38 : 0 ≤ x38 ∧ x38 ≤ 1073741823 := h38 ▸ rmod _
 obtain ⟨x39, h39⟩ : ∃ z : Int, z = (x37 + x28 + x36) / 1073741824 := ⟨_, rfl⟩
 have r39 : 0 ≤ x39 ∧ x39 ≤ 7 := h39 ▸ rdiv (radd (radd r37 r28) r36)
 obtain ⟨x40, h40⟩ : ∃ z : Int, z = (a2) * (b2) := ⟨_, rfl⟩
 have r40 : 0 ≤ x40 ∧ x40 ≤ 49 := h40 ▸ rmul r2 r5
 obtain ⟨x41, h41⟩ : ∃ z : Int, z = (x40 + x30 + x39) % 1073741824 := ⟨_, rfl⟩
 have r41 : 0 ≤ x41 ∧ x41 ≤ 63 := h41 ▸ rmod2 (radd (radd r40 r30) r39)
 obtain ⟨x42, h42⟩ : ∃ z : Int, z = (x40 + x30 + x39) / 1073741824 := ⟨_, rfl⟩
 have r42 : 0 ≤ x42 ∧ x42 ≤ 0 := h42 ▸ rdiv (radd (radd r40 r30) r39)
 obtain ⟨x43, h43⟩ : ∃ z : Int, z = (x32 + x42) % 1073741824 := ⟨_, rfl⟩
 have r43 : 0 ≤ x43 ∧ x43 ≤ 0 := h43 ▸ rmod2 (radd r32 r42)
 obtain ⟨x44, h44⟩ : ∃ z : Int, z = (x32 + x42) / 1073741824 := ⟨_, rfl⟩
 have r44 : 0 ≤ x44 ∧ x44 ≤ 0 := h44 ▸ rdiv (radd r32 r42)
 obtain ⟨x45, h45⟩ : ∃ z : Int, z = (x38) % 1073741824 := ⟨_, rfl⟩
 have r45 : 0 ≤ x45 ∧ x45 ≤ 1073741823 := h45 ▸ rmod2 r38
 obtain ⟨x46, h46⟩ : ∃ z : Int, z = (x38) / 1073741824 := ⟨_, rfl⟩
 have r46 : 0 ≤ x46 ∧ x46 ≤ 0 := h46 ▸ rdiv r38
 obtain ⟨x47, h47⟩ : ∃ z : Int, z = (x41 + x46) % 1073741824 := ⟨_, rfl⟩
 have r47 : 0 ≤ x47 ∧ x47 ≤ 63 := h47 ▸ rmod2 (radd r41 r46)
 obtain ⟨x48, h48⟩ : ∃ z : Int, z = (x41 + x46) / 1073741824 := ⟨_, rfl⟩
 have r48 : 0 ≤ x48 ∧ x48 ≤ 0 := h48 ▸ rdiv (radd r41 r46)
 obtain ⟨x49, h49⟩ : ∃ z : Int, z = (x43 + x48) % 1073741824 := ⟨_, rfl⟩
 have r49 : 0 ≤ x49 ∧ x49 ≤ 0 := h49 ▸ rmod2 (radd r43 r48)
 obtain ⟨x50, h50⟩ : ∃ z : Int, z = (x43 + x48) / 1073741824 := ⟨_, rfl⟩
 have r50 : 0 ≤ x50 ∧ x50 ≤ 0 := h50 ▸ rdiv (radd r43 r48)
 obtain ⟨x51, h51⟩ : ∃ z : Int, z = (x47) % 1073741824 := ⟨_, rfl⟩
 have r51 : 0 ≤ x51 ∧ x51 ≤ 63 := h51 ▸ rmod2 r47
 obtain ⟨x52, h52⟩ : ∃ z : Int, z = (x47) / 1073741824 := ⟨_, rfl⟩
 have r52 : 0 ≤ x52 ∧ x52 ≤ 0 := h52 ▸ rdiv r47
 obtain ⟨x53, h53⟩ : ∃ z : Int, z = (x49 + x52) % 1073741824 := ⟨_, rfl⟩
 have r53 : 0 ≤ x53 ∧ x53 ≤ 0 := h53 ▸ rmod2 (radd r49 r52)
 obtain ⟨x54, h54⟩ : ∃ z : Int, z = (x49 + x52) / 1073741824 := ⟨_, rfl⟩
 have r54 : 0 ≤ x54 ∧ x54 ≤ 0 := h54 ▸ rdiv (radd r49 r52)
 obtain ⟨x55, h55⟩ : ∃ z : Int, z = (x53) % 1073741824 := ⟨_, rfl⟩
 have r55 : 0 ≤ x55 ∧ x55 ≤ 0 := h55 ▸ rmod2 r53
 obtain ⟨x56, h56⟩ : ∃ z : Int, z = (x53) / 1073741824 := ⟨_, rfl⟩
 have r56 : 0 ≤ x56 ∧ x56 ≤ 0 := h56 ▸ rdiv r53
 have e8 : x6 = 1073741824 * x8 + x7 := by rw [h8, h7]; exact (Int.mul_ediv_add_emod _ _).symm
 have e11 : x9 + x8 = 1073741824 * x11 + x10 := by rw [h11, h10]; exact (Int.mul_ediv_add_emod _ _).symm
 have e14 : x12 + x11 = 1073741824 * x14 + x13 := by rw [h14, h13]; exact (Int.mul_ediv_add_emod _ _).symm
 have e16 : x14 = 1073741824 * x16 + x15 := by rw [h16, h15]; exact (Int.mul_ediv_add_emod _ _).symm
 have e18 : x16 = 1073741824 * x18 + x17 := by rw [h18, h17]; exact (Int.mul_ediv_add_emod _ _).symm
 have e20 : x18 = 1073741824 * x20 + x19 := by rw [h20, h19]; exact (Int.mul_ediv_add_emod _ _).symm
 have e23 : x21 + x10 = 1073741824 * x23 + x22 := by rw [h23, h22]; exact (Int.mul_ediv_add_emod _ _).symm
 have e26 : x24 + x13 + x23 = 1073741824 * x26 + x25 := by rw [h26, h25]; exact (Int.mul_ediv_add_emod _ _).symm
 have e29 : x27 + x15 + x26 = 1073741824 * x29 + x28 := by rw [h29, h28]; exact (Int.mul_ediv_add_emod _ _).symm
 have e31 : x17 + x29 = 1073741824 * x31 + x30 := by rw [h31, h30]; exact (Int.mul_ediv_add_emod _ _).symm
 have e33 : x19 + x31 = 1073741824 * x33 + x32 := by rw [h33, h32]; exact (Int.mul_ediv_add_emod _ _).symm
 have e36 : x34 + x25 = 1073741824 * x36 + x35 := by rw [h36, h35]; exact (Int.mul_ediv_add_emod _ _).symm
 have e39 : x37 + x28 + x36 = 1073741824 * x39 + x38 := by rw [h39, h38]; exact (Int.mul_ediv_add_emod _ _).symm
 have e42 : x40 + x30 + x39 = 1073741824 * x42 + x41 := by rw [h42, h41]; exact (Int.mul_ediv_add_emod _ _).symm
 have e44 : x32 + x42 = 1073741824 * x44 + x43 := by rw [h44, h43]; exact (Int.mul_ediv_add_emod _ _).symm
 have e46 : x38 = 1073741824 * x46 + x45 := by rw [h46, h45]; exact (Int.mul_ediv_add_emod _ _).symm
 have e48 : x41 + x46 = 1073741824 * x48 + x47 := by rw [h48, h47]; exact (Int.mul_ediv_add_emod _ _).symm
 have e50 : x43 + x48 = 1073741824 * x50 + x49 := by rw [h50, h49]; exact (Int.mul_ediv_add_emod _ _).symm
 have e52 : x47 = 1073741824 * x52 + x51 := by rw [h52, h51]; exact (Int.mul_ediv_add_emod _ _).symm
 have e54 : x49 + x52 = 1073741824 * x54 + x53 := by rw [h54, h53]; exact (Int.mul_ediv_add_emod _ _).symm
 have e56 : x53 = 1073741824 * x56 + x55 := by rw [h56, h55]; exact (Int.mul_ediv_add_emod _ _).symm
 have z16 : x16 = 0 := Int.le_antisymm r16.2 r16.1
 have z17 : x17 = 0 := Int.le_antisymm r17.2 r17.1
 have z19 : x19 = 0 := Int.le_antisymm r19.2 r19.1
 have z31 : x31 = 0 := Int.le_antisymm r31.2 r31.1
 have z32 : x32 = 0 := Int.le_antisymm r32.2 r32.1
 have z42 : x42 = 0 := Int.le_antisymm r42.2 r42.1
 have z43 : x43 = 0 := Int.le_antisymm r43.2 r43.1
 have z48 : x48 = 0 := Int.le_antisymm r48.2 r48.1
 have z49 : x49 = 0 := Int.le_antisymm r49.2 r49.1
 have z52 : x52 = 0 := Int.le_antisymm r52.2 r52.1
 have z55 : x55 = 0 := Int.le_antisymm r55.2 r55.1
 have hsum := mulSum x6 x7 x8 x9 x10 x11 x12 x13 x14 x15 x16 x17 x18 x19 x20 x21 x22 x23 x24 x25 x26 x27 x28 x29 x30 x31 x32 x33 x34 x35 x36 x37 x38 x39 x40 x41 x42 x43 x44 x45 x46 x47 x48 x49 x50 x51 x52 x53 x54 x55 x56 e8 e11 e14 e16 e18 e20 e23 e26 e29 e31 e33 e36 e39 e42 e44 e46 e48 e50 e52 e54 e56 z16 z17 z19 z31 z32 z42 z43 z48 z49 z52
 refine ⟨x7, x22, x35, x45, x51, x55, rlt r7, rlt r22, rlt r35, rlt r45, rlt ⟨r51.1, Int.le_trans r51.2 (by decide)⟩, z55, ?_, fun w => ?_⟩
 · rw [hsum, h6, h9, h12, h21, h24, h27, h34, h37, h40]
 · obtain ⟨G, hG⟩ : ∃ G, G = mkGh [] [a0, a1, a2, b0, b1, b2, x6, x7, x8, x9, x10, x11, x12, x13, x14, x15, x16, x17, x18, x19, x20, x21, x22, x23, x24, x25, x26, x27, x28, x29, x30, x31, x32, x33, x34, x35, x36, x37, x38, x39, x40, x41, x42, x43, x44, x45, x46, x47, x48, x49, x50, x51, x52, x53, x54, x55, x56] rfl := ⟨_, rfl⟩
   have hbd : bdOk G.σ bdM 0 := by rw [hG]; exact ⟨r0, r1, r2, r3, r4, r5, r6, r7, r8, r9, r10, r11, r12, r13, r14, r15, r16, r17, r18, r19, r20, r21, r22, r23, r24, r25, r26, r27, r28, r29, r30, r31, r32, r33, r34, r35, r36, r37, r38, r39, r40, r41, r42, r43, r44, r45, r46, r47, r48, r49, r50, r51, r52, r53, r54, r55, r56, trivial⟩
   have hnl : nlOk G nlM := by
    rw [hG]
    exact ⟨.inl ⟨rfl, wmul h6 ⟨r6.1, Int.le_trans r6.2 (by decide)⟩⟩,
     .inr (.inr (.inl ⟨rfl, nz, wrem (S := (0 + (1 * x6 + 0))) (s := x6) (by simp only [Int.zero_add, Int.add_zero, Int.one_mul]) r6.1 h7⟩)),
     .inr (.inl ⟨rfl, nz, wquo (S := (0 + (1 * x6 + 0))) (s := x6) (by simp only [Int.zero_add, Int.add_zero, Int.one_mul]) r6.1 h8 ⟨r8.1, Int.le_trans r8.2 (by decide)⟩⟩),
     .inl ⟨rfl, wmul h9 ⟨r9.1, Int.le_trans r9.2 (by decide)⟩⟩,
     .inr (.inr (.inl ⟨rfl, nz, wrem (S := (0 + (1 * x9 + (1 * x8 + 0)))) (s := x9 + x8) (by simp only [Int.zero_add, Int.add_zero, Int.one_mul]) (radd r9 r8).1 h10⟩)),
     .inr (.inl ⟨rfl, nz, wquo (S := (0 + (1 * x9 + (1 * x8 + 0)))) (s := x9 + x8) (by simp only [Int.zero_add, Int.add_zero, Int.one_mul]) (radd r9 r8).1 h11 ⟨r11.1, Int.le_trans r11.2 (by decide)⟩⟩),
     .inl ⟨rfl, wmul h12 ⟨r12.1, Int.le_trans r12.2 (by decide)⟩⟩,
     .inr (.inr (.inl ⟨rfl, nz, wrem (S := (0 + (1 * x12 + (1 * x11 + 0)))) (s := x12 + x11) (by simp only [Int.zero_add, Int.add_zero, Int.one_mul]) (radd r12 r11).1 h13⟩)),
     .inr (.inl ⟨rfl, nz, wquo (S := (0 + (1 * x12 + (1 * x11 + 0)))) (s := x12 + x11) (by simp only [Int.zero_add, Int.add_zero, Int.one_mul]) (radd r12 r11).1 h14 ⟨r14.1, Int.le_trans r14.2 (by decide)⟩⟩),
     .inr (.inr (.inl ⟨rfl, nz, wrem (S := (0 + (1 * x14 + 0))) (s := x14) (by simp only [Int.zero_add, Int.add_zero, Int.one_mul]) r14.1 h15⟩)),
     .inr (.inl ⟨rfl, nz, wquo (S := (0 + (1 * x14 + 0))) (s := x14) (by simp only [Int.zero_add, Int.add_zero, Int.one_mul]) r14.1 h16 ⟨r16.1, Int.le_trans r16.2 (by decide)⟩⟩),
     .inr (.inr (.inl ⟨rfl, nz, wrem (S := (0 + (1 * x16 + 0))) (s := x16) (by simp only [Int.zero_add, Int.add_zero, Int.one_mul]) r16.1 h17⟩)),
     .inr (.inl ⟨rfl, nz, wquo (S := (0 + (1 * x16 + 0))) (s := x16) (by simp only [Int.zero_add, Int.add_zero, Int.one_mul]) r16.1 h18 ⟨r18.1, Int.le_trans r18.2 (by decide)⟩⟩),
     .inr (.inr (.inl ⟨rfl, nz, wrem (S := (0 + (1 * x18 + 0))) (s := x18) (by simp only [Int.zero_add, Int.add_zero, Int.one_mul]) r18.1 h19⟩)),
     .inr (.inl ⟨rfl, nz, wquo (S := (0 + (1 * x18 + 0))) (s := x18) (by simp only [Int.zero_add, Int.add_zero, Int.one_mul]) r18.1 h20 ⟨r20.1, Int.le_trans r20.2 (by decide)⟩⟩),
     .inl ⟨rfl, wmul h21 ⟨r21.1, Int.le_trans r21.2 (by decide)⟩⟩,
     .inr (.inr (.inl ⟨rfl, nz, wrem (S := (0 + (1 * x21 + (1 * x10 + 0)))) (s := x21 + x10) (by simp only [Int.zero_add, Int.add_zero, Int.one_mul]) (radd r21 r10).1 h22⟩)),
     .inr (.inl ⟨rfl, nz, wquo (S := (0 + (1 * x21 + (1 * x10 + 0)))) (s := x21 + x10) (by simp only [Int.zero_add, Int.add_zero, Int.one_mul]) (radd r21 r10).1 h23 ⟨r23.1, Int.le_trans r23.2 (by decide)⟩⟩),
     .inl ⟨rfl, wmul h24 ⟨r24.1, Int.le_trans r24.2 (by decide)⟩⟩,
     .inr (.inr (.inl ⟨rfl, nz, wrem (S := (0 + (1 * x24 + (1 * x13 + (1 * x23 + 0))))) (s := x24 + x13 + x23) (by simp only [Int.zero_add, Int.add_zero, Int.one_mul, Int.add_assoc]) (radd (radd r24 r13) r23).1 h25⟩)),
     .inr (.inl ⟨rfl, nz, wquo (S := (0 + (1 * x24 + (1 * x13 + (1 * x23 + 0))))) (s := x24 + x13 + x23) (by simp only [Int.zero_add, Int.add_zero, Int.one_mul, Int.add_assoc]) (radd (radd r24 r13) r23).1 h26 ⟨r26.1, Int.le_trans r26.2 (by decide)⟩⟩),
     .inl ⟨rfl, wmul h27 ⟨r27.1, Int.le_trans r27.2 (by decide)⟩⟩,
     .inr (.inr (.inl ⟨rfl, nz, wrem (S := (0 + (1 * x27 + (1 * x15 + (1 * x26 + 0))))) (s := x27 + x15 + x26) (by simp only [Int.zero_add, Int.add_zero, Int.one_mul, Int.add_assoc]) (radd (radd r27 r15) r26).1 h28⟩)),
     .inr (.inl ⟨rfl, nz, wquo (S := (0 + (1 * x27 + (1 * x15 + (1 * x26 + 0))))) (s := x27 + x15 + x26) (by simp only [Int.zero_add, Int.add_zero, Int.one_mul, Int.add_assoc]) (radd (radd r27 r15) r26).1 h29 ⟨r29.1, Int.le_trans r29.2 (by decide)⟩⟩),
     .inr (.inr (.inl ⟨rfl, nz, wrem (S := (0 + (1 * x17 + (1 * x29 + 0)))) (s := x17 + x29) (by simp only [Int.zero_add, Int.add_zero, Int.one_mul]) (radd r17 r29).1 h30⟩)),
     .inr (.inl ⟨rfl, nz, wquo (S := (0 + (1 * x17 + (1 * x29 + 0)))) (s := x17 + x29) (by simp only [Int.zero_add, Int.add_zero, Int.one_mul]) (radd r17 r29).1 h31 ⟨r31.1, Int.le_trans r31.2 (by decide)⟩⟩),
     .inr (.inr (.inl ⟨rfl, nz, wrem (S := (0 + (1 * x19 + (1 * x31 + 0)))) (s := x19 + x31) (by simp only [Int.zero_add, Int.add_zero, Int.one_mul]) (radd r19 r31).1 h32⟩)),
     .inr (.inl ⟨rfl, nz, wquo (S := (0 + (1 * x19 + (1 * x31 + 0)))) (s := x19 + x31) (by simp only [Int.zero_add, Int.add_zero, Int.one_mul]) (radd r19 r31).1 h33 ⟨r33.1, Int.le_trans r33.2 (by decide)⟩⟩),
     .inl ⟨rfl, wmul h34 ⟨r34.1, Int.le_trans r34.2 (by decide)⟩⟩,
     .inr (.inr (.inl ⟨rfl, nz, wrem (S := (0 + (1 * x34 + (1 * x25 + 0)))) (s := x34 + x25) (by simp only [Int.zero_add, Int.add_zero, Int.one_mul]) (radd r34 r25).1 h35⟩)),
     .inr (.inl ⟨rfl, nz, wquo (S := (0 + (1 * x34 + (1 * x25 + 0)))) (s := x34 + x25) (by simp only [Int.zero_add, Int.add_zero, Int.one_mul]) (radd r34 r25).1 h36 ⟨r36.1, Int.le_trans r36.2 (by decide)⟩⟩),
     .inl ⟨rfl, wmul h37 ⟨r37.1, Int.le_trans r37.2 (by decide)⟩⟩,
     .inr (.inr (.inl ⟨rfl, nz, wrem (S := (0 + (1 * x37 + (1 * x28 + (1 * x36 + 0))))) (s := x37 + x28 + x36) (by simp only [Int.zero_add, Int.add_zero, Int.one_mul, Int.add_assoc]) (radd (radd r37 r28) r36).1 h38⟩)),
     .inr (.inl ⟨rfl, nz, wquo (S := (0 + (1 * x37 + (1 * x28 + (1 * x36 + 0))))) (s := x37 + x28 + x36) (by simp only [Int.zero_add, Int.add_zero, Int.one_mul, Int.add_assoc]) (radd (radd r37 r28) r36).1 h39 ⟨r39.1, Int.le_trans r39.2 (by decide)⟩⟩),
     .inl ⟨rfl, wmul h40 ⟨r40.1, Int.le_trans r40.2 (by decide)⟩⟩,
     .inr (.inr (.inl ⟨rfl, nz, wrem (S := (0 + (1 * x40 + (1 * x30 + (1 * x39 + 0))))) (s := x40 + x30 + x39) (by simp only [Int.zero_add, Int.add_zero, Int.one_mul, Int.add_assoc]) (radd (radd r40 r30) r39).1 h41⟩)),
     .inr (.inl ⟨rfl, nz, wquo (S := (0 + (1 * x40 + (1 * x30 + (1 * x39 + 0))))) (s := x40 + x30 + x39) (by simp only [Int.zero_add, Int.add_zero, Int.one_mul, Int.add_assoc]) (radd (radd r40 r30) r39).1 h42 ⟨r42.1, Int.le_trans r42.2 (by decide)⟩⟩),
     .inr (.inr (.inl ⟨rfl, nz, wrem (S := (0 + (1 * x32 + (1 * x42 + 0)))) (s := x32 + x42) (by simp only [Int.zero_add, Int.add_zero, Int.one_mul]) (radd r32 r42).1 h43⟩)),
     .inr (.inl ⟨rfl, nz, wquo (S := (0 + (1 * x32 + (1 * x42 + 0)))) (s := x32 + x42) (by simp only [Int.zero_add, Int.add_zero, Int.one_mul]) (radd r32 r42).1 h44 ⟨r44.1, Int.le_trans r44.2 (by decide)⟩⟩),
     .inr (.inr (.inl ⟨rfl, nz, wrem (S := (0 + (1 * x38 + 0))) (s := x38) (by simp only [Int.zero_add, Int.add_zero, Int.one_mul]) r38.1 h45⟩)),
     .inr (.inl ⟨rfl, nz, wquo (S := (0 + (1 * x38 + 0))) (s := x38) (by simp only [Int.zero_add, Int.add_zero, Int.one_mul]) r38.1 h46 ⟨r46.1, Int.le_trans r46.2 (by decide)⟩⟩),
     .inr (.inr (.inl ⟨rfl, nz, wrem (S := (0 + (1 * x41 + (1 * x46 + 0)))) (s := x41 + x46) (by simp only [Int.zero_add, Int.add_zero, Int.one_mul]) (radd r41 r46).1 h47⟩)),
     .inr (.inl ⟨rfl, nz, wquo (S := (0 + (1 * x41 + (1 * x46 + 0)))) (s := x41 + x46) (by simp only [Int.zero_add, Int.add_zero, Int.one_mul]) (radd r41 r46).1 h48 ⟨r48.1, Int.le_trans r48.2 (by decide)⟩⟩),
     .inr (.inr (.inl ⟨rfl, nz, wrem (S := (0 + (1 * x43 + (1 * x48 + 0)))) (s := x43 + x48) (by simp only [Int.zero_add, Int.add_zero, Int.one_mul]) (radd r43 r48).1 h49⟩)),
     .inr (.inl ⟨rfl, nz, wquo (S := (0 + (1 * x43 + (1 * x48 + 0)))) (s := x43 + x48) (by simp only [Int.zero_add, Int.add_zero, Int.one_mul]) (radd r43 r48).1 h50 ⟨r50.1, Int.le_trans r50.2 (by decide)⟩⟩),
     .inr (.inr (.inl ⟨rfl, nz, wrem (S := (0 + (1 * x47 + 0))) (s := x47) (by simp only [Int.zero_add, Int.add_zero, Int.one_mul]) r47.1 h51⟩)),
     .inr (.inl ⟨rfl, nz, wquo (S := (0 + (1 * x47 + 0))) (s := x47) (by simp only [Int.zero_add, Int.add_zero, Int.one_mul]) r47.1 h52 ⟨r52.1, Int.le_trans r52.2 (by decide)⟩⟩),
     .inr (.inr (.inl ⟨rfl, nz, wrem (S := (0 + (1 * x49 + (1 * x52 + 0)))) (s := x49 + x52) (by simp only [Int.zero_add, Int.add_zero, Int.one_mul]) (radd r49 r52).1 h53⟩)),
     .inr (.inl ⟨rfl, nz, wquo (S := (0 + (1 * x49 + (1 * x52 + 0)))) (s := x49 + x52) (by simp only [Int.zero_add, Int.add_zero, Int.one_mul]) (radd r49 r52).1 h54 ⟨r54.1, Int.le_trans r54.2 (by decide)⟩⟩),
     .inr (.inr (.inl ⟨rfl, nz, wrem (S := (0 + (1 * x53 + 0))) (s := x53) (by simp only [Int.zero_add, Int.add_zero, Int.one_mul]) r53.1 h55⟩)),
     .inr (.inl ⟨rfl, nz, wquo (S := (0 + (1 * x53 + 0))) (s := x53) (by simp only [Int.zero_add, Int.add_zero, Int.one_mul]) r53.1 h56 ⟨r56.1, Int.le_trans r56.2 (by decide)⟩⟩), trivial⟩
   exact run_val (G := G) progOkB (⟨hbd, trivial, hnl⟩ : Facts G bdM [] nlM) noHooks Tryz.func548 rfl (by rw [hG]; simp [argM, concL, conc, den, mkGh]) mulRun (fun φ => by rw [hG]; simp [resM, concL, conc, den, mkGh]) w
end Go.Proofs.YtmfmjhklajmhoaaGreat
