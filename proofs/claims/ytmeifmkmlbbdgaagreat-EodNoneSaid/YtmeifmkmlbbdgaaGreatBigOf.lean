/- The document's big numbers: Of. -/
import Derived.Test.YtmeifmkmlbbdgaaGreatLoopKit
import Derived.WalkKit
import Derived.LoopN
import Derived.Below
import Derived.Laws.Rows
namespace Go.Proofs.YtmeifmkmlbbdgaaGreat
open Go Go.RowKit Gv

/-- A number's digit. -/
def dg (v j : Nat) : Nat := v / 1073741824 ^ j % 1073741824
def bigV (v : Nat) : Value := .agg #[.int .i64 (dg v 0), .int .i64 (dg v 1), .int .i64 (dg v 2), .int .i64 (dg v 3), .int .i64 (dg v 4), .int .i64 (dg v 5)]

theorem step_rem (v : Nat) : (v : Int).tmod 1073741824 = ((v % 1073741824 : Nat) : Int) := by
  rw [Int.tmod_eq_emod_of_nonneg (by omega)]; omega
theorem step_quo (v : Nat) : (v : Int).tdiv 1073741824 = ((v / 1073741824 : Nat) : Int) := by
  rw [Int.tdiv_eq_ediv_of_nonneg (by omega)]; omega
theorem wrapI (v : Nat) (h : v < 9223372036854775808) : IntKind.i64.wrap (v : Int) = v := by rw [IntKind.wrap_i64]; omega

set_option maxRecDepth 100000 in
set_option maxHeartbeats 2000000 in
theorem of_ok (v : Nat) (hv : v < 9223372036854775808) (w : World) : Calls Tryz.prog 413 #[.int .i64 (v : Int)] w fun e w' => e = .returned (bigV v) ∧ Below w.heap.size w w' := by
  obtain ⟨v1, h1⟩ : ∃ v1, v / 1073741824 = v1 := ⟨_, rfl⟩
  obtain ⟨v2, h2⟩ : ∃ v2, v1 / 1073741824 = v2 := ⟨_, rfl⟩
  have hv3 : v2 / 1073741824 = 0 := by omega
  obtain ⟨r0, g0⟩ : ∃ r, v % 1073741824 = r := ⟨_, rfl⟩
  obtain ⟨r1, g1⟩ : ∃ r, v1 % 1073741824 = r := ⟨_, rfl⟩
  obtain ⟨r2, g2⟩ : ∃ r, v2 % 1073741824 = r := ⟨_, rfl⟩
  have q0 : (v : Int).tdiv 1073741824 = (v1 : Int) := by rw [step_quo, h1]
  have q1 : (v1 : Int).tdiv 1073741824 = (v2 : Int) := by rw [step_quo, h2]
  have q2 : (v2 : Int).tdiv 1073741824 = 0 := by rw [step_quo, hv3]; rfl
  have m0 : (v : Int).tmod 1073741824 = (r0 : Int) := by rw [step_rem, g0]
  have m1 : (v1 : Int).tmod 1073741824 = (r1 : Int) := by rw [step_rem, g1]
  have m2 : (v2 : Int).tmod 1073741824 = (r2 : Int) := by rw [step_rem, g2]
  have w0 : IntKind.i64.wrap (r0 : Int) = r0 := wrapI _ (by omega)
  have w1 : IntKind.i64.wrap (r1 : Int) = r1 := wrapI _ (by omega)
  have w2 : IntKind.i64.wrap (r2 : Int) = r2 := wrapI _ (by omega)
  have w3 : IntKind.i64.wrap (v1 : Int) = v1 := wrapI _ (by omega)
  have w4 : IntKind.i64.wrap (v2 : Int) = v2 := wrapI _ (by omega)
  have hb : bigV v = .agg #[.int .i64 r0, .int .i64 r1, .int .i64 r2, .int .i64 0, .int .i64 0, .int .i64 0] := by
    have e1 : dg v 0 = r0 := by unfold dg; rw [Nat.pow_zero, Nat.div_one]; exact g0
    have e2 : dg v 1 = r1 := by unfold dg; rw [Nat.pow_one, h1]; exact g1
    have e3 : dg v 2 = r2 := by unfold dg; rw [Nat.pow_succ, Nat.pow_one, ← Nat.div_div_eq_div_mul, h1, h2]; exact g2
    have e4 : dg v 3 = 0 := by unfold dg; rw [Nat.div_eq_of_lt (by omega)]
    have e5 : dg v 4 = 0 := by unfold dg; rw [Nat.div_eq_of_lt (by omega)]
    have e6 : dg v 5 = 0 := by unfold dg; rw [Nat.div_eq_of_lt (by omega)]
    unfold bigV
    rw [e1, e2, e3, e4, e5, e6]
    rfl
  rw [hb]
  have H := And.intro h1 (And.intro h2 (And.intro hv3 (And.intro g0 (And.intro g1 g2))))
  clear h1 h2 hv3 g0 g1 g2 hb H
  go_enter Tryz.func413, Tryz.ntmps413
  go_wp2
  refine wp_loop_rounds 7 ?_
  rw [rounds_succ]; go_wp2
  rw [rounds_succ]; go_wp2
  rw [rounds_succ]; go_wp2
  rw [rounds_succ]; go_wp2
  rw [rounds_succ]; go_wp2
  rw [rounds_succ]; go_wp2
  rw [rounds_succ]; go_wp2
  refine bodyPost_ret (results_cell_row rfl _ _ w.heap.size 497 _ (0, 0) _ rfl ((Below.heap_alloc _ _ _ (by simp)).trans (heap_alloc_new w _)) Tryz.underlying497 rfl rfl) rfl ?_
  refine ⟨rfl, ?_⟩
  exact ((Below.refl _ w).alloc (Nat.le_refl _) _).alloc (by simp) _
end Go.Proofs.YtmeifmkmlbbdgaaGreat
