/- Worth, the document's. -/
import Derived.Test.YtmeifmkmlbbdgaaGreatNeed
import Derived.Test.YtmeifmkmlbbdgaaGreatBigMd
namespace Go.Proofs.YtmeifmkmlbbdgaaGreat
open Go Go.RowKit Gv
def woR : List HT := [⟨415, [.sint .i64 0 [(0,1)], .sint .i64 0 [(1,1)], .int .i64 1], .tuple [.sint .i64 0 [(3,1)], .int .i64 0]⟩, ⟨415, [.sint .i64 0 [(3,1)], .sint .i64 10000 [(2,-1)], .int .i64 10000], .tuple [.sint .i64 0 [(4,1)], .int .i64 0]⟩]
theorem woRunR : ((callN (evE Tryz.prog (hkT woR) woBd [] []) 10 467 woA H0).isV (.tuple [.sint .i64 0 [(4,1)], .int .i64 0])) = true := by kernel_rfl
set_option maxRecDepth 100000 in
set_option maxHeartbeats 1000000 in
theorem worthR (q p c : Int) (hq : 0 ≤ q ∧ q ≤ 9223372036854775807) (hp : 0 ≤ p ∧ p ≤ 9223372036854775807) (hc : 0 ≤ c ∧ c ≤ 10000) (h : q * p ≤ 1152921504606846976) (w : World) :
    Calls Tryz.prog 467 #[.int .i64 q, .int .i64 p, .int .i64 c] w fun e w' => e = .returned (.tuple #[.int .i64 (ndW p c q), .int .i64 0]) ∧ Below w.heap.size w w' := by
  obtain ⟨x, hx⟩ : ∃ z : Int, z = q * p := ⟨_, rfl⟩
  have hx0 : 0 ≤ x := by rw [hx]; exact Int.mul_nonneg hq.1 hp.1
  rw [← hx] at h
  obtain ⟨y, hy⟩ : ∃ z : Int, z = ndW p c q := ⟨_, rfl⟩
  have ry : 0 ≤ y ∧ y ≤ 1152921504606846976 := by rw [hy]; exact ndW_rng hq.1 hp.1 hc (by rw [← hx]; exact h)
  have hy2 : x * (10000 - c) / 10000 = y := by rw [hy, hx]; rfl
  rw [← hy]
  obtain ⟨G, hG⟩ : ∃ G, G = mkGh [] [q, p, c, x, y] rfl := ⟨_, rfl⟩
  have s0 : G.σ 0 = q := by rw [hG]; rfl
  have s1 : G.σ 1 = p := by rw [hG]; rfl
  have s2 : G.σ 2 = c := by rw [hG]; rfl
  have s3 : G.σ 3 = x := by rw [hG]; rfl
  have s4 : G.σ 4 = y := by rw [hG]; rfl
  have hm : ¬ G.mono := by rw [hG]; exact fun h => h
  have F : Facts G woBd [] [] := ⟨by rw [hG]; exact ⟨hq, hp, hc, ⟨hx0, h⟩, ry, trivial⟩, trivial, trivial⟩
  have harg : concL G (fun _ => none) woA = some [.int .i64 q, .int .i64 p, .int .i64 c] := by simp [woA, concL, conc, den, s0, s1, s2]
  have hcut : ∀ φ, conc G φ (.sint .i64 10000 [(2,-1)]) = some (.int .i64 (10000 - c)) := fun φ => by
    rw [conc]
    show some (Value.int .i64 (10000 + (-1 * G.σ 2 + 0))) = _
    rw [s2, show (10000 : Int) + (-1 * c + 0) = 10000 - c from by omega]
  have i3 : ∀ φ, conc G φ (.sint .i64 0 [(3,1)]) = some (.int .i64 x) := fun φ => by simp [conc, den, s3]
  have i4 : ∀ φ, conc G φ (.tuple [.sint .i64 0 [(4,1)], .int .i64 0]) = some (.tuple #[.int .i64 y, .int .i64 0]) := fun φ => by simp [concL, conc, den, s4]
  have l2 : ∀ φ, concL G φ [.sint .i64 0 [(3,1)], .sint .i64 10000 [(2,-1)], .int .i64 10000] = some [.int .i64 x, .int .i64 (10000 - c), .int .i64 10000] := fun φ =>
    concL_cons.2 ⟨_, _, i3 φ, concL_cons.2 ⟨_, _, hcut φ, concL_cons.2 ⟨_, _, by rw [conc], concL_nil, rfl⟩, rfl⟩, rfl⟩
  have hh : HooksOk Tryz.prog G (hkT woR) := hkT_ok progOkB woR (fun t ht => by
    simp only [woR, List.mem_cons, List.not_mem_nil, or_false] at ht
    rcases ht with rfl | rfl
    · refine HTOk.of Tryz.func415 rfl (ul := [.int .i64 q, .int .i64 p, .int .i64 1]) (u := .tuple #[.int .i64 x, .int .i64 0]) (fun φ => by simp [concL, conc, den, s0, s1]) (fun φ => by simp [concL, conc, den, s3]) (fun w => ?_)
      have := muldiv_ok q p 1 hq hp (by omega) w
      rwa [md_val (z := x) (by rw [← hx, Int.ediv_one]) h] at this
    · refine HTOk.of Tryz.func415 rfl l2 i4 (fun w => ?_)
      have := muldiv_ok x (10000 - c) 10000 (by omega) (by omega) (by omega) w
      rwa [md_val hy2 ry.2] at this) hm
  exact run_val (G := G) progOkB F hh Tryz.func467 rfl harg woRunR i4 w
end Go.Proofs.YtmeifmkmlbbdgaaGreat
