/- inst.Owes: what is owed for so much more. -/
import Derived.Test.YtdfgedemolielaaGreatDivNum
namespace Go.Proofs.YtdfgedemolielaaGreat
open Go Go.RowKit Gv
def owBd : List (Int × Int) := [(1, 2199023255552), (0, 1125899906842624), (0, 2199023255552), (0, 1125899906842624), (0, 2199023255552), (0, 1125899906842624)]
def owGe : List (Int × List (Nat × Int)) := [(0,[(0,1),(2,-1)]), (0,[(0,1),(2,-1),(4,-1)]), (0,[(5,1),(3,-1)])]
def owX : V := .agg [.opq 0, .opq 1, .opq 2, .opq 3, .opq 4, .opq 5, .opq 6, .opq 7, .opq 8, .sint .i64 0 [(0,1)], .sint .i64 0 [(1,1)], .opq 11, .opq 12, .opq 13, .opq 14, .opq 15, .opq 16, .opq 17, .opq 18, .sint .i64 0 [(2,1)], .sint .i64 0 [(3,1)]]
def owA : List V := [owX, .sint .i64 0 [(4,1)]]
def owT : List HT := [⟨386, [.sint .i64 0 [(1,1)], .sint .i64 0 [(4,1),(2,1)], .sint .i64 0 [(0,1)]], .tuple [.sint .i64 0 [(5,1)], .int .i64 0]⟩]
theorem owRun : ((callN (evE Tryz.prog (hkT owT) owBd owGe []) 10 253 owA H0).isV (.tuple [.sint .i64 0 [(5,1),(3,-1)], .int .i64 0])) = true := by kernel_rfl
set_option maxRecDepth 100000 in
set_option maxHeartbeats 2000000 in
theorem owes_ok (x0 x1 x2 x3 x4 x5 x6 x7 x8 x11 x12 x13 x14 x15 x16 x17 x18 : Value) (he : (x0.oneCell' && x1.oneCell' && x2.oneCell' && x3.oneCell' && x4.oneCell' && x5.oneCell' && x6.oneCell' && x7.oneCell' && x8.oneCell' && x11.oneCell' && x12.oneCell' && x13.oneCell' && x14.oneCell' && x15.oneCell' && x16.oneCell' && x17.oneCell' && x18.oneCell') = true) (Q A d pd m s : Int) (hQ : 1 ≤ Q ∧ Q ≤ 2199023255552) (hA : 0 ≤ A ∧ A ≤ 1125899906842624) (hd : 0 ≤ d) (hp : 0 ≤ pd ∧ pd ≤ s) (hm : 0 ≤ m ∧ m ≤ Q - d) (hs : A * (m + d) / Q = s) (w : World) :
    Calls Tryz.prog 253 #[.agg #[x0, x1, x2, x3, x4, x5, x6, x7, x8, .int .i64 Q, .int .i64 A, x11, x12, x13, x14, x15, x16, x17, x18, .int .i64 d, .int .i64 pd], .int .i64 m] w fun e w' => e = .returned (.tuple #[.int .i64 (s - pd), .int .i64 0]) ∧ Below w.heap.size w w' := by
  have hsA : 0 ≤ s ∧ s ≤ A := by
    rw [← hs]
    exact ⟨Int.ediv_nonneg (Int.mul_nonneg hA.1 (by omega)) (by omega), Int.ediv_le_of_le_mul (by omega) (Int.mul_le_mul_of_nonneg_left (by omega) hA.1)⟩
  obtain ⟨G, hG⟩ : ∃ G, G = mkGh [x0, x1, x2, x3, x4, x5, x6, x7, x8, .bool false, .bool false, x11, x12, x13, x14, x15, x16, x17, x18, .bool false, .bool false] [Q, A, d, pd, m, s] (by simpa [and_assoc, Value.oneCell'] using he) := ⟨_, rfl⟩
  have s0 : G.σ 0 = Q := by rw [hG]; rfl
  have s1 : G.σ 1 = A := by rw [hG]; rfl
  have s2 : G.σ 2 = d := by rw [hG]; rfl
  have s3 : G.σ 3 = pd := by rw [hG]; rfl
  have s4 : G.σ 4 = m := by rw [hG]; rfl
  have s5 : G.σ 5 = s := by rw [hG]; rfl
  have hmo : ¬ G.mono := by rw [hG]; exact fun h => h
  have F : Facts G owBd owGe [] := ⟨by rw [hG]; exact ⟨hQ, hA, ⟨hd, by show d ≤ _; omega⟩, ⟨hp.1, by show pd ≤ _; omega⟩, ⟨hm.1, by show m ≤ _; omega⟩, ⟨hsA.1, by show s ≤ _; omega⟩, trivial⟩, by simp only [owGe, geOk, and_true, den]; rw [s0, s2, s3, s4, s5]; omega, trivial⟩
  have ε0 : G.ε 0 = x0 := by rw [hG]; rfl
  have ε1 : G.ε 1 = x1 := by rw [hG]; rfl
  have ε2 : G.ε 2 = x2 := by rw [hG]; rfl
  have ε3 : G.ε 3 = x3 := by rw [hG]; rfl
  have ε4 : G.ε 4 = x4 := by rw [hG]; rfl
  have ε5 : G.ε 5 = x5 := by rw [hG]; rfl
  have ε6 : G.ε 6 = x6 := by rw [hG]; rfl
  have ε7 : G.ε 7 = x7 := by rw [hG]; rfl
  have ε8 : G.ε 8 = x8 := by rw [hG]; rfl
  have ε11 : G.ε 11 = x11 := by rw [hG]; rfl
  have ε12 : G.ε 12 = x12 := by rw [hG]; rfl
  have ε13 : G.ε 13 = x13 := by rw [hG]; rfl
  have ε14 : G.ε 14 = x14 := by rw [hG]; rfl
  have ε15 : G.ε 15 = x15 := by rw [hG]; rfl
  have ε16 : G.ε 16 = x16 := by rw [hG]; rfl
  have ε17 : G.ε 17 = x17 := by rw [hG]; rfl
  have ε18 : G.ε 18 = x18 := by rw [hG]; rfl
  have hX : ∀ φ, conc G φ owX = some (.agg #[x0, x1, x2, x3, x4, x5, x6, x7, x8, .int .i64 Q, .int .i64 A, x11, x12, x13, x14, x15, x16, x17, x18, .int .i64 d, .int .i64 pd]) := fun φ => by
    simp only [owX, conc, concL, den, ε0, ε1, ε2, ε3, ε4, ε5, ε6, ε7, ε8, ε11, ε12, ε13, ε14, ε15, ε16, ε17, ε18, s0, s1, s2, s3]
    simp
  have i1 : ∀ φ, conc G φ (.sint .i64 0 [(1,1)]) = some (.int .i64 A) := fun φ => by simp [conc, den, s1]
  have i0 : ∀ φ, conc G φ (.sint .i64 0 [(0,1)]) = some (.int .i64 Q) := fun φ => by simp [conc, den, s0]
  have im : ∀ φ, conc G φ (.sint .i64 0 [(4,1),(2,1)]) = some (.int .i64 (m + d)) := fun φ => by
    rw [conc]
    show some (Value.int .i64 (0 + (1 * G.σ 4 + (1 * G.σ 2 + 0)))) = _
    rw [s4, s2, show (0 : Int) + (1 * m + (1 * d + 0)) = m + d from by omega]
  have i5 : ∀ φ, conc G φ (.sint .i64 0 [(5,1),(3,-1)]) = some (.int .i64 (s - pd)) := fun φ => by
    rw [conc]
    show some (Value.int .i64 (0 + (1 * G.σ 5 + (-1 * G.σ 3 + 0)))) = _
    rw [s5, s3, show (0 : Int) + (1 * s + (-1 * pd + 0)) = s - pd from by omega]
  have hh : HooksOk Tryz.prog G (hkT owT) := hkT_ok progOkB owT (fun t ht => by
    simp only [owT, List.mem_cons, List.not_mem_nil, or_false] at ht
    subst ht
    refine HTOk.of Tryz.func386 rfl (fun φ => concL_cons.2 ⟨_, _, i1 φ, concL_cons.2 ⟨_, _, im φ, concL_cons.2 ⟨_, _, i0 φ, concL_nil, rfl⟩, rfl⟩, rfl⟩) (u := .tuple #[.int .i64 s, .int .i64 0]) (fun φ => by simp [concL, conc, den, s5]) (fun w => ?_)
    have := mmuldiv_ok A (m + d) Q (by omega) (by omega) (by omega) w
    rwa [md_val hs (by omega)] at this) hmo
  refine run_val (G := G) progOkB F hh Tryz.func253 rfl (concL_cons.2 ⟨_, _, hX _, concL_cons.2 ⟨_, _, by simp [conc, den, s4], concL_nil, rfl⟩, rfl⟩) owRun (fun φ => ?_) w
  rw [conc, concL_cons.2 ⟨_, _, i5 φ, concL_cons.2 ⟨_, _, by rw [conc], concL_nil, rfl⟩, rfl⟩]
end Go.Proofs.YtdfgedemolielaaGreat
