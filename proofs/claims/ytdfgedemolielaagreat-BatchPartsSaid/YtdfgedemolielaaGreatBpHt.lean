/- complinelaw26.BatchParts: what is hooked in. -/
import Derived.Test.YtdfgedemolielaaGreatAlive26
import Derived.Test.YtdfgedemolielaaGreatPaid
import Derived.Test.YtdfgedemolielaaGreatOwes
import Derived.Test.YtdfgedemolielaaGreatBpS
import Derived.Test.YtdfgedemolielaaGreatMoH
namespace Go.Proofs.YtdfgedemolielaaGreat
open Go Go.RowKit Gv Gv.Lt
noncomputable def bpX1 : Gv.V := a [i 1, s 1 0x50, s 2 0x4150, s 2 0x4250, s 1 0x51, b true, s 1 0x58, s 3 0x525545, s 0 0, y 0 [(0, 1)], y 0 [(1, 1)], i 0, i 0, i 2, b true, b false, b false, i 1, i 2, i 0, i 0]
noncomputable def bpX2 : Gv.V := a [i 1, s 1 0x50, s 2 0x4150, s 2 0x4250, s 1 0x51, b true, s 1 0x58, s 3 0x525545, s 0 0, y 0 [(0, 1)], y 0 [(1, 1)], i 0, i 0, i 2, b true, b false, b false, i 2, i 2, y 0 [(4, 1)], y 0 [(8, 1)]]
noncomputable def bpX3 : Gv.V := a [i 1, s 1 0x50, s 2 0x4150, s 2 0x4250, s 1 0x51, b true, s 1 0x58, s 3 0x525545, s 0 0, y 0 [(0, 1)], y 0 [(1, 1)], i 0, i 0, i 2, b true, b false, b false, i 2, i 2, y 0 [(2, 1)], y 0 [(9, 1)]]
noncomputable def bpX4 : Gv.V := a [i 1, s 1 0x50, s 2 0x4150, s 2 0x4250, s 1 0x51, b true, s 1 0x58, s 3 0x525545, s 0 0, y 0 [(0, 1)], y 0 [(1, 1)], i 0, i 0, i 2, b true, b false, b false, i 2, i 2, y 0 [(11, 1)], i 0]
noncomputable def bpT : List HT := [⟨386, [.sint .i64 0 [(1,1)], .sint .i64 0 [(0,1)], .sint .i64 0 [(0,1)]], .tuple [.sint .i64 0 [(1,1)], .int .i64 0]⟩, ⟨386, [.sint .i64 0 [(1,1)], .sint .i64 0 [(4,1)], .sint .i64 0 [(0,1)]], .tuple [.sint .i64 0 [(8,1)], .int .i64 0]⟩, ⟨386, [.sint .i64 0 [(1,1)], .sint .i64 0 [(2,1)], .sint .i64 0 [(0,1)]], .tuple [.sint .i64 0 [(9,1)], .int .i64 0]⟩, ⟨386, [.sint .i64 0 [(1,1)], .sint .i64 0 [(11,1)], .sint .i64 0 [(0,1)]], .tuple [.int .i64 0, .int .i64 0]⟩, ⟨386, [.sint .i64 0 [(1,1)], .int .i64 0, .sint .i64 0 [(0,1)]], .tuple [.int .i64 0, .int .i64 0]⟩, ⟨358, [moX, .sint .i64 0 [(0,1)], .sint .i64 0 [(4,1)]], .sint .i64 0 [(4,1)]⟩, ⟨358, [moX, .sint .i64 0 [(0,1)], .sint .i64 0 [(2,1)]], .sint .i64 0 [(2,1)]⟩, ⟨358, [moX, .sint .i64 0 [(0,1)], .sint .i64 0 [(11,1)]], .sint .i64 0 [(11,1)]⟩, ⟨358, [moX, .sint .i64 0 [(0,1)], .int .i64 0], .int .i64 0⟩, ⟨358, [moX, .sint .i64 0 [(0,1),(4,-1)], .int .i64 0], .int .i64 0⟩, ⟨358, [moX, .sint .i64 0 [(0,1),(2,-1)], .int .i64 0], .int .i64 0⟩, ⟨358, [moX, .sint .i64 0 [(0,1),(11,-1)], .int .i64 0], .int .i64 0⟩, ⟨360, [bpX1, .sint .i64 0 [(3,1)]], .sint .i64 0 [(4,1)]⟩, ⟨360, [bpX1, .int .i64 0], .sint .i64 0 [(11,1)]⟩, ⟨360, [bpX2, .sint .i64 0 [(3,1),(8,-1)]], .int .i64 0⟩, ⟨360, [bpX2, .int .i64 0], .sint .i64 0 [(12,1)]⟩, ⟨360, [bpX2, .sint .i64 0 [(3,1)]], .sint .i64 0 [(14,1)]⟩, ⟨360, [bpX3, .sint .i64 0 [(3,1),(9,-1)]], .sint .i64 0 [(2,-1),(4,1)]⟩, ⟨360, [bpX3, .int .i64 0], .sint .i64 0 [(13,1)]⟩, ⟨360, [bpX3, .sint .i64 0 [(3,1)]], .sint .i64 0 [(15,1)]⟩, ⟨360, [bpX4, .int .i64 0], .int .i64 0⟩, ⟨5, [], .bool true⟩, ⟨360, [bpX2, .sint .i64 0 [(8,-1),(3,1)]], .int .i64 0⟩, ⟨360, [bpX3, .sint .i64 0 [(9,-1),(3,1)]], .sint .i64 0 [(2,-1),(4,1)]⟩]
def bpXv (Q A z d p : Int) : Value := .agg #[.int .i64 1, .string ⟨(strL 1 80).toArray⟩, .string ⟨(strL 2 16720).toArray⟩, .string ⟨(strL 2 16976).toArray⟩, .string ⟨(strL 1 81).toArray⟩, .bool true, .string ⟨(strL 1 88).toArray⟩, .string ⟨(strL 3 5395781).toArray⟩, .string ⟨(strL 0 0).toArray⟩, .int .i64 Q, .int .i64 A, .int .i64 0, .int .i64 0, .int .i64 2, .bool true, .bool false, .bool false, .int .i64 z, .int .i64 2, .int .i64 d, .int .i64 p]
section
variable {G : Gh} {Q A V t Z sV sT : Int} (φ : Mp)
theorem bpX1_conc (s0 : G.σ 0 = Q) (s1 : G.σ 1 = A) : conc G φ bpX1 = some (bpXv Q A 1 0 0) := by simp [bpX1, bpXv, Lt.a, Lt.i, Lt.s, Lt.b, Lt.y, conc, concL, den, s0, s1]
theorem bpX2_conc (s0 : G.σ 0 = Q) (s1 : G.σ 1 = A) (s4 : G.σ 4 = V) (s8 : G.σ 8 = sV) : conc G φ bpX2 = some (bpXv Q A 2 V sV) := by simp [bpX2, bpXv, Lt.a, Lt.i, Lt.s, Lt.b, Lt.y, conc, concL, den, s0, s1, s4, s8]
theorem bpX3_conc (s0 : G.σ 0 = Q) (s1 : G.σ 1 = A) (s2 : G.σ 2 = t) (s9 : G.σ 9 = sT) : conc G φ bpX3 = some (bpXv Q A 2 t sT) := by simp [bpX3, bpXv, Lt.a, Lt.i, Lt.s, Lt.b, Lt.y, conc, concL, den, s0, s1, s2, s9]
theorem bpX4_conc (s0 : G.σ 0 = Q) (s1 : G.σ 1 = A) (s11 : G.σ 11 = Z) : conc G φ bpX4 = some (bpXv Q A 2 Z 0) := by simp [bpX4, bpXv, Lt.a, Lt.i, Lt.s, Lt.b, Lt.y, conc, concL, den, s0, s1, s11]
end
theorem bpLe {Q A m : Int} (hQ : 1 ≤ Q ∧ Q ≤ 500) (hA : 0 ≤ A ∧ A ≤ 500) (hm : 0 ≤ m ∧ m ≤ Q) : 0 ≤ A * m / Q ∧ A * m / Q ≤ A :=
  ⟨Int.ediv_nonneg (Int.mul_nonneg hA.1 (by omega)) (by omega), Int.ediv_le_of_le_mul (by omega) (Int.mul_le_mul_of_nonneg_left hm.2 hA.1)⟩
theorem bpMono {Q A m n : Int} (hQ : 1 ≤ Q ∧ Q ≤ 500) (hA : 0 ≤ A ∧ A ≤ 500) (h : m ≤ n) : A * m / Q ≤ A * n / Q := bp_mono hA.1 hQ.1 h
theorem bpPaid {Q A z d p M v : Int} (hQ : 1 ≤ Q ∧ Q ≤ 500) (hA : 0 ≤ A ∧ A ≤ 500) (hd : 0 ≤ d ∧ d ≤ Q) (hp : A * d / Q = p) (hM : 0 ≤ M ∧ M ≤ 500) (hv : 0 ≤ v ∧ v ≤ Q - d) (down : ∀ m : Int, 1 ≤ m → m ≤ v → A * (m + d) / Q - p ≤ M) (up : ∀ m : Int, v < m → m ≤ Q - d → M < A * (m + d) / Q - p) (w : World) : Calls Tryz.prog 360 #[bpXv Q A z d p, .int .i64 M] w fun e w' => e = .returned (.int .i64 v) ∧ Below w.heap.size w w' := by
  have hp2 := bpLe hQ hA hd
  rw [hp] at hp2
  refine paid_ok (.int .i64 1) (.string ⟨(strL 1 80).toArray⟩) (.string ⟨(strL 2 16720).toArray⟩) (.string ⟨(strL 2 16976).toArray⟩) (.string ⟨(strL 1 81).toArray⟩) (.bool true) (.string ⟨(strL 1 88).toArray⟩) (.string ⟨(strL 3 5395781).toArray⟩) (.string ⟨(strL 0 0).toArray⟩) (.int .i64 A) (.int .i64 0) (.int .i64 0) (.int .i64 2) (.bool true) (.bool false) (.bool false) (.int .i64 z) (.int .i64 2) (.int .i64 p) rfl Q d M v (fun m => A * (m + d) / Q - p) (by omega) (by omega) (by omega) (by omega) (fun m h1 h2 => ?_) down up w
  have h3 := bpLe hQ hA (m := m + d) (by omega)
  have h4 := bpMono hQ hA (show d ≤ m + d by omega)
  rw [hp] at h4
  refine ⟨by show 0 ≤ A * (m + d) / Q - p ∧ A * (m + d) / Q - p ≤ _; omega, fun w => ?_⟩
  exact owes_ok (.int .i64 1) (.string ⟨(strL 1 80).toArray⟩) (.string ⟨(strL 2 16720).toArray⟩) (.string ⟨(strL 2 16976).toArray⟩) (.string ⟨(strL 1 81).toArray⟩) (.bool true) (.string ⟨(strL 1 88).toArray⟩) (.string ⟨(strL 3 5395781).toArray⟩) (.string ⟨(strL 0 0).toArray⟩) (.int .i64 0) (.int .i64 0) (.int .i64 2) (.bool true) (.bool false) (.bool false) (.int .i64 z) (.int .i64 2) rfl Q A d p m (A * (m + d) / Q) (by omega) (by omega) (by omega) (by omega) (by omega) rfl w
structure BpF (Q A t c V s W p sV sT st Z Ya Yb Yc Yd : Int) : Prop where
  hQ : 1 ≤ Q ∧ Q ≤ 500
  hA : 0 ≤ A ∧ A ≤ 500
  ht : 0 ≤ t ∧ t ≤ V
  hc : 0 ≤ c ∧ c ≤ 500
  hV : 0 ≤ V ∧ V ≤ Q
  hW : 0 ≤ W ∧ W ≤ Q
  hst : 0 ≤ st ∧ st ≤ 500
  hZ : 0 ≤ Z ∧ Z ≤ Q
  hp : A * W = p
  h5 : A * W / Q = s
  h8 : A * V / Q = sV
  h9 : A * t / Q = sT
  dV : ∀ m : Int, 1 ≤ m → m ≤ V → A * m / Q ≤ c
  uV : ∀ m : Int, V < m → m ≤ Q → c < A * m / Q
  dZ : ∀ m : Int, 1 ≤ m → m ≤ Z → A * m / Q ≤ 0
  uZ : ∀ m : Int, Z < m → m ≤ Q → 0 < A * m / Q
  bYa : 0 ≤ Ya ∧ Ya ≤ Q - V
  dYa : ∀ m : Int, 1 ≤ m → m ≤ Ya → A * (m + V) / Q - sV ≤ 0
  uYa : ∀ m : Int, Ya < m → m ≤ Q - V → 0 < A * (m + V) / Q - sV
  bYb : 0 ≤ Yb ∧ Yb ≤ Q - t
  dYb : ∀ m : Int, 1 ≤ m → m ≤ Yb → A * (m + t) / Q - sT ≤ 0
  uYb : ∀ m : Int, Yb < m → m ≤ Q - t → 0 < A * (m + t) / Q - sT
  bYc : 0 ≤ Yc ∧ Yc ≤ Q - V
  dYc : ∀ m : Int, 1 ≤ m → m ≤ Yc → A * (m + V) / Q - sV ≤ c
  uYc : ∀ m : Int, Yc < m → m ≤ Q - V → c < A * (m + V) / Q - sV
  bYd : 0 ≤ Yd ∧ Yd ≤ Q - t
  dYd : ∀ m : Int, 1 ≤ m → m ≤ Yd → A * (m + t) / Q - sT ≤ c
  uYd : ∀ m : Int, Yd < m → m ≤ Q - t → c < A * (m + t) / Q - sT
section
variable {Q A t c V s W p sV sT st Z Ya Yb Yc Yd : Int}
theorem BpF.bounds (F : BpF Q A t c V s W p sV sT st Z Ya Yb Yc Yd) : (0 ≤ s ∧ s ≤ A) ∧ (0 ≤ sV ∧ sV ≤ A) ∧ (0 ≤ sT ∧ sT ≤ sV) ∧ sV ≤ c ∧ (0 ≤ p ∧ p ≤ 250000) := by
  have a5 := bpLe F.hQ F.hA F.hW
  have a8 := bpLe F.hQ F.hA F.hV
  have a9 := bpLe F.hQ F.hA (m := t) (by have := F.ht; have := F.hV; omega)
  have a10 := bpMono F.hQ F.hA F.ht.2
  rw [F.h5] at a5
  rw [F.h8] at a8
  rw [F.h9] at a9
  rw [F.h8, F.h9] at a10
  have hc : sV ≤ c := by
    by_cases h : 1 ≤ V
    · have := F.dV V h (Int.le_refl _)
      rwa [F.h8] at this
    · have h0 : V = 0 := by have := F.hV; omega
      have h8 := F.h8
      have := F.hc
      rw [h0, Int.mul_zero, Int.zero_ediv] at h8
      omega
  have hp1 : 0 ≤ p := by rw [← F.hp]; exact Int.mul_nonneg F.hA.1 F.hW.1
  have hp2 : p ≤ 500 * 500 := by rw [← F.hp]; exact Int.mul_le_mul F.hA.2 (by have := F.hW; have := F.hQ; omega) F.hW.1 (by omega)
  omega
set_option maxRecDepth 100000 in
set_option maxHeartbeats 2000000 in
theorem bpT_ok {G : Gh} (hm : ¬ G.mono) (F : BpF Q A t c V s W p sV sT st Z Ya Yb Yc Yd) (s0 : G.σ 0 = Q) (s1 : G.σ 1 = A) (s2 : G.σ 2 = t) (s3 : G.σ 3 = c) (s4 : G.σ 4 = V) (s8 : G.σ 8 = sV) (s9 : G.σ 9 = sT) (s11 : G.σ 11 = Z) (s12 : G.σ 12 = Ya) (s13 : G.σ 13 = Yb) (s14 : G.σ 14 = Yc) (s15 : G.σ 15 = Yd) : HooksOk Tryz.prog G (hkT bpT) := hkT_ok progOk bpT (fun t' ht' => by
  simp only [bpT, List.mem_cons, List.not_mem_nil, or_false] at ht'
  obtain ⟨_, hsV, hsT, hsc, _⟩ := F.bounds
  obtain ⟨hQ, hA, ht, hc, hV, hW, hst, hZ, hp, h5, h8, h9, dV, uV, dZ, uZ, bYa, dYa, uYa, bYb, dYb, uYb, bYc, dYc, uYc, bYd, dYd, uYd⟩ := F
  have z0 : A * 0 / Q = 0 := by simp
  have zZ : A * Z / Q = 0 := by
    have h1 := bpLe hQ hA hZ
    by_cases h : 1 ≤ Z
    · have := dZ Z h (Int.le_refl _)
      omega
    · rw [show Z = 0 from by omega]; exact z0
  have i0 : ∀ φ, conc G φ (.int .i64 0) = some (.int .i64 0) := fun φ => by rw [conc]
  have iv : ∀ (k : Nat) (x : Int), G.σ k = x → ∀ φ, conc G φ (.sint .i64 0 [(k,1)]) = some (.int .i64 x) := fun k x hx φ => by simp [conc, den, hx]
  have ib : ∀ (j k : Nat) (x y a b : Int), G.σ j = x → G.σ k = y → ∀ φ, conc G φ (.sint .i64 0 [(j,a),(k,b)]) = some (.int .i64 (a * x + b * y)) := fun j k x y a b hx hy φ => by
    rw [conc]
    show some (Value.int .i64 (0 + (a * G.σ j + (b * G.σ k + 0)))) = _
    rw [hx, hy, show (0 : Int) + (a * x + (b * y + 0)) = a * x + b * y from by omega]
  have tu : ∀ (v : Gv.V) (x : Int), (∀ φ, conc G φ v = some (.int .i64 x)) → ∀ φ, conc G φ (.tuple [v, .int .i64 0]) = some (.tuple #[.int .i64 x, .int .i64 0]) := fun v x hx φ => by
    rw [conc, concL_cons.2 ⟨_, _, hx φ, concL_cons.2 ⟨_, _, i0 φ, concL_nil, rfl⟩, rfl⟩]
  have md : ∀ (v r : Gv.V) (x y : Int), (∀ φ, conc G φ v = some (.int .i64 x)) → (∀ φ, conc G φ r = some (.int .i64 y)) → (0 ≤ x ∧ x ≤ Q) → A * x / Q = y → HTOk Tryz.prog G ⟨386, [.sint .i64 0 [(1,1)], v, .sint .i64 0 [(0,1)]], .tuple [r, .int .i64 0]⟩ := fun v r x y hx hr hxr hy =>
    HTOk.of Tryz.func386 rfl (fun φ => concL_cons.2 ⟨_, _, iv 1 A s1 φ, concL_cons.2 ⟨_, _, hx φ, concL_cons.2 ⟨_, _, iv 0 Q s0 φ, concL_nil, rfl⟩, rfl⟩, rfl⟩) (tu _ _ hr) (fun w => by
      have h := mmuldiv_ok A x Q (by omega) (by omega) (by omega) w
      have h2 := bpLe hQ hA hxr
      rwa [md_val hy (by omega)] at h)
  have mo : ∀ (v : Gv.V) (x : Int), (∀ φ, conc G φ v = some (.int .i64 x)) → (0 ≤ x ∧ x ≤ Q) → HTOk Tryz.prog G ⟨358, [moX, .sint .i64 0 [(0,1)], v], v⟩ := fun v x hx hr => HTOk.of Tryz.func358 rfl (fun φ => concL_cons.2 ⟨_, _, moX_conc G φ, concL_cons.2 ⟨_, _, iv 0 Q s0 φ, concL_cons.2 ⟨_, _, hx φ, concL_nil, rfl⟩, rfl⟩, rfl⟩) hx (fun w => most_ok (by omega) hr w)
  have mo0 : ∀ (v : Gv.V) (x : Int), (∀ φ, conc G φ v = some (.int .i64 x)) → (0 ≤ x ∧ x ≤ Q) → HTOk Tryz.prog G ⟨358, [moX, v, .int .i64 0], .int .i64 0⟩ := fun v x hx hr => HTOk.of Tryz.func358 rfl (fun φ => concL_cons.2 ⟨_, _, moX_conc G φ, concL_cons.2 ⟨_, _, hx φ, concL_cons.2 ⟨_, _, i0 φ, concL_nil, rfl⟩, rfl⟩, rfl⟩) i0 (fun w => most0_ok (by omega) w)
  have pa : ∀ (X v r : Gv.V) (z d p M y : Int), (∀ φ, conc G φ X = some (bpXv Q A z d p)) → (∀ φ, conc G φ v = some (.int .i64 M)) → (∀ φ, conc G φ r = some (.int .i64 y)) → (0 ≤ d ∧ d ≤ Q) → A * d / Q = p → (0 ≤ M ∧ M ≤ 500) → (0 ≤ y ∧ y ≤ Q - d) → (∀ m : Int, 1 ≤ m → m ≤ y → A * (m + d) / Q - p ≤ M) → (∀ m : Int, y < m → m ≤ Q - d → M < A * (m + d) / Q - p) → HTOk Tryz.prog G ⟨360, [X, v], r⟩ := fun X v r z d p M y hX hv hr hd hp hM hy dn up =>
    HTOk.of Tryz.func360 rfl (fun φ => concL_cons.2 ⟨_, _, hX φ, concL_cons.2 ⟨_, _, hv φ, concL_nil, rfl⟩, rfl⟩) hr (fun w => bpPaid hQ hA hd hp hM hy dn up w)
  rcases ht' with rfl | rfl | rfl | rfl | rfl | rfl | rfl | rfl | rfl | rfl | rfl | rfl | rfl | rfl | rfl | rfl | rfl | rfl | rfl | rfl | rfl | rfl | rfl | rfl
  · exact md _ _ Q A (iv 0 Q s0) (iv 1 A s1) (by omega) (Int.mul_ediv_cancel _ (by omega))
  · exact md _ _ V sV (iv 4 V s4) (iv 8 sV s8) hV h8
  · exact md _ _ t sT (iv 2 t s2) (iv 9 sT s9) (by omega) h9
  · exact md _ _ Z 0 (iv 11 Z s11) i0 hZ zZ
  · exact md _ _ 0 0 i0 i0 (by omega) z0
  · exact mo _ _ (iv 4 V s4) hV
  · exact mo _ _ (iv 2 t s2) (by omega)
  · exact mo _ _ (iv 11 Z s11) hZ
  · exact mo _ _ i0 (by omega)
  · exact mo0 _ _ (ib 0 4 Q V 1 (-1) s0 s4) (by omega)
  · exact mo0 _ _ (ib 0 2 Q t 1 (-1) s0 s2) (by omega)
  · exact mo0 _ _ (ib 0 11 Q Z 1 (-1) s0 s11) (by omega)
  · exact pa _ _ _ 1 0 0 c V (fun φ => bpX1_conc φ s0 s1) (iv 3 c s3) (iv 4 V s4) (by omega) z0 hc (by omega) (fun m h1 h2 => by have := dV m h1 h2; rw [Int.add_zero]; omega) (fun m h1 h2 => by have := uV m h1 (by omega); rw [Int.add_zero]; omega)
  · exact pa _ _ _ 1 0 0 0 Z (fun φ => bpX1_conc φ s0 s1) i0 (iv 11 Z s11) (by omega) z0 (by omega) (by omega) (fun m h1 h2 => by have := dZ m h1 h2; rw [Int.add_zero]; omega) (fun m h1 h2 => by have := uZ m h1 (by omega); rw [Int.add_zero]; omega)
  · exact pa _ _ _ 2 V sV (1 * c + -1 * sV) 0 (fun φ => bpX2_conc φ s0 s1 s4 s8) (ib 3 8 c sV 1 (-1) s3 s8) i0 hV h8 (by omega) (by omega) (fun m h1 h2 => by omega) (fun m h1 h2 => by have := uV (m + V) (by omega) (by omega); omega)
  · exact pa _ _ _ 2 V sV 0 Ya (fun φ => bpX2_conc φ s0 s1 s4 s8) i0 (iv 12 Ya s12) hV h8 (by omega) bYa dYa uYa
  · exact pa _ _ _ 2 V sV c Yc (fun φ => bpX2_conc φ s0 s1 s4 s8) (iv 3 c s3) (iv 14 Yc s14) hV h8 hc bYc dYc uYc
  · exact pa _ _ _ 2 t sT (1 * c + -1 * sT) (-1 * t + 1 * V) (fun φ => bpX3_conc φ s0 s1 s2 s9) (ib 3 9 c sT 1 (-1) s3 s9) (ib 2 4 t V (-1) 1 s2 s4) (by omega) h9 (by omega) (by omega) (fun m h1 h2 => by have := dV (m + t) (by omega) (by omega); omega) (fun m h1 h2 => by have := uV (m + t) (by omega) (by omega); omega)
  · exact pa _ _ _ 2 t sT 0 Yb (fun φ => bpX3_conc φ s0 s1 s2 s9) i0 (iv 13 Yb s13) (by omega) h9 (by omega) bYb dYb uYb
  · exact pa _ _ _ 2 t sT c Yd (fun φ => bpX3_conc φ s0 s1 s2 s9) (iv 3 c s3) (iv 15 Yd s15) (by omega) h9 hc bYd dYd uYd
  · exact pa _ _ _ 2 Z 0 0 0 (fun φ => bpX4_conc φ s0 s1 s11) i0 i0 hZ zZ (by omega) (by omega) (fun m h1 h2 => by omega) (fun m h1 h2 => by have := uZ (m + Z) (by omega) (by omega); omega)
  · exact aliveOk5 G
  · exact pa _ _ _ 2 V sV (-1 * sV + 1 * c) 0 (fun φ => bpX2_conc φ s0 s1 s4 s8) (ib 8 3 sV c (-1) 1 s8 s3) i0 hV h8 (by omega) (by omega) (fun m h1 h2 => by omega) (fun m h1 h2 => by have := uV (m + V) (by omega) (by omega); omega)
  · exact pa _ _ _ 2 t sT (-1 * sT + 1 * c) (-1 * t + 1 * V) (fun φ => bpX3_conc φ s0 s1 s2 s9) (ib 9 3 sT c (-1) 1 s9 s3) (ib 2 4 t V (-1) 1 s2 s4) (by omega) h9 (by omega) (by omega) (fun m h1 h2 => by have := dV (m + t) (by omega) (by omega); omega) (fun m h1 h2 => by have := uV (m + t) (by omega) (by omega); omega)) hm
theorem bpNlOk {G : Gh} (F : BpF Q A t c V s W p sV sT st Z Ya Yb Yc Yd) (s0 : G.σ 0 = Q) (s1 : G.σ 1 = A) (s5 : G.σ 5 = s) (s6 : G.σ 6 = W) (s7 : G.σ 7 = p) : nlOk G [⟨0, .i64, (0,[(1,1)]), (0,[(6,1)]), 7⟩, ⟨1, .i64, (0,[(7,1)]), (0,[(0,1)]), 5⟩] := by
  obtain ⟨b5, b8, b9, bc, bp⟩ := F.bounds
  have hA := F.hA
  refine ⟨.inl ⟨rfl, ?_⟩, .inr (.inl ⟨rfl, ?_, ?_⟩), trivial⟩
  · show IntKind.i64.wrap ((0 + (1 * G.σ 1 + 0)) * (0 + (1 * G.σ 6 + 0))) = G.σ 7
    rw [s1, s6, s7, show (0 + (1 * A + 0) : Int) = A from by omega, show (0 + (1 * W + 0) : Int) = W from by omega, F.hp, IntKind.wrap_i64]
    omega
  · show (0 + (1 * G.σ 0 + 0) : Int) ≠ 0
    have := F.hQ
    rw [s0]; omega
  · show IntKind.i64.wrap ((0 + (1 * G.σ 7 + 0)).tdiv (0 + (1 * G.σ 0 + 0))) = G.σ 5
    have h5 := F.h5
    rw [F.hp] at h5
    rw [s7, s0, s5, show (0 + (1 * p + 0) : Int) = p from by omega, show (0 + (1 * Q + 0) : Int) = Q from by omega, Int.tdiv_eq_ediv_of_nonneg bp.1, h5, IntKind.wrap_i64]
    omega
end
noncomputable def bpA : Nat → Option (Gv.Call → List V → H → RV) := hkT [⟨5, [], .bool true⟩]
set_option maxRecDepth 100000 in
theorem bpA_ok (e : List Value) (s : List Int) (he : e.all (·.oneCell') = true) : HooksOk Tryz.prog (mkGh e s he) bpA := hkT_ok progOk _ fun t ht => by
  simp at ht
  subst ht
  exact aliveOk5 _
theorem bp_l1 {G : Gh} {st : Nat} {Good μ} (h : LSem Tryz.prog (bpS1 st) G Good μ) : LkOk Tryz.prog G 16 Tryz.f3.ntmps (bpL1 st) (blocksC ((Tryz.f3.body).getD .skip)) := lk_one (by kernel_rfl) (loop_piece h)
theorem bp_l0 {G : Gh} {st : Nat} {Good μ} (h : LSem Tryz.prog (bpS0 st) G Good μ) : LkOk Tryz.prog G 16 Tryz.f3.ntmps (bpL0 st) (blocksC ((Tryz.f3.body).getD .skip)) := lk_one (by kernel_rfl) (loop_piece h)
end Go.Proofs.YtdfgedemolielaaGreat
