/- Worth and what Need's loop is: the program's. -/
import Derived.Test.YtmeifmkmlbbdgaaGreatDivNum
namespace Go.Proofs.YtmeifmkmlbbdgaaGreat
open Go Go.RowKit Gv
/-- What so much is worth. -/
def ndW (p c q : Int) : Int := q * p * (10000 - c) / 10000
theorem ndW_rng {p c q : Int} (hq : 0 ≤ q) (hp : 0 ≤ p) (hc : 0 ≤ c ∧ c ≤ 10000) (h : q * p ≤ 1152921504606846976) : 0 ≤ ndW p c q ∧ ndW p c q ≤ 1152921504606846976 := by
  unfold ndW
  have h0 : 0 ≤ q * p := Int.mul_nonneg hq hp
  have h1 : 0 ≤ q * p * (10000 - c) := Int.mul_nonneg h0 (by omega)
  have h2 : q * p * (10000 - c) ≤ q * p * 10000 := Int.mul_le_mul_of_nonneg_left (by omega) h0
  omega
def woBd : List (Int × Int) := [(0, 9223372036854775807), (0, 9223372036854775807), (0, 10000), (0, 1152921504606846976), (0, 1152921504606846976)]
def woA : List V := [.sint .i64 0 [(0,1)], .sint .i64 0 [(1,1)], .sint .i64 0 [(2,1)]]
def woM : List HT := [⟨452, [.sint .u64 0 [(0,1)], .sint .u64 0 [(1,1)]], .tuple [.int .u64 0, .sint .u64 0 [(3,1)]]⟩, ⟨384, [.sint .i64 0 [(3,1)], .sint .i64 10000 [(2,-1)], .int .i64 10000], .tuple [.sint .i64 0 [(4,1)], .int .i64 0]⟩]
theorem woRunM : ((callN (evE Tryz.prog (hkT woM) woBd [] []) 10 486 woA H0).isV (.tuple [.sint .i64 0 [(4,1)], .int .i64 0])) = true := by kernel_rfl
set_option maxRecDepth 100000 in
set_option maxHeartbeats 1000000 in
theorem worthM (q p c : Int) (hq : 0 ≤ q ∧ q ≤ 9223372036854775807) (hp : 0 ≤ p ∧ p ≤ 9223372036854775807) (hc : 0 ≤ c ∧ c ≤ 10000) (h : q * p ≤ 1152921504606846976) (w : World) :
    Calls Tryz.prog 486 #[.int .i64 q, .int .i64 p, .int .i64 c] w fun e w' => e = .returned (.tuple #[.int .i64 (ndW p c q), .int .i64 0]) ∧ Below w.heap.size w w' := by
  obtain ⟨x, hx⟩ : ∃ z : Int, z = q * p := ⟨_, rfl⟩
  have hx0 : 0 ≤ x := by rw [hx]; exact Int.mul_nonneg hq.1 hp.1
  rw [← hx] at h
  obtain ⟨y, hy⟩ : ∃ z : Int, z = ndW p c q := ⟨_, rfl⟩
  have ry : 0 ≤ y ∧ y ≤ 1152921504606846976 := by rw [hy]; exact ndW_rng hq.1 hp.1 hc (by rw [← hx]; exact h)
  have hy2 : x * (10000 - c) / 10000 = y := by rw [hy, hx]; rfl
  rw [← hy]
  obtain ⟨G, hG⟩ : ∃ G, G = mkGh [] [q, p, c, x, y] rfl := ⟨_, rfl⟩
  have s0 : G.σ 0 = q := by rw [hG]; rfl
  have s1 : G.σ 1 = p := by rw [hG]; rfl
  have s2 : G.σ 2 = c := by rw [hG]; rfl
  have s3 : G.σ 3 = x := by rw [hG]; rfl
  have s4 : G.σ 4 = y := by rw [hG]; rfl
  have hm : ¬ G.mono := by rw [hG]; exact fun h => h
  have F : Facts G woBd [] [] := ⟨by rw [hG]; exact ⟨hq, hp, hc, ⟨hx0, h⟩, ry, trivial⟩, trivial, trivial⟩
  have harg : concL G (fun _ => none) woA = some [.int .i64 q, .int .i64 p, .int .i64 c] := by simp [woA, concL, conc, den, s0, s1, s2]
  have hcut : ∀ φ, conc G φ (.sint .i64 10000 [(2,-1)]) = some (.int .i64 (10000 - c)) := fun φ => by
    rw [conc]
    show some (Value.int .i64 (10000 + (-1 * G.σ 2 + 0))) = _
    rw [s2, show (10000 : Int) + (-1 * c + 0) = 10000 - c from by omega]
  have i3 : ∀ φ, conc G φ (.sint .i64 0 [(3,1)]) = some (.int .i64 x) := fun φ => by simp [conc, den, s3]
  have i4 : ∀ φ, conc G φ (.tuple [.sint .i64 0 [(4,1)], .int .i64 0]) = some (.tuple #[.int .i64 y, .int .i64 0]) := fun φ => by simp [concL, conc, den, s4]
  have l2 : ∀ φ, concL G φ [.sint .i64 0 [(3,1)], .sint .i64 10000 [(2,-1)], .int .i64 10000] = some [.int .i64 x, .int .i64 (10000 - c), .int .i64 10000] := fun φ =>
    concL_cons.2 ⟨_, _, i3 φ, concL_cons.2 ⟨_, _, hcut φ, concL_cons.2 ⟨_, _, by rw [conc], concL_nil, rfl⟩, rfl⟩, rfl⟩
  have hh : HooksOk Tryz.prog G (hkT woM) := hkT_ok progOkB woM (fun t ht => by
    simp only [woM, List.mem_cons, List.not_mem_nil, or_false] at ht
    rcases ht with rfl | rfl
    · refine HTOk.of Tryz.func452 rfl (ul := [.int .u64 q, .int .u64 p]) (u := .tuple #[.int .u64 0, .int .u64 x]) (fun φ => by simp [concL, conc, den, s0, s1]) (fun φ => by simp [concL, conc, den, s3]) (fun w => ?_)
      obtain ⟨m, hm⟩ := Int.eq_ofNat_of_zero_le hq.1
      obtain ⟨n, hn⟩ := Int.eq_ofNat_of_zero_le hp.1
      have hmn : ((m * n : Nat) : Int) = x := by rw [hx, hm, hn, Int.natCast_mul]
      refine ((by rw [hm, hn]; exact Tryz.bits_Mul64 m n (by omega) (by omega) w : Calls Tryz.prog 452 #[.int .u64 q, .int .u64 p] w fun e w' => e = .returned (.tuple #[.int .u64 ((m * n / 18446744073709551616 : Nat) : Int), .int .u64 ((m * n % 18446744073709551616 : Nat) : Int)]) ∧ w' = w)).mono ?_
      rintro e w' ⟨rfl, rfl⟩
      have g1 : ((m * n / 18446744073709551616 : Nat) : Int) = 0 := by omega
      have g2 : ((m * n % 18446744073709551616 : Nat) : Int) = x := by omega
      exact ⟨by rw [g1, g2], Below.refl _ _⟩
    · refine HTOk.of Tryz.func384 rfl l2 i4 (fun w => ?_)
      have := mmuldiv_ok x (10000 - c) 10000 (by omega) (by omega) (by omega) w
      rwa [md_val hy2 ry.2] at this) hm
  exact run_val (G := G) progOkB F hh Tryz.func486 rfl harg woRunM i4 w

def ndBd0 : List (Int × Int) := [(0, 9223372036854775807), (2, 9223372036854775807), (0, 10000), (0, 1152921504606846976), (0, 1152921504606846977), (0, 1152921504606846976)]
def ndBd : List (Int × Int) := ndBd0 ++ [(0, 1152921504606846977), (0, 1152921504606846977), (0, 1152921504606846976), (0, 1152921504606846976)]
def ndMid : List (Nat × Int) := [(8,1),(6,1)]
def ndGe : Nat → List (Int × List (Nat × Int))
  | 0 => [(0,[(6,1),(7,-1)]), (0,[(6,1),(4,-1)]), (0,[(4,1),(6,-1)])]
  | 1 => [(-1,[(7,1),(6,-1)]), (0,[(9,1),(0,-1)])]
  | _ => [(-1,[(7,1),(6,-1)]), (-1,[(0,1),(9,-1)])]
def ndNl : List NL := [⟨1, .i64, (0,[(7,1),(6,-1)]), (2,[]), 8⟩]
def ndT (f i : Nat) : List HT := if i = 0 then [] else [⟨f, [.sint .i64 0 ndMid, .sint .i64 0 [(1,1)], .sint .i64 0 [(2,1)]], .tuple [.sint .i64 0 [(9,1)], .int .i64 0]⟩]
noncomputable def ndC (f i : Nat) : Env := evE Tryz.prog (hkT (ndT f i)) ndBd (ndGe i) ndNl
noncomputable def ndS (fn : Func) (f sl sh : Nat) (W : List Nat) (h0 : LF) : LSpec where
  K := 6
  id := 0
  body := bodyOf 0 fn
  W := W
  inv := [(sl, .sint .i64 0 [(6,1)]), (sh, .sint .i64 0 [(7,1)])]
  init := [(0,[]), h0]
  cases := [⟨ndC f 0, 10, false, []⟩, ⟨ndC f 1, 10, true, [(0,[(6,1)]), (0,ndMid)]⟩, ⟨ndC f 2, 10, true, [(1,ndMid), (0,[(7,1)])]⟩]
  fin := [(sl, .sint .i64 0 [(4,1)])]
  need := []
def ndGood (G : Gh) (H : Int) (σ : Nat → Int) : Prop := 0 ≤ σ 6 ∧ σ 6 ≤ G.σ 4 ∧ G.σ 4 ≤ σ 7 ∧ σ 7 ≤ H
set_option maxRecDepth 100000 in
set_option maxHeartbeats 1000000 in
theorem nd_sem {G : Gh} (hm : G.mono = False) (hbd : bdOk G.σ ndBd0 0) (fn : Func) (f sl sh : Nat) (W : List Nat) (h0 : LF) (H : Int) (hH : LF.den G.σ h0 = H) (hHM : H ≤ 1152921504606846977) (hHt : H ≤ G.σ 3 + 1)
    {fw : Func} {cw : Code} (hf : Tryz.prog.funcs[f]? = some fw) (hb : fw.body = some cw)
    (hW : ∀ m : Int, 0 ≤ m → m ≤ G.σ 3 → (0 ≤ ndW (G.σ 1) (G.σ 2) m ∧ ndW (G.σ 1) (G.σ 2) m ≤ 1152921504606846976) ∧ ∀ w : World, Calls Tryz.prog f #[.int .i64 m, .int .i64 (G.σ 1), .int .i64 (G.σ 2)] w fun e w' => e = .returned (.tuple #[.int .i64 (ndW (G.σ 1) (G.σ 2) m), .int .i64 0]) ∧ Below w.heap.size w w')
    (up : ∀ m : Int, G.σ 4 ≤ m → m ≤ G.σ 3 → G.σ 0 ≤ ndW (G.σ 1) (G.σ 2) m) (down : ∀ m : Int, 0 ≤ m → m < G.σ 4 → ndW (G.σ 1) (G.σ 2) m < G.σ 0) (h4 : 0 ≤ G.σ 4) (h4H : G.σ 4 ≤ H) :
    LSem Tryz.prog (ndS fn f sl sh W h0) G (ndGood G H) (fun σ => (σ 7 - σ 6).toNat) := by
  refine ⟨fun σ' hσ hi => ?_, fun σ' hσ hgood => ?_⟩
  · have e6 : σ' 6 = 0 := hi 0 (0, []) rfl
    have e7 : σ' 7 = H := (hi 1 h0 rfl).trans hH
    unfold ndGood
    rw [e6, e7]
    omega
  · obtain ⟨k1, k2, k3, k4⟩ := hgood
    obtain ⟨lo, hlo⟩ : ∃ z, z = σ' 6 := ⟨_, rfl⟩
    obtain ⟨hi, hhi⟩ : ∃ z, z = σ' 7 := ⟨_, rfl⟩
    rw [← hlo] at k1 k2
    rw [← hhi] at k3 k4
    obtain ⟨q, hq⟩ : ∃ z : Int, z = (hi - lo) / 2 := ⟨_, rfl⟩
    obtain ⟨V, hV⟩ : ∃ z, z = G.σ 4 := ⟨_, rfl⟩
    obtain ⟨n, hn⟩ : ∃ z : Int, z = if lo < hi then ndW (G.σ 1) (G.σ 2) (lo + q) else 0 := ⟨_, rfl⟩
    have rn : 0 ≤ n ∧ n ≤ 1152921504606846976 := by
      rw [hn]
      by_cases h : lo < hi
      · rw [if_pos h]; exact (hW (lo + q) (by omega) (by omega)).1
      · rw [if_neg h]; omega
    rw [← hV] at k2 k3 up down h4 h4H
    obtain ⟨σ2, hσ2⟩ : ∃ z, z = extσ σ' 8 [q, n] := ⟨_, rfl⟩
    have hlow : ∀ i, i < 8 → σ2 i = σ' i := fun i hi => by rw [hσ2]; exact extσ_lo hi
    have h6 : ∀ i, i < 6 → σ2 i = G.σ i := fun i hi => (hlow i (by omega)).trans (hσ i hi)
    have t6 : σ2 6 = lo := (hlow 6 (by decide)).trans hlo.symm
    have t7 : σ2 7 = hi := (hlow 7 (by decide)).trans hhi.symm
    have t8 : σ2 8 = q := by rw [hσ2]; rfl
    have t9 : σ2 9 = n := by rw [hσ2]; rfl
    have t0 : σ2 0 = G.σ 0 := h6 0 (by decide)
    have t4 : σ2 4 = V := (h6 4 (by decide)).trans hV.symm
    have hb2 : bdOk σ2 ndBd 0 := by
      refine bd_app (bd_congr (σ := G.σ) (fun i hi => h6 i (by simpa [ndBd0] using hi)) hbd) ⟨?_, ?_, ?_, ?_, trivial⟩
      · show 0 ≤ σ2 6 ∧ σ2 6 ≤ _
        rw [t6]; omega
      · show 0 ≤ σ2 7 ∧ σ2 7 ≤ _
        rw [t7]; omega
      · show 0 ≤ σ2 8 ∧ σ2 8 ≤ _
        rw [t8]; omega
      · show 0 ≤ σ2 9 ∧ σ2 9 ≤ _
        rw [t9]; exact rn
    have hfacts : ∀ i, geOk σ2 (ndGe i) → (lo < hi ∨ i = 0) → ∀ G2 : Gh, G2.σ = σ2 → (∀ i, i < 1000 → G2.ε i = G.ε i) → G2.mono = G.mono → EnvOk (ndC f i) Tryz.prog G2 ∧ FnOk (ndC f i) Tryz.prog G2 := by
      intro i hge hcase G2 h2 _ hmono
      have hm2 : ¬ G2.mono := by rw [hmono, hm]; exact id
      have hnl : nlOk G2 ndNl := by
        refine ⟨.inr (.inl ⟨rfl, by show (2 + 0 : Int) ≠ 0; omega, ?_⟩), trivial⟩
        show IntKind.i64.wrap (((0 + (1 * G2.σ 7 + (-1 * G2.σ 6 + 0)))).tdiv (2 + 0)) = G2.σ 8
        rw [h2, t6, t7, t8, Int.tdiv_eq_ediv_of_nonneg (by omega), IntKind.wrap_i64]
        omega
      have F : Facts G2 ndBd (ndGe i) ndNl := ⟨by rw [h2]; exact hb2, by rw [h2]; exact hge, hnl⟩
      refine ⟨evE_ok progOkB F.ends (geOk_at F.ge) (nlOk_at F.nl), evE_fn progOkB (hkT_ok progOkB (ndT f i) (fun t ht => ?_) hm2)⟩
      unfold ndT at ht
      by_cases h0 : i = 0
      · rw [if_pos h0] at ht; cases ht
      · rw [if_neg h0] at ht
        simp only [List.mem_cons, List.not_mem_nil, or_false] at ht
        subst ht
        have hlh : lo < hi := hcase.resolve_right h0
        rw [if_pos hlh] at hn
        have im : ∀ φ, conc G2 φ (.sint .i64 0 ndMid) = some (.int .i64 (lo + q)) := fun φ => by
          rw [conc]
          show some (Value.int .i64 (0 + (1 * G2.σ 8 + (1 * G2.σ 6 + 0)))) = _
          rw [h2, t6, t8, show (0 : Int) + (1 * q + (1 * lo + 0)) = lo + q from by omega]
        have i1 : ∀ φ, conc G2 φ (.sint .i64 0 [(1,1)]) = some (.int .i64 (G.σ 1)) := fun φ => by simp [conc, den, h2, h6 1 (by decide)]
        have i2 : ∀ φ, conc G2 φ (.sint .i64 0 [(2,1)]) = some (.int .i64 (G.σ 2)) := fun φ => by simp [conc, den, h2, h6 2 (by decide)]
        refine HTOk.of hf hb (fun φ => concL_cons.2 ⟨_, _, im φ, concL_cons.2 ⟨_, _, i1 φ, concL_cons.2 ⟨_, _, i2 φ, concL_nil, rfl⟩, rfl⟩, rfl⟩) (u := .tuple #[.int .i64 n, .int .i64 0]) (fun φ => by simp [concL, conc, den, h2, t9]) (fun w => ?_)
        have := (hW (lo + q) (by omega) (by omega)).2 w
        rwa [← hn] at this
    have mem : ∀ (i : Nat) (b : Bool) (x : List LF), (⟨ndC f i, 10, b, x⟩ : LCase) ∈ [(⟨ndC f 0, 10, false, []⟩ : LCase), ⟨ndC f 1, 10, true, [(0,[(6,1)]), (0,ndMid)]⟩, ⟨ndC f 2, 10, true, [(1,ndMid), (0,[(7,1)])]⟩] → (⟨ndC f i, 10, b, x⟩ : LCase) ∈ (ndS fn f sl sh W h0).cases := fun _ _ _ h => h
    have hlow2 : ∀ i, i < (ndS fn f sl sh W h0).K + (ndS fn f sl sh W h0).init.length → σ2 i = σ' i := hlow
    by_cases hlh : lo < hi
    · rw [if_pos hlh] at hn
      by_cases hc : G.σ 0 ≤ n
      · have hv : V ≤ lo + q := by
          by_cases h : V ≤ lo + q
          · exact h
          · have := down (lo + q) (by omega) (by omega)
            omega
        refine ⟨⟨ndC f 1, 10, true, [(0,[(6,1)]), (0,ndMid)]⟩, mem 1 _ _ (by simp), σ2, hlow2, hfacts 1 (by simp only [ndGe, geOk, and_true, den, t6, t7, t9, t0]; omega) (.inl hlh), fun _ σ3 h3 hs3 => ?_⟩
        have e6 : σ3 6 = 0 + (1 * σ2 6 + 0) := hs3 0 _ rfl
        have e7 : σ3 7 = 0 + (1 * σ2 8 + (1 * σ2 6 + 0)) := hs3 1 _ rfl
        rw [t6] at e6
        rw [t6, t8] at e7
        unfold ndGood
        rw [e6, e7, ← hlo, ← hhi, ← hV]
        omega
      · have hv : lo + q < V := by
          by_cases h : lo + q < V
          · exact h
          · have := up (lo + q) (by omega) (by omega)
            omega
        refine ⟨⟨ndC f 2, 10, true, [(1,ndMid), (0,[(7,1)])]⟩, mem 2 _ _ (by simp), σ2, hlow2, hfacts 2 (by simp only [ndGe, geOk, and_true, den, t6, t7, t9, t0]; omega) (.inl hlh), fun _ σ3 h3 hs3 => ?_⟩
        have e6 : σ3 6 = 1 + (1 * σ2 8 + (1 * σ2 6 + 0)) := hs3 0 _ rfl
        have e7 : σ3 7 = 0 + (1 * σ2 7 + 0) := hs3 1 _ rfl
        rw [t6, t8] at e6
        rw [t7] at e7
        unfold ndGood
        rw [e6, e7, ← hlo, ← hhi, ← hV]
        omega
    · exact ⟨⟨ndC f 0, 10, false, []⟩, mem 0 _ _ (by simp), σ2, hlow2, hfacts 0 (by simp only [ndGe, geOk, and_true, den, t6, t7, t4]; omega) (.inr rfl), fun h => by cases h⟩
end Go.Proofs.YtmeifmkmlbbdgaaGreat
