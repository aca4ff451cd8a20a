/- BatchParts' loop: what it reckons, with parts and without. -/
import Derived.Test.YtdfgedemolielaaGreatLoopKit
namespace Go.Proofs.YtdfgedemolielaaGreat
open Go Go.RowKit Gv
theorem bp_mono {A Q m n : Int} (hA : 0 ≤ A) (hQ : 1 ≤ Q) (h : m ≤ n) : A * m / Q ≤ A * n / Q := Int.ediv_le_ediv (by omega) (Int.mul_le_mul_of_nonneg_left h hA)
/-- The greatest number up to Q of which the share is at most M. -/
theorem bp_great (f : Int → Int) (mono : ∀ m n : Int, m ≤ n → f m ≤ f n) (M : Int) : ∀ Q : Nat, ∃ V : Int, 0 ≤ V ∧ V ≤ Q ∧ (∀ m : Int, 1 ≤ m → m ≤ V → f m ≤ M) ∧ (∀ m : Int, V < m → m ≤ Q → M < f m)
  | 0 => ⟨0, by omega, by omega, fun m _ _ => by omega, fun m _ _ => by omega⟩
  | Q + 1 => by
    obtain ⟨V, h1, h2, h3, h4⟩ := bp_great f mono M Q
    by_cases h : f ((Q : Int) + 1) ≤ M
    · exact ⟨(Q : Int) + 1, by omega, by omega, fun m _ hm => Int.le_trans (mono _ _ hm) h, fun m _ _ => by omega⟩
    · refine ⟨V, h1, by omega, h3, fun m hm hm2 => ?_⟩
      by_cases hq : m ≤ Q
      · exact h4 m hm hq
      · have : m = (Q : Int) + 1 := by omega
        rw [this]; omega
def bpBd0 : List (Int × Int) := [(1, 500), (0, 500), (0, 500), (0, 500), (0, 500), (0, 500), (0, 500), (0, 250000), (0, 500), (0, 500), (0, 500), (0, 500), (0, 500), (0, 500), (0, 500), (0, 500)]
def bpBd : List (Int × Int) := bpBd0 ++ [(0, 2000), (0, 2000), (0, 2000000), (0, 2000000)]
def bpNl : List NL := [⟨0, .i64, (0,[(1,1)]), (0,[(16,1)]), 18⟩, ⟨1, .i64, (0,[(18,1)]), (0,[(0,1)]), 19⟩]
def bpFin : List (Int × List (Nat × Int)) := [(0,[(17,1),(6,-1)]), (0,[(6,1),(17,-1)])]
def bpGe1 (st : Nat) : Nat → List (Int × List (Nat × Int))
  | 0 => (-1,[(16,1),(0,-1)]) :: bpFin
  | 1 => (0,[(0,1),(16,-1)]) :: (-1,[(16,1),(st,-1)]) :: bpFin
  | 2 => [(0,[(0,1),(16,-1)]), (0,[(st,1),(16,-1)]), (0,[(3,1),(19,-1)])]
  | _ => [(0,[(0,1),(16,-1)]), (0,[(st,1),(16,-1)]), (-1,[(19,1),(3,-1)])]
noncomputable def bpC1 (st : Nat) (i : Nat) : Env := evE Tryz.prog (fun _ => none) bpBd (bpGe1 st i) bpNl
noncomputable def bpS1 (st : Nat) : LSpec where
  K := 16
  id := 0
  body := bodyOf 0 Tryz.f3
  W := [16, 17, 100, 101, 102, 103, 104, 105, 106, 107, 108, 109, 110, 111, 112, 113, 114, 115, 116, 117, 118, 119, 120, 121, 122, 123, 124, 125]
  inv := [(17, .sint .i64 0 [(16,1)]), (16, .sint .i64 0 [(17,1)])]
  init := [(1,[]), (0,[])]
  cases := [⟨bpC1 st 0, 10, false, []⟩, ⟨bpC1 st 1, 10, false, []⟩, ⟨bpC1 st 2, 10, true, [(1,[(16,1)]), (0,[(16,1)])]⟩, ⟨bpC1 st 3, 10, true, [(1,[(16,1)]), (0,[(17,1)])]⟩]
  fin := [(16, .sint .i64 0 [(6,1)])]
  need := []
def bpGood1 (G : Gh) (V : Int) (st : Nat) (σ : Nat → Int) : Prop := 1 ≤ σ 16 ∧ σ 16 ≤ G.σ 0 + 1 ∧ σ 16 ≤ G.σ st + 1 ∧ (σ 16 - 1 ≤ V → σ 17 = σ 16 - 1) ∧ (V ≤ σ 16 - 1 → σ 17 = V)
set_option maxRecDepth 100000 in
set_option maxHeartbeats 2000000 in
theorem bp_sem1 {G : Gh} (hbd : bdOk G.σ bpBd0 0) (st : Nat) (hst : st = 2 ∨ st = 10) (V : Int) (hV : 0 ≤ V ∧ V ≤ G.σ 0) (down : ∀ m : Int, 1 ≤ m → m ≤ V → G.σ 1 * m / G.σ 0 ≤ G.σ 3) (up : ∀ m : Int, V < m → m ≤ G.σ 0 → G.σ 3 < G.σ 1 * m / G.σ 0)
    (hfin : (V ≤ G.σ st → G.σ 6 = V) ∧ (G.σ st ≤ V → G.σ 6 = G.σ st)) : LSem Tryz.prog (bpS1 st) G (bpGood1 G V st) (fun σ => (G.σ 0 + 1 - σ 16).toNat) := by
  have b0 : 1 ≤ G.σ 0 ∧ G.σ 0 ≤ 500 := hbd.1
  have b1 : 0 ≤ G.σ 1 ∧ G.σ 1 ≤ 500 := hbd.2.1
  have bst : 0 ≤ G.σ st ∧ G.σ st ≤ 500 := by
    rcases hst with rfl | rfl
    · exact hbd.2.2.1
    · exact hbd.2.2.2.2.2.2.2.2.2.2.1
  have hst11 : st < 16 := by omega
  refine ⟨fun σ' hσ hi => ?_, fun σ' hσ hgood => ?_⟩
  · have e4 : σ' 16 = 1 := hi 0 (1, []) rfl
    have e5 : σ' 17 = 0 := hi 1 (0,[]) rfl
    unfold bpGood1
    rw [e4, e5]
    omega
  · obtain ⟨k1, k2, k3, k4, k5⟩ := hgood
    obtain ⟨n, hn⟩ : ∃ z, z = σ' 16 := ⟨_, rfl⟩
    obtain ⟨want, hwant⟩ : ∃ z, z = σ' 17 := ⟨_, rfl⟩
    rw [← hn] at k1 k2 k3 k4 k5
    rw [← hwant] at k4 k5
    obtain ⟨Q, hQ⟩ : ∃ z, z = G.σ 0 := ⟨_, rfl⟩
    obtain ⟨A, hA⟩ : ∃ z, z = G.σ 1 := ⟨_, rfl⟩
    obtain ⟨t, ht⟩ : ∃ z, z = G.σ st := ⟨_, rfl⟩
    obtain ⟨c, hc⟩ : ∃ z, z = G.σ 3 := ⟨_, rfl⟩
    obtain ⟨z6, hz6⟩ : ∃ z, z = G.σ 6 := ⟨_, rfl⟩
    obtain ⟨p, hp⟩ : ∃ z : Int, z = A * n := ⟨_, rfl⟩
    obtain ⟨v, hv⟩ : ∃ z : Int, z = p / Q := ⟨_, rfl⟩
    simp only [← hQ, ← hA, ← ht, ← hc, ← hz6] at down up hfin b0 b1 bst hV k2 k3 k4 k5
    have rp : 0 ≤ p ∧ p ≤ 2000000 := by
      rw [hp]
      exact ⟨Int.mul_nonneg b1.1 (by omega), Int.le_trans (Int.mul_le_mul b1.2 (show n ≤ 4000 by omega) (by omega) (by omega)) (by decide)⟩
    have rv : 0 ≤ v ∧ v ≤ 2000000 := by
      rw [hv]
      exact ⟨Int.ediv_nonneg rp.1 (by omega), Int.le_trans (Int.ediv_le_self _ rp.1) rp.2⟩
    obtain ⟨σ2, hσ2⟩ : ∃ z, z = extσ σ' 18 [p, v] := ⟨_, rfl⟩
    have hlow : ∀ i, i < 18 → σ2 i = σ' i := fun i hi => by rw [hσ2]; exact extσ_lo hi
    have h11 : ∀ i, i < 16 → σ2 i = G.σ i := fun i hi => (hlow i (by omega)).trans (hσ i hi)
    have t0 : σ2 0 = Q := (h11 0 (by decide)).trans hQ.symm
    have t1 : σ2 1 = A := (h11 1 (by decide)).trans hA.symm
    have tst : σ2 st = t := (h11 st hst11).trans ht.symm
    have t3 : σ2 3 = c := (h11 3 (by decide)).trans hc.symm
    have t6 : σ2 6 = z6 := (h11 6 (by decide)).trans hz6.symm
    have t11 : σ2 16 = n := (hlow 16 (by decide)).trans hn.symm
    have t12 : σ2 17 = want := (hlow 17 (by decide)).trans hwant.symm
    have t13 : σ2 18 = p := by rw [hσ2]; rfl
    have t14 : σ2 19 = v := by rw [hσ2]; rfl
    have hb2 : bdOk σ2 bpBd 0 := by
      refine bd_app (bd_congr (σ := G.σ) (fun i hi => h11 i (by simpa [bpBd0] using hi)) hbd) ⟨?_, ?_, ?_, ?_, trivial⟩
      · show 0 ≤ σ2 16 ∧ σ2 16 ≤ _
        rw [t11]; omega
      · show 0 ≤ σ2 17 ∧ σ2 17 ≤ _
        rw [t12]; omega
      · show 0 ≤ σ2 18 ∧ σ2 18 ≤ _
        rw [t13]; exact rp
      · show 0 ≤ σ2 19 ∧ σ2 19 ≤ _
        rw [t14]; exact rv
    have hfacts : ∀ i, geOk σ2 (bpGe1 st i) → ∀ G2 : Gh, G2.σ = σ2 → (∀ i, i < 1000 → G2.ε i = G.ε i) → G2.mono = G.mono → EnvOk (bpC1 st i) Tryz.prog G2 ∧ FnOk (bpC1 st i) Tryz.prog G2 := by
      intro i hge G2 h2 _ _
      have hnl : nlOk G2 bpNl := by
        refine ⟨.inl ⟨rfl, ?_⟩, .inr (.inl ⟨rfl, ?_, ?_⟩), trivial⟩
        · show IntKind.i64.wrap ((0 + (1 * G2.σ 1 + 0)) * (0 + (1 * G2.σ 16 + 0))) = G2.σ 18
          rw [h2, t1, t11, t13, show (0 + (1 * A + 0) : Int) = A from by omega, show (0 + (1 * n + 0) : Int) = n from by omega, ← hp, IntKind.wrap_i64]
          omega
        · show (0 + (1 * G2.σ 0 + 0) : Int) ≠ 0
          rw [h2, t0]; omega
        · show IntKind.i64.wrap ((0 + (1 * G2.σ 18 + 0)).tdiv (0 + (1 * G2.σ 0 + 0))) = G2.σ 19
          rw [h2, t13, t0, t14, show (0 + (1 * p + 0) : Int) = p from by omega, show (0 + (1 * Q + 0) : Int) = Q from by omega, Int.tdiv_eq_ediv_of_nonneg rp.1, ← hv, IntKind.wrap_i64]
          omega
      have F : Facts G2 bpBd (bpGe1 st i) bpNl := ⟨by rw [h2]; exact hb2, by rw [h2]; exact hge, hnl⟩
      exact ⟨evE_ok progOkB F.ends (geOk_at F.ge) (nlOk_at F.nl), evE_fn progOkB (fun _ _ e => nomatch e)⟩
    have hlow2 : ∀ i, i < (bpS1 st).K + (bpS1 st).init.length → σ2 i = σ' i := hlow
    have hF : (Q < n ∨ t < n) → geOk σ2 bpFin := fun ho => by
      have hw : want = z6 := by omega
      exact ⟨(by show 0 ≤ 0 + (1 * σ2 17 + (-1 * σ2 6 + 0)); rw [t12, t6, hw]; omega), (by show 0 ≤ 0 + (1 * σ2 6 + (-1 * σ2 17 + 0)); rw [t12, t6, hw]; omega), trivial⟩
    by_cases c0 : Q < n
    · refine ⟨⟨bpC1 st 0, 10, false, []⟩, by simp [bpS1], σ2, hlow2, hfacts 0 ⟨?_, hF (.inl c0)⟩, fun h => by cases h⟩
      show 0 ≤ -1 + (1 * σ2 16 + (-1 * σ2 0 + 0))
      rw [t11, t0]; omega
    by_cases c1 : t < n
    · refine ⟨⟨bpC1 st 1, 10, false, []⟩, by simp [bpS1], σ2, hlow2, hfacts 1 ⟨?_, ?_, hF (.inr c1)⟩, fun h => by cases h⟩
      · show 0 ≤ 0 + (1 * σ2 0 + (-1 * σ2 16 + 0))
        rw [t11, t0]; omega
      · show 0 ≤ -1 + (1 * σ2 16 + (-1 * σ2 st + 0))
        rw [t11, tst]; omega
    have hAv : A * n / Q = v := by rw [hv, hp]
    by_cases c2 : v ≤ c
    · have hnV : n ≤ V := by
        by_cases h : n ≤ V
        · exact h
        · have := up n (by omega) (by omega)
          rw [hAv] at this
          omega
      refine ⟨⟨bpC1 st 2, 10, true, [(1,[(16,1)]), (0,[(16,1)])]⟩, by simp [bpS1], σ2, hlow2, hfacts 2 (by simp only [bpGe1, geOk, and_true, den, t11, t0, tst, t3, t14]; omega), fun _ σ3 _ hs3 => ?_⟩
      have e4 : σ3 16 = 1 + (1 * σ2 16 + 0) := hs3 0 _ rfl
      have e5 : σ3 17 = 0 + (1 * σ2 16 + 0) := hs3 1 _ rfl
      rw [t11] at e4 e5
      unfold bpGood1
      rw [e4, e5, ← hn, ← hQ, ← ht]
      omega
    · have hnV : V < n := by
        by_cases h : V < n
        · exact h
        · have := down n (by omega) (by omega)
          rw [hAv] at this
          omega
      refine ⟨⟨bpC1 st 3, 10, true, [(1,[(16,1)]), (0,[(17,1)])]⟩, by simp [bpS1], σ2, hlow2, hfacts 3 (by simp only [bpGe1, geOk, and_true, den, t11, t0, tst, t3, t14]; omega), fun _ σ3 _ hs3 => ?_⟩
      have e4 : σ3 16 = 1 + (1 * σ2 16 + 0) := hs3 0 _ rfl
      have e5 : σ3 17 = 0 + (1 * σ2 17 + 0) := hs3 1 _ rfl
      rw [t11] at e4
      rw [t12] at e5
      unfold bpGood1
      rw [e4, e5, ← hn, ← hQ, ← ht]
      omega
def bpGe0 (st : Nat) : Nat → List (Int × List (Nat × Int))
  | 0 => (-1,[(16,1),(0,-1)]) :: bpFin
  | 1 => (0,[(0,1),(16,-1)]) :: (-1,[(16,1),(st,-1)]) :: bpFin
  | 2 => [(0,[(0,1),(16,-1)]), (0,[(st,1),(16,-1)]), (0,[(3,1),(19,-1)]), (0,[(16,1),(0,-1)])]
  | 3 => [(0,[(0,1),(16,-1)]), (0,[(st,1),(16,-1)]), (-1,[(19,1),(3,-1)])]
  | _ => [(0,[(0,1),(16,-1)]), (0,[(st,1),(16,-1)]), (0,[(3,1),(19,-1)]), (-1,[(0,1),(16,-1)])]
noncomputable def bpC0 (st : Nat) (i : Nat) : Env := evE Tryz.prog (fun _ => none) bpBd (bpGe0 st i) bpNl
noncomputable def bpS0 (st : Nat) : LSpec where
  K := 16
  id := 0
  body := bodyOf 0 Tryz.f3
  W := [16, 17, 100, 101, 102, 103, 104, 105, 106, 107, 108, 109, 110, 111, 112, 113, 114, 115, 116, 117, 118, 119, 120, 121, 122, 123, 124, 125]
  inv := [(17, .sint .i64 0 [(16,1)]), (16, .sint .i64 0 [(17,1)])]
  init := [(1,[]), (0,[])]
  cases := [⟨bpC0 st 0, 10, false, []⟩, ⟨bpC0 st 1, 10, false, []⟩, ⟨bpC0 st 2, 10, true, [(1,[(16,1)]), (0,[(16,1)])]⟩, ⟨bpC0 st 3, 10, true, [(1,[(16,1)]), (0,[(17,1)])]⟩, ⟨bpC0 st 4, 10, true, [(1,[(16,1)]), (0,[(17,1)])]⟩]
  fin := [(16, .sint .i64 0 [(6,1)])]
  need := []
def bpGood0 (G : Gh) (V : Int) (st : Nat) (σ : Nat → Int) : Prop := 1 ≤ σ 16 ∧ σ 16 ≤ G.σ 0 + 1 ∧ σ 16 ≤ G.σ st + 1 ∧ (σ 16 ≤ G.σ 0 → σ 17 = 0) ∧ (G.σ 0 < σ 16 → (V = G.σ 0 → σ 17 = G.σ 0) ∧ (V < G.σ 0 → σ 17 = 0))
set_option maxRecDepth 100000 in
set_option maxHeartbeats 2000000 in
theorem bp_sem0 {G : Gh} (hbd : bdOk G.σ bpBd0 0) (st : Nat) (hst : st = 2 ∨ st = 10) (V : Int) (hV : 0 ≤ V ∧ V ≤ G.σ 0) (down : ∀ m : Int, 1 ≤ m → m ≤ V → G.σ 1 * m / G.σ 0 ≤ G.σ 3) (up : ∀ m : Int, V < m → m ≤ G.σ 0 → G.σ 3 < G.σ 1 * m / G.σ 0)
    (hfin : (G.σ 0 ≤ G.σ st → V = G.σ 0 → G.σ 6 = G.σ 0) ∧ (G.σ st < G.σ 0 → G.σ 6 = 0) ∧ (V < G.σ 0 → G.σ 6 = 0)) : LSem Tryz.prog (bpS0 st) G (bpGood0 G V st) (fun σ => (G.σ 0 + 1 - σ 16).toNat) := by
  have b0 : 1 ≤ G.σ 0 ∧ G.σ 0 ≤ 500 := hbd.1
  have b1 : 0 ≤ G.σ 1 ∧ G.σ 1 ≤ 500 := hbd.2.1
  have bst : 0 ≤ G.σ st ∧ G.σ st ≤ 500 := by
    rcases hst with rfl | rfl
    · exact hbd.2.2.1
    · exact hbd.2.2.2.2.2.2.2.2.2.2.1
  have hst11 : st < 16 := by omega
  refine ⟨fun σ' hσ hi => ?_, fun σ' hσ hgood => ?_⟩
  · have e4 : σ' 16 = 1 := hi 0 (1, []) rfl
    have e5 : σ' 17 = 0 := hi 1 (0,[]) rfl
    unfold bpGood0
    rw [e4, e5]
    omega
  · obtain ⟨k1, k2, k3, k4, k5⟩ := hgood
    obtain ⟨n, hn⟩ : ∃ z, z = σ' 16 := ⟨_, rfl⟩
    obtain ⟨want, hwant⟩ : ∃ z, z = σ' 17 := ⟨_, rfl⟩
    rw [← hn] at k1 k2 k3 k4 k5
    rw [← hwant] at k4 k5
    obtain ⟨Q, hQ⟩ : ∃ z, z = G.σ 0 := ⟨_, rfl⟩
    obtain ⟨A, hA⟩ : ∃ z, z = G.σ 1 := ⟨_, rfl⟩
    obtain ⟨t, ht⟩ : ∃ z, z = G.σ st := ⟨_, rfl⟩
    obtain ⟨c, hc⟩ : ∃ z, z = G.σ 3 := ⟨_, rfl⟩
    obtain ⟨z6, hz6⟩ : ∃ z, z = G.σ 6 := ⟨_, rfl⟩
    obtain ⟨p, hp⟩ : ∃ z : Int, z = A * n := ⟨_, rfl⟩
    obtain ⟨v, hv⟩ : ∃ z : Int, z = p / Q := ⟨_, rfl⟩
    simp only [← hQ, ← hA, ← ht, ← hc, ← hz6] at down up hfin b0 b1 bst hV k2 k3 k4 k5
    have rp : 0 ≤ p ∧ p ≤ 2000000 := by
      rw [hp]
      exact ⟨Int.mul_nonneg b1.1 (by omega), Int.le_trans (Int.mul_le_mul b1.2 (show n ≤ 4000 by omega) (by omega) (by omega)) (by decide)⟩
    have rv : 0 ≤ v ∧ v ≤ 2000000 := by
      rw [hv]
      exact ⟨Int.ediv_nonneg rp.1 (by omega), Int.le_trans (Int.ediv_le_self _ rp.1) rp.2⟩
    obtain ⟨σ2, hσ2⟩ : ∃ z, z = extσ σ' 18 [p, v] := ⟨_, rfl⟩
    have hlow : ∀ i, i < 18 → σ2 i = σ' i := fun i hi => by rw [hσ2]; exact extσ_lo hi
    have h11 : ∀ i, i < 16 → σ2 i = G.σ i := fun i hi => (hlow i (by omega)).trans (hσ i hi)
    have t0 : σ2 0 = Q := (h11 0 (by decide)).trans hQ.symm
    have t1 : σ2 1 = A := (h11 1 (by decide)).trans hA.symm
    have tst : σ2 st = t := (h11 st hst11).trans ht.symm
    have t3 : σ2 3 = c := (h11 3 (by decide)).trans hc.symm
    have t6 : σ2 6 = z6 := (h11 6 (by decide)).trans hz6.symm
    have t11 : σ2 16 = n := (hlow 16 (by decide)).trans hn.symm
    have t12 : σ2 17 = want := (hlow 17 (by decide)).trans hwant.symm
    have t13 : σ2 18 = p := by rw [hσ2]; rfl
    have t14 : σ2 19 = v := by rw [hσ2]; rfl
    have hb2 : bdOk σ2 bpBd 0 := by
      refine bd_app (bd_congr (σ := G.σ) (fun i hi => h11 i (by simpa [bpBd0] using hi)) hbd) ⟨?_, ?_, ?_, ?_, trivial⟩
      · show 0 ≤ σ2 16 ∧ σ2 16 ≤ _
        rw [t11]; omega
      · show 0 ≤ σ2 17 ∧ σ2 17 ≤ _
        rw [t12]; omega
      · show 0 ≤ σ2 18 ∧ σ2 18 ≤ _
        rw [t13]; exact rp
      · show 0 ≤ σ2 19 ∧ σ2 19 ≤ _
        rw [t14]; exact rv
    have hfacts : ∀ i, geOk σ2 (bpGe0 st i) → ∀ G2 : Gh, G2.σ = σ2 → (∀ i, i < 1000 → G2.ε i = G.ε i) → G2.mono = G.mono → EnvOk (bpC0 st i) Tryz.prog G2 ∧ FnOk (bpC0 st i) Tryz.prog G2 := by
      intro i hge G2 h2 _ _
      have hnl : nlOk G2 bpNl := by
        refine ⟨.inl ⟨rfl, ?_⟩, .inr (.inl ⟨rfl, ?_, ?_⟩), trivial⟩
        · show IntKind.i64.wrap ((0 + (1 * G2.σ 1 + 0)) * (0 + (1 * G2.σ 16 + 0))) = G2.σ 18
          rw [h2, t1, t11, t13, show (0 + (1 * A + 0) : Int) = A from by omega, show (0 + (1 * n + 0) : Int) = n from by omega, ← hp, IntKind.wrap_i64]
          omega
        · show (0 + (1 * G2.σ 0 + 0) : Int) ≠ 0
          rw [h2, t0]; omega
        · show IntKind.i64.wrap ((0 + (1 * G2.σ 18 + 0)).tdiv (0 + (1 * G2.σ 0 + 0))) = G2.σ 19
          rw [h2, t13, t0, t14, show (0 + (1 * p + 0) : Int) = p from by omega, show (0 + (1 * Q + 0) : Int) = Q from by omega, Int.tdiv_eq_ediv_of_nonneg rp.1, ← hv, IntKind.wrap_i64]
          omega
      have F : Facts G2 bpBd (bpGe0 st i) bpNl := ⟨by rw [h2]; exact hb2, by rw [h2]; exact hge, hnl⟩
      exact ⟨evE_ok progOkB F.ends (geOk_at F.ge) (nlOk_at F.nl), evE_fn progOkB (fun _ _ e => nomatch e)⟩
    have hlow2 : ∀ i, i < (bpS0 st).K + (bpS0 st).init.length → σ2 i = σ' i := hlow
    have hF : (Q < n ∨ t < n) → geOk σ2 bpFin := fun ho => by
      have hw : want = z6 := by omega
      exact ⟨(by show 0 ≤ 0 + (1 * σ2 17 + (-1 * σ2 6 + 0)); rw [t12, t6, hw]; omega), (by show 0 ≤ 0 + (1 * σ2 6 + (-1 * σ2 17 + 0)); rw [t12, t6, hw]; omega), trivial⟩
    by_cases c0 : Q < n
    · refine ⟨⟨bpC0 st 0, 10, false, []⟩, by simp [bpS0], σ2, hlow2, hfacts 0 ⟨?_, hF (.inl c0)⟩, fun h => by cases h⟩
      show 0 ≤ -1 + (1 * σ2 16 + (-1 * σ2 0 + 0))
      rw [t11, t0]; omega
    by_cases c1 : t < n
    · refine ⟨⟨bpC0 st 1, 10, false, []⟩, by simp [bpS0], σ2, hlow2, hfacts 1 ⟨?_, ?_, hF (.inr c1)⟩, fun h => by cases h⟩
      · show 0 ≤ 0 + (1 * σ2 0 + (-1 * σ2 16 + 0))
        rw [t11, t0]; omega
      · show 0 ≤ -1 + (1 * σ2 16 + (-1 * σ2 st + 0))
        rw [t11, tst]; omega
    have hAv : A * n / Q = v := by rw [hv, hp]
    by_cases c2 : v ≤ c
    · have hnV : n ≤ V := by
        by_cases h : n ≤ V
        · exact h
        · have := up n (by omega) (by omega)
          rw [hAv] at this
          omega
      by_cases c3 : n = Q
      · have hnQ := c3
        refine ⟨⟨bpC0 st 2, 10, true, [(1,[(16,1)]), (0,[(16,1)])]⟩, by simp [bpS0], σ2, hlow2, hfacts 2 (by simp only [bpGe0, geOk, and_true, den, t11, t0, tst, t3, t14]; omega), fun _ σ3 _ hs3 => ?_⟩
        have e4 : σ3 16 = 1 + (1 * σ2 16 + 0) := hs3 0 _ rfl
        have e5 : σ3 17 = 0 + (1 * σ2 16 + 0) := hs3 1 _ rfl
        rw [t11] at e4 e5
        unfold bpGood0
        rw [e4, e5, ← hn, ← hQ, ← ht]
        omega
      · have hnQ := c3
        refine ⟨⟨bpC0 st 4, 10, true, [(1,[(16,1)]), (0,[(17,1)])]⟩, by simp [bpS0], σ2, hlow2, hfacts 4 (by simp only [bpGe0, geOk, and_true, den, t11, t0, tst, t3, t14]; omega), fun _ σ3 _ hs3 => ?_⟩
        have e4 : σ3 16 = 1 + (1 * σ2 16 + 0) := hs3 0 _ rfl
        have e5 : σ3 17 = 0 + (1 * σ2 17 + 0) := hs3 1 _ rfl
        rw [t11] at e4
        rw [t12] at e5
        unfold bpGood0
        rw [e4, e5, ← hn, ← hQ, ← ht]
        omega
    · have hnV : V < n := by
        by_cases h : V < n
        · exact h
        · have := down n (by omega) (by omega)
          rw [hAv] at this
          omega
      refine ⟨⟨bpC0 st 3, 10, true, [(1,[(16,1)]), (0,[(17,1)])]⟩, by simp [bpS0], σ2, hlow2, hfacts 3 (by simp only [bpGe0, geOk, and_true, den, t11, t0, tst, t3, t14]; omega), fun _ σ3 _ hs3 => ?_⟩
      have e4 : σ3 16 = 1 + (1 * σ2 16 + 0) := hs3 0 _ rfl
      have e5 : σ3 17 = 0 + (1 * σ2 17 + 0) := hs3 1 _ rfl
      rw [t11] at e4
      rw [t12] at e5
      unfold bpGood0
      rw [e4, e5, ← hn, ← hQ, ← ht]
      omega
noncomputable def bpL1 (st : Nat) : Nat → Option (Fr → H → RX) := fun i => bif Nat.beq i 0 then some (loopG (bpS1 st) Tryz.f3.ntmps) else none
noncomputable def bpL0 (st : Nat) : Nat → Option (Fr → H → RX) := fun i => bif Nat.beq i 0 then some (loopG (bpS0 st) Tryz.f3.ntmps) else none
end Go.Proofs.YtdfgedemolielaaGreat
