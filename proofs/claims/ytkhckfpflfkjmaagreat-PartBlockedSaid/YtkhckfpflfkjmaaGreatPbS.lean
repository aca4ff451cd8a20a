/- PartBlocked's two loops: what they reckon. -/
import Derived.Test.YtkhckfpflfkjmaaGreatLoopKit
namespace Go.Proofs.YtkhckfpflfkjmaaGreat
open Go Go.RowKit Gv
theorem pb_mono {A Q m n : Int} (hA : 0 ≤ A) (hQ : 1 ≤ Q) (h : m ≤ n) : A * m / Q ≤ A * n / Q := Int.ediv_le_ediv (by omega) (Int.mul_le_mul_of_nonneg_left h hA)
/-- The greatest number up to Q of which the share is at most M. -/
theorem pb_great (f : Int → Int) (mono : ∀ m n : Int, m ≤ n → f m ≤ f n) (M : Int) : ∀ Q : Nat, ∃ V : Int, 0 ≤ V ∧ V ≤ Q ∧ (∀ m : Int, 1 ≤ m → m ≤ V → f m ≤ M) ∧ (∀ m : Int, V < m → m ≤ Q → M < f m)
  | 0 => ⟨0, by omega, by omega, fun m _ _ => by omega, fun m _ _ => by omega⟩
  | Q + 1 => by
    obtain ⟨V, h1, h2, h3, h4⟩ := pb_great f mono M Q
    by_cases h : f ((Q : Int) + 1) ≤ M
    · exact ⟨(Q : Int) + 1, by omega, by omega, fun m _ hm => Int.le_trans (mono _ _ hm) h, fun m _ _ => by omega⟩
    · refine ⟨V, h1, by omega, h3, fun m hm hm2 => ?_⟩
      by_cases hq : m ≤ Q
      · exact h4 m hm hq
      · have : m = (Q : Int) + 1 := by omega
        rw [this]; omega
def pbBd0 : List (Int × Int) := [(1, 1000), (0, 1000), (0, 1000), (0, 1000), (0, 1000), (0, 1000), (0, 1000), (0, 1000), (0, 1000), (0, 1000)]
def pbBd : List (Int × Int) := pbBd0 ++ [(0, 2000), (0, 2000), (0, 2000000), (0, 2000000)]
def pbNl : List NL := [⟨0, .i64, (0,[(1,1)]), (0,[(10,1)]), 12⟩, ⟨1, .i64, (0,[(12,1)]), (0,[(0,1)]), 13⟩]
def pbFin (fin : Bool) : List (Int × List (Nat × Int)) := if fin then [(0,[(11,1),(8,-1)]), (0,[(8,1),(11,-1)])] else []
def pbGood (G : Gh) (V : Int) (st : Nat) (σ : Nat → Int) : Prop := 1 ≤ σ 10 ∧ σ 10 ≤ G.σ 0 + 1 ∧ σ 10 ≤ G.σ st + 1 ∧ (σ 10 - 1 ≤ V → σ 11 = σ 10 - 1) ∧ (V ≤ σ 10 - 1 → σ 11 = V)
def pbGe1 (st : Nat) (fin : Bool) : Nat → List (Int × List (Nat × Int))
  | 0 => (-1,[(10,1),(0,-1)]) :: pbFin fin
  | 1 => (0,[(0,1),(10,-1)]) :: (-1,[(10,1),(st,-1)]) :: pbFin fin
  | 2 => [(0,[(0,1),(10,-1)]), (0,[(st,1),(10,-1)]), (0,[(3,1),(13,-1)])]
  | _ => [(0,[(0,1),(10,-1)]), (0,[(st,1),(10,-1)]), (-1,[(13,1),(3,-1)])]
noncomputable def pbC1 (st : Nat) (fin : Bool) (i : Nat) : Env := evE Tryz.prog (fun _ => none) pbBd (pbGe1 st fin i) pbNl
noncomputable def pbS1 (st : Nat) (fin : Bool) : LSpec where
  K := 10
  id := 2
  body := bodyOf 2 Tryz.f5
  W := [26, 27, 135, 136, 137, 138, 139, 140, 141, 142, 143, 144, 145, 146, 147, 148, 149, 150, 151, 152]
  inv := [(27, .sint .i64 0 [(10,1)]), (26, .sint .i64 0 [(11,1)])]
  init := [(1,[]), (0,[])]
  cases := [⟨pbC1 st fin 0, 10, false, []⟩, ⟨pbC1 st fin 1, 10, false, []⟩, ⟨pbC1 st fin 2, 10, true, [(1,[(10,1)]), (0,[(10,1)])]⟩, ⟨pbC1 st fin 3, 10, true, [(1,[(10,1)]), (0,[(11,1)])]⟩]
  fin := if fin then [(26, .sint .i64 0 [(8,1)])] else []
  need := []
set_option maxRecDepth 100000 in
set_option maxHeartbeats 2000000 in
theorem pb_sem1 {G : Gh} (hbd : bdOk G.σ pbBd0 0) (st : Nat) (hst : st = 2 ∨ st = 9) (fin : Bool) (V : Int) (hV : 0 ≤ V ∧ V ≤ G.σ 0) (down : ∀ m : Int, 1 ≤ m → m ≤ V → G.σ 1 * m / G.σ 0 ≤ G.σ 3) (up : ∀ m : Int, V < m → m ≤ G.σ 0 → G.σ 3 < G.σ 1 * m / G.σ 0)
    (hfin : fin = true → (V ≤ G.σ st → G.σ 8 = V) ∧ (G.σ st ≤ V → G.σ 8 = G.σ st)) : LSem Tryz.prog (pbS1 st fin) G (pbGood G V st) (fun σ => (G.σ 0 + 1 - σ 10).toNat) := by
  have b0 : 1 ≤ G.σ 0 ∧ G.σ 0 ≤ 1000 := hbd.1
  have b1 : 0 ≤ G.σ 1 ∧ G.σ 1 ≤ 1000 := hbd.2.1
  have bst : 0 ≤ G.σ st ∧ G.σ st ≤ 1000 := by
    rcases hst with rfl | rfl
    · exact hbd.2.2.1
    · exact hbd.2.2.2.2.2.2.2.2.2.1
  have hst10 : st < 10 := by omega
  refine ⟨fun σ' hσ hi => ?_, fun σ' hσ hgood => ?_⟩
  · have e4 : σ' 10 = 1 := hi 0 (1, []) rfl
    have e5 : σ' 11 = 0 := hi 1 (0,[]) rfl
    unfold pbGood
    rw [e4, e5]
    omega
  · obtain ⟨k1, k2, k3, k4, k5⟩ := hgood
    obtain ⟨n, hn⟩ : ∃ z, z = σ' 10 := ⟨_, rfl⟩
    obtain ⟨want, hwant⟩ : ∃ z, z = σ' 11 := ⟨_, rfl⟩
    rw [← hn] at k1 k2 k3 k4 k5
    rw [← hwant] at k4 k5
    obtain ⟨Q, hQ⟩ : ∃ z, z = G.σ 0 := ⟨_, rfl⟩
    obtain ⟨A, hA⟩ : ∃ z, z = G.σ 1 := ⟨_, rfl⟩
    obtain ⟨t, ht⟩ : ∃ z, z = G.σ st := ⟨_, rfl⟩
    obtain ⟨c, hc⟩ : ∃ z, z = G.σ 3 := ⟨_, rfl⟩
    obtain ⟨z8, hz8⟩ : ∃ z, z = G.σ 8 := ⟨_, rfl⟩
    obtain ⟨p, hp⟩ : ∃ z : Int, z = A * n := ⟨_, rfl⟩
    obtain ⟨v, hv⟩ : ∃ z : Int, z = p / Q := ⟨_, rfl⟩
    simp only [← hQ, ← hA, ← ht, ← hc, ← hz8] at down up hfin b0 b1 bst hV k2 k3
    have rp : 0 ≤ p ∧ p ≤ 2000000 := by
      rw [hp]
      exact ⟨Int.mul_nonneg b1.1 (by omega), Int.le_trans (Int.mul_le_mul b1.2 (show n ≤ 2000 by omega) (by omega) (by omega)) (by decide)⟩
    have rv : 0 ≤ v ∧ v ≤ 2000000 := by
      rw [hv]
      exact ⟨Int.ediv_nonneg rp.1 (by omega), Int.le_trans (Int.ediv_le_self _ rp.1) rp.2⟩
    obtain ⟨σ2, hσ2⟩ : ∃ z, z = extσ σ' 12 [p, v] := ⟨_, rfl⟩
    have hlow : ∀ i, i < 12 → σ2 i = σ' i := fun i hi => by rw [hσ2]; exact extσ_lo hi
    have h10 : ∀ i, i < 10 → σ2 i = G.σ i := fun i hi => (hlow i (by omega)).trans (hσ i hi)
    have t0 : σ2 0 = Q := (h10 0 (by decide)).trans hQ.symm
    have t1 : σ2 1 = A := (h10 1 (by decide)).trans hA.symm
    have tst : σ2 st = t := (h10 st hst10).trans ht.symm
    have t3 : σ2 3 = c := (h10 3 (by decide)).trans hc.symm
    have t8 : σ2 8 = z8 := (h10 8 (by decide)).trans hz8.symm
    have t10 : σ2 10 = n := (hlow 10 (by decide)).trans hn.symm
    have t11 : σ2 11 = want := (hlow 11 (by decide)).trans hwant.symm
    have t12 : σ2 12 = p := by rw [hσ2]; rfl
    have t13 : σ2 13 = v := by rw [hσ2]; rfl
    have hb2 : bdOk σ2 pbBd 0 := by
      refine bd_app (bd_congr (σ := G.σ) (fun i hi => h10 i (by simpa [pbBd0] using hi)) hbd) ⟨?_, ?_, ?_, ?_, trivial⟩
      · show 0 ≤ σ2 10 ∧ σ2 10 ≤ _
        rw [t10]; omega
      · show 0 ≤ σ2 11 ∧ σ2 11 ≤ _
        rw [t11]; omega
      · show 0 ≤ σ2 12 ∧ σ2 12 ≤ _
        rw [t12]; exact rp
      · show 0 ≤ σ2 13 ∧ σ2 13 ≤ _
        rw [t13]; exact rv
    have hfacts : ∀ i, geOk σ2 (pbGe1 st fin i) → ∀ G2 : Gh, G2.σ = σ2 → (∀ i, i < 1000 → G2.ε i = G.ε i) → G2.mono = G.mono → EnvOk (pbC1 st fin i) Tryz.prog G2 ∧ FnOk (pbC1 st fin i) Tryz.prog G2 := by
      intro i hge G2 h2 _ _
      have hnl : nlOk G2 pbNl := by
        refine ⟨.inl ⟨rfl, ?_⟩, .inr (.inl ⟨rfl, ?_, ?_⟩), trivial⟩
        · show IntKind.i64.wrap ((0 + (1 * G2.σ 1 + 0)) * (0 + (1 * G2.σ 10 + 0))) = G2.σ 12
          rw [h2, t1, t10, t12, show (0 + (1 * A + 0) : Int) = A from by omega, show (0 + (1 * n + 0) : Int) = n from by omega, ← hp, IntKind.wrap_i64]
          omega
        · show (0 + (1 * G2.σ 0 + 0) : Int) ≠ 0
          rw [h2, t0]; omega
        · show IntKind.i64.wrap ((0 + (1 * G2.σ 12 + 0)).tdiv (0 + (1 * G2.σ 0 + 0))) = G2.σ 13
          rw [h2, t12, t0, t13, show (0 + (1 * p + 0) : Int) = p from by omega, show (0 + (1 * Q + 0) : Int) = Q from by omega, Int.tdiv_eq_ediv_of_nonneg rp.1, ← hv, IntKind.wrap_i64]
          omega
      have F : Facts G2 pbBd (pbGe1 st fin i) pbNl := ⟨by rw [h2]; exact hb2, by rw [h2]; exact hge, hnl⟩
      exact ⟨evE_ok progOkB F.ends (geOk_at F.ge) (nlOk_at F.nl), evE_fn progOkB (fun _ _ e => nomatch e)⟩
    have hlow2 : ∀ i, i < (pbS1 st fin).K + (pbS1 st fin).init.length → σ2 i = σ' i := hlow
    have hF : (Q < n ∨ t < n) → geOk σ2 (pbFin fin) := fun ho => by
      cases fin with
      | false => exact trivial
      | true =>
        obtain ⟨f1, f2⟩ := hfin rfl
        have hw : want = z8 := by omega
        exact ⟨(by show 0 ≤ 0 + (1 * σ2 11 + (-1 * σ2 8 + 0)); rw [t11, t8, hw]; omega), (by show 0 ≤ 0 + (1 * σ2 8 + (-1 * σ2 11 + 0)); rw [t11, t8, hw]; omega), trivial⟩
    by_cases c0 : Q < n
    · refine ⟨⟨pbC1 st fin 0, 10, false, []⟩, by simp [pbS1], σ2, hlow2, hfacts 0 ⟨?_, hF (.inl c0)⟩, fun h => by cases h⟩
      show 0 ≤ -1 + (1 * σ2 10 + (-1 * σ2 0 + 0))
      rw [t10, t0]; omega
    by_cases c1 : t < n
    · refine ⟨⟨pbC1 st fin 1, 10, false, []⟩, by simp [pbS1], σ2, hlow2, hfacts 1 ⟨?_, ?_, hF (.inr c1)⟩, fun h => by cases h⟩
      · show 0 ≤ 0 + (1 * σ2 0 + (-1 * σ2 10 + 0))
        rw [t10, t0]; omega
      · show 0 ≤ -1 + (1 * σ2 10 + (-1 * σ2 st + 0))
        rw [t10, tst]; omega
    have hAv : A * n / Q = v := by rw [hv, hp]
    by_cases c2 : v ≤ c
    · have hnV : n ≤ V := by
        by_cases h : n ≤ V
        · exact h
        · have := up n (by omega) (by omega)
          rw [hAv] at this
          omega
      refine ⟨⟨pbC1 st fin 2, 10, true, [(1,[(10,1)]), (0,[(10,1)])]⟩, by simp [pbS1], σ2, hlow2, hfacts 2 (by simp only [pbGe1, geOk, and_true, den, t10, t0, tst, t3, t13]; omega), fun _ σ3 _ hs3 => ?_⟩
      have e4 : σ3 10 = 1 + (1 * σ2 10 + 0) := hs3 0 _ rfl
      have e5 : σ3 11 = 0 + (1 * σ2 10 + 0) := hs3 1 _ rfl
      rw [t10] at e4 e5
      unfold pbGood
      rw [e4, e5, ← hn, ← hQ, ← ht]
      omega
    · have hnV : V < n := by
        by_cases h : V < n
        · exact h
        · have := down n (by omega) (by omega)
          rw [hAv] at this
          omega
      refine ⟨⟨pbC1 st fin 3, 10, true, [(1,[(10,1)]), (0,[(11,1)])]⟩, by simp [pbS1], σ2, hlow2, hfacts 3 (by simp only [pbGe1, geOk, and_true, den, t10, t0, tst, t3, t13]; omega), fun _ σ3 _ hs3 => ?_⟩
      have e4 : σ3 10 = 1 + (1 * σ2 10 + 0) := hs3 0 _ rfl
      have e5 : σ3 11 = 0 + (1 * σ2 11 + 0) := hs3 1 _ rfl
      rw [t10] at e4
      rw [t11] at e5
      unfold pbGood
      rw [e4, e5, ← hn, ← hQ, ← ht]
      omega
def pbGe2 (st : Nat) (fin : Bool) : Nat → List (Int × List (Nat × Int))
  | 0 => (-1,[(10,1),(0,-1)]) :: pbFin fin
  | 1 => (0,[(0,1),(10,-1)]) :: (-1,[(10,1),(st,-1)]) :: pbFin fin
  | 2 => [(0,[(0,1),(10,-1)]), (0,[(st,1),(10,-1)]), (0,[(13,-1)])]
  | _ => [(0,[(0,1),(10,-1)]), (0,[(st,1),(10,-1)]), (-1,[(13,1)])]
noncomputable def pbC2 (st : Nat) (fin : Bool) (i : Nat) : Env := evE Tryz.prog (fun _ => none) pbBd (pbGe2 st fin i) pbNl
noncomputable def pbS2 (st : Nat) (fin : Bool) : LSpec where
  K := 10
  id := 4
  body := bodyOf 4 Tryz.f5
  W := [26, 27, 28, 135, 136, 137, 138, 139, 140, 141, 142, 143, 144, 145, 146, 147, 148, 149, 150, 151, 152, 153, 154, 155, 156, 157, 158, 159, 160, 161, 162, 163, 164, 165, 166, 167, 168, 169, 170, 171, 172, 173, 174, 175]
  inv := [(28, .sint .i64 0 [(10,1)]), (26, .sint .i64 0 [(11,1)])]
  init := [(1,[]), (0,[])]
  cases := [⟨pbC2 st fin 0, 10, false, []⟩, ⟨pbC2 st fin 1, 10, false, []⟩, ⟨pbC2 st fin 2, 10, true, [(1,[(10,1)]), (0,[(10,1)])]⟩, ⟨pbC2 st fin 3, 10, true, [(1,[(10,1)]), (0,[(11,1)])]⟩]
  fin := if fin then [(26, .sint .i64 0 [(8,1)])] else []
  need := []
set_option maxRecDepth 100000 in
set_option maxHeartbeats 2000000 in
theorem pb_sem2 {G : Gh} (hbd : bdOk G.σ pbBd0 0) (st : Nat) (hst : st = 2 ∨ st = 9) (fin : Bool) (V : Int) (hV : 0 ≤ V ∧ V ≤ G.σ 0) (down : ∀ m : Int, 1 ≤ m → m ≤ V → G.σ 1 * m / G.σ 0 ≤ 0) (up : ∀ m : Int, V < m → m ≤ G.σ 0 → 0 < G.σ 1 * m / G.σ 0)
    (hfin : fin = true → (V ≤ G.σ st → G.σ 8 = V) ∧ (G.σ st ≤ V → G.σ 8 = G.σ st)) : LSem Tryz.prog (pbS2 st fin) G (pbGood G V st) (fun σ => (G.σ 0 + 1 - σ 10).toNat) := by
  have b0 : 1 ≤ G.σ 0 ∧ G.σ 0 ≤ 1000 := hbd.1
  have b1 : 0 ≤ G.σ 1 ∧ G.σ 1 ≤ 1000 := hbd.2.1
  have bst : 0 ≤ G.σ st ∧ G.σ st ≤ 1000 := by
    rcases hst with rfl | rfl
    · exact hbd.2.2.1
    · exact hbd.2.2.2.2.2.2.2.2.2.1
  have hst10 : st < 10 := by omega
  refine ⟨fun σ' hσ hi => ?_, fun σ' hσ hgood => ?_⟩
  · have e4 : σ' 10 = 1 := hi 0 (1, []) rfl
    have e5 : σ' 11 = 0 := hi 1 (0,[]) rfl
    unfold pbGood
    rw [e4, e5]
    omega
  · obtain ⟨k1, k2, k3, k4, k5⟩ := hgood
    obtain ⟨n, hn⟩ : ∃ z, z = σ' 10 := ⟨_, rfl⟩
    obtain ⟨want, hwant⟩ : ∃ z, z = σ' 11 := ⟨_, rfl⟩
    rw [← hn] at k1 k2 k3 k4 k5
    rw [← hwant] at k4 k5
    obtain ⟨Q, hQ⟩ : ∃ z, z = G.σ 0 := ⟨_, rfl⟩
    obtain ⟨A, hA⟩ : ∃ z, z = G.σ 1 := ⟨_, rfl⟩
    obtain ⟨t, ht⟩ : ∃ z, z = G.σ st := ⟨_, rfl⟩
    obtain ⟨c, hc⟩ : ∃ z, z = G.σ 3 := ⟨_, rfl⟩
    obtain ⟨z8, hz8⟩ : ∃ z, z = G.σ 8 := ⟨_, rfl⟩
    obtain ⟨p, hp⟩ : ∃ z : Int, z = A * n := ⟨_, rfl⟩
    obtain ⟨v, hv⟩ : ∃ z : Int, z = p / Q := ⟨_, rfl⟩
    simp only [← hQ, ← hA, ← ht, ← hz8] at down up hfin b0 b1 bst hV k2 k3
    have rp : 0 ≤ p ∧ p ≤ 2000000 := by
      rw [hp]
      exact ⟨Int.mul_nonneg b1.1 (by omega), Int.le_trans (Int.mul_le_mul b1.2 (show n ≤ 2000 by omega) (by omega) (by omega)) (by decide)⟩
    have rv : 0 ≤ v ∧ v ≤ 2000000 := by
      rw [hv]
      exact ⟨Int.ediv_nonneg rp.1 (by omega), Int.le_trans (Int.ediv_le_self _ rp.1) rp.2⟩
    obtain ⟨σ2, hσ2⟩ : ∃ z, z = extσ σ' 12 [p, v] := ⟨_, rfl⟩
    have hlow : ∀ i, i < 12 → σ2 i = σ' i := fun i hi => by rw [hσ2]; exact extσ_lo hi
    have h10 : ∀ i, i < 10 → σ2 i = G.σ i := fun i hi => (hlow i (by omega)).trans (hσ i hi)
    have t0 : σ2 0 = Q := (h10 0 (by decide)).trans hQ.symm
    have t1 : σ2 1 = A := (h10 1 (by decide)).trans hA.symm
    have tst : σ2 st = t := (h10 st hst10).trans ht.symm
    have t3 : σ2 3 = c := (h10 3 (by decide)).trans hc.symm
    have t8 : σ2 8 = z8 := (h10 8 (by decide)).trans hz8.symm
    have t10 : σ2 10 = n := (hlow 10 (by decide)).trans hn.symm
    have t11 : σ2 11 = want := (hlow 11 (by decide)).trans hwant.symm
    have t12 : σ2 12 = p := by rw [hσ2]; rfl
    have t13 : σ2 13 = v := by rw [hσ2]; rfl
    have hb2 : bdOk σ2 pbBd 0 := by
      refine bd_app (bd_congr (σ := G.σ) (fun i hi => h10 i (by simpa [pbBd0] using hi)) hbd) ⟨?_, ?_, ?_, ?_, trivial⟩
      · show 0 ≤ σ2 10 ∧ σ2 10 ≤ _
        rw [t10]; omega
      · show 0 ≤ σ2 11 ∧ σ2 11 ≤ _
        rw [t11]; omega
      · show 0 ≤ σ2 12 ∧ σ2 12 ≤ _
        rw [t12]; exact rp
      · show 0 ≤ σ2 13 ∧ σ2 13 ≤ _
        rw [t13]; exact rv
    have hfacts : ∀ i, geOk σ2 (pbGe2 st fin i) → ∀ G2 : Gh, G2.σ = σ2 → (∀ i, i < 1000 → G2.ε i = G.ε i) → G2.mono = G.mono → EnvOk (pbC2 st fin i) Tryz.prog G2 ∧ FnOk (pbC2 st fin i) Tryz.prog G2 := by
      intro i hge G2 h2 _ _
      have hnl : nlOk G2 pbNl := by
        refine ⟨.inl ⟨rfl, ?_⟩, .inr (.inl ⟨rfl, ?_, ?_⟩), trivial⟩
        · show IntKind.i64.wrap ((0 + (1 * G2.σ 1 + 0)) * (0 + (1 * G2.σ 10 + 0))) = G2.σ 12
          rw [h2, t1, t10, t12, show (0 + (1 * A + 0) : Int) = A from by omega, show (0 + (1 * n + 0) : Int) = n from by omega, ← hp, IntKind.wrap_i64]
          omega
        · show (0 + (1 * G2.σ 0 + 0) : Int) ≠ 0
          rw [h2, t0]; omega
        · show IntKind.i64.wrap ((0 + (1 * G2.σ 12 + 0)).tdiv (0 + (1 * G2.σ 0 + 0))) = G2.σ 13
          rw [h2, t12, t0, t13, show (0 + (1 * p + 0) : Int) = p from by omega, show (0 + (1 * Q + 0) : Int) = Q from by omega, Int.tdiv_eq_ediv_of_nonneg rp.1, ← hv, IntKind.wrap_i64]
          omega
      have F : Facts G2 pbBd (pbGe2 st fin i) pbNl := ⟨by rw [h2]; exact hb2, by rw [h2]; exact hge, hnl⟩
      exact ⟨evE_ok progOkB F.ends (geOk_at F.ge) (nlOk_at F.nl), evE_fn progOkB (fun _ _ e => nomatch e)⟩
    have hlow2 : ∀ i, i < (pbS2 st fin).K + (pbS2 st fin).init.length → σ2 i = σ' i := hlow
    have hF : (Q < n ∨ t < n) → geOk σ2 (pbFin fin) := fun ho => by
      cases fin with
      | false => exact trivial
      | true =>
        obtain ⟨f1, f2⟩ := hfin rfl
        have hw : want = z8 := by omega
        exact ⟨(by show 0 ≤ 0 + (1 * σ2 11 + (-1 * σ2 8 + 0)); rw [t11, t8, hw]; omega), (by show 0 ≤ 0 + (1 * σ2 8 + (-1 * σ2 11 + 0)); rw [t11, t8, hw]; omega), trivial⟩
    by_cases c0 : Q < n
    · refine ⟨⟨pbC2 st fin 0, 10, false, []⟩, by simp [pbS2], σ2, hlow2, hfacts 0 ⟨?_, hF (.inl c0)⟩, fun h => by cases h⟩
      show 0 ≤ -1 + (1 * σ2 10 + (-1 * σ2 0 + 0))
      rw [t10, t0]; omega
    by_cases c1 : t < n
    · refine ⟨⟨pbC2 st fin 1, 10, false, []⟩, by simp [pbS2], σ2, hlow2, hfacts 1 ⟨?_, ?_, hF (.inr c1)⟩, fun h => by cases h⟩
      · show 0 ≤ 0 + (1 * σ2 0 + (-1 * σ2 10 + 0))
        rw [t10, t0]; omega
      · show 0 ≤ -1 + (1 * σ2 10 + (-1 * σ2 st + 0))
        rw [t10, tst]; omega
    have hAv : A * n / Q = v := by rw [hv, hp]
    by_cases c2 : v ≤ 0
    · have hnV : n ≤ V := by
        by_cases h : n ≤ V
        · exact h
        · have := up n (by omega) (by omega)
          rw [hAv] at this
          omega
      refine ⟨⟨pbC2 st fin 2, 10, true, [(1,[(10,1)]), (0,[(10,1)])]⟩, by simp [pbS2], σ2, hlow2, hfacts 2 (by simp only [pbGe2, geOk, and_true, den, t10, t0, tst, t13]; omega), fun _ σ3 _ hs3 => ?_⟩
      have e4 : σ3 10 = 1 + (1 * σ2 10 + 0) := hs3 0 _ rfl
      have e5 : σ3 11 = 0 + (1 * σ2 10 + 0) := hs3 1 _ rfl
      rw [t10] at e4 e5
      unfold pbGood
      rw [e4, e5, ← hn, ← hQ, ← ht]
      omega
    · have hnV : V < n := by
        by_cases h : V < n
        · exact h
        · have := down n (by omega) (by omega)
          rw [hAv] at this
          omega
      refine ⟨⟨pbC2 st fin 3, 10, true, [(1,[(10,1)]), (0,[(11,1)])]⟩, by simp [pbS2], σ2, hlow2, hfacts 3 (by simp only [pbGe2, geOk, and_true, den, t10, t0, tst, t13]; omega), fun _ σ3 _ hs3 => ?_⟩
      have e4 : σ3 10 = 1 + (1 * σ2 10 + 0) := hs3 0 _ rfl
      have e5 : σ3 11 = 0 + (1 * σ2 11 + 0) := hs3 1 _ rfl
      rw [t10] at e4
      rw [t11] at e5
      unfold pbGood
      rw [e4, e5, ← hn, ← hQ, ← ht]
      omega
noncomputable def pbL1 (st : Nat) (fin : Bool) : Nat → Option (Fr → H → RX) := fun i => bif Nat.beq i 2 then some (loopG (pbS1 st fin) Tryz.f5.ntmps) else none
noncomputable def pbL2 (st : Nat) : Nat → Option (Fr → H → RX) := fun k => bif Nat.beq k 2 then some (loopG (pbS1 st false) Tryz.f5.ntmps) else bif Nat.beq k 4 then some (loopG (pbS2 st true) Tryz.f5.ntmps) else none
end Go.Proofs.YtkhckfpflfkjmaaGreat
