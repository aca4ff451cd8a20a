/- math/bits.Div64: a contract, by loops that are told by what holds at their heads. -/
import Derived.Test.YtdfgedemolielaaGreatDivMath
import Derived.Test.YtdfgedemolielaaGreatLoopKit
import Derived.Test.YtdfgedemolielaaGreatLay
namespace Go.Proofs.YtdfgedemolielaaGreat
open Go Go.RowKit Gv

def dvBd : List (Int × Int) := [(1, 18446744073709551615), (0, 18446744073709551615), (1, 18446744073709551615), (0, 63), (9223372036854775808, 18446744073709551615), (2147483648, 4294967295), (0, 4294967295), (0, 18446744073709551615), (0, 18446744073709551615), (0, 18446744073709551615), (0, 18446744073709551615), (0, 4294967295), (0, 4294967295), (0, 4294967297), (0, 18446744073709551615), (0, 4294967295), (0, 18446744069414584320), (0, 18446744073709551615), (0, 18446744073709551615), (0, 4294967297), (0, 18446744073709551615), (0, 4294967295), (0, 18446744069414584320), (0, 18446744073709551615), (0, 18446744073709551615), (0, 18446744073709551615)]
def dvNl : List NL := [⟨13, .u64, (0,[(2,1)]), (0,[(3,1)]), 4⟩, ⟨14, .u64, (0,[(4,1)]), (32,[]), 5⟩, ⟨15, .u64, (0,[(4,1)]), (4294967295,[]), 6⟩, ⟨13, .u64, (0,[(0,1)]), (0,[(3,1)]), 7⟩, ⟨14, .u64, (0,[(1,1)]), (64,[(3,-1)]), 8⟩, ⟨16, .u64, (0,[(7,1)]), (0,[(8,1)]), 9⟩, ⟨13, .u64, (0,[(1,1)]), (0,[(3,1)]), 10⟩, ⟨14, .u64, (0,[(10,1)]), (32,[]), 11⟩, ⟨15, .u64, (0,[(10,1)]), (4294967295,[]), 12⟩, ⟨1, .u64, (0,[(9,1)]), (0,[(5,1)]), 13⟩, ⟨12, .u64, (0,[(13,1)]), (0,[(5,1)]), 14⟩, ⟨12, .u64, (0,[(9,1)]), (4294967296,[]), 16⟩, ⟨12, .u64, (0,[(15,1)]), (0,[(4,1)]), 17⟩, ⟨11, .u64, (0,[(11,1),(16,1)]), (0,[(17,1)]), 18⟩, ⟨1, .u64, (0,[(18,1)]), (0,[(5,1)]), 19⟩, ⟨12, .u64, (0,[(19,1)]), (0,[(5,1)]), 20⟩, ⟨12, .u64, (0,[(18,1)]), (4294967296,[]), 22⟩, ⟨12, .u64, (0,[(21,1)]), (0,[(4,1)]), 23⟩, ⟨11, .u64, (0,[(12,1),(22,1)]), (0,[(23,1)]), 24⟩, ⟨14, .u64, (0,[(24,1)]), (0,[(3,1)]), 25⟩]
def dvGe : List (Int × List (Nat × Int)) := [(-1,[(2,1),(0,-1)]), (0,[(9,1),(14,-1)]), (0,[(18,1),(20,-1)])]
def dvT : List HT := [⟨491, [.sint .u64 0 [(2,1)]], .sint .i64 0 [(3,1)]⟩]
noncomputable def dvE : Env := evE Tryz.prog (hkT dvT) dvBd dvGe dvNl
def dvLb : List (Int × Int) := dvBd ++ [(0, 4294967297), (0, 4294967295), (0, 18446744073709551615)]
def dvPr : NL := ⟨12, .u64, (0,[(26,1)]), (0,[(6,1)]), 28⟩
def dvG (t Q : Nat) : Nat → List (Int × List (Nat × Int))
  | 0 => [(4294967295,[(26,-1)]), (0,[(27,4294967296),(t,1),(28,-1)]), (0,[(26,1),(Q,-1)]), (0,[(Q,1),(26,-1)])]
  | 1 => [(-4294967296,[(26,1)]), (-4294967296,[(27,1),(5,1)]), (-1,[(26,1),(Q,-1)]), (1,[(Q,1),(26,-1)]), (-1,[(26,1)])]
  | 2 => [(4294967295,[(26,-1)]), (-1,[(28,1),(27,-4294967296),(t,-1)]), (-4294967296,[(27,1),(5,1)]), (-1,[(26,1),(Q,-1)]), (1,[(Q,1),(26,-1)]), (-1,[(26,1)])]
  | 3 => [(-4294967296,[(26,1)]), (4294967295,[(27,-1),(5,-1)]), (-1,[(26,1)])]
  | _ => [(4294967295,[(26,-1)]), (-1,[(28,1),(27,-4294967296),(t,-1)]), (4294967295,[(27,-1),(5,-1)]), (-1,[(26,1)])]
def dvN : Nat → List NL
  | 0 => [dvPr]
  | 1 => []
  | 2 => [dvPr]
  | 3 => []
  | _ => [dvPr]
noncomputable def dvC (t Q i : Nat) : Env := evE Tryz.prog (fun _ => none) dvLb (dvG t Q i) (dvN i)
def dvSub : List LF := [(-1,[(26,1)]), (0,[(5,1),(27,1)])]
noncomputable def dvS (idb qs : Nat) (W : List Nat) (u t Q qi pi : Nat) : LSpec where
  K := 26
  id := idb
  body := bodyOf idb Tryz.f447
  W := W
  inv := [(qs, .sint .u64 0 [(26,1)]), (16, .sint .u64 0 [(27,1)])]
  init := [(0,[(qi,1)]), (0,[(u,1),(pi,-1)])]
  cases := [⟨dvC t Q 0, 1, false, []⟩, ⟨dvC t Q 1, 1, false, []⟩, ⟨dvC t Q 2, 1, false, []⟩, ⟨dvC t Q 3, 1, true, dvSub⟩, ⟨dvC t Q 4, 1, true, dvSub⟩]
  fin := [(qs, .sint .u64 0 [(Q,1)])]
  need := []
noncomputable def dvA : LSpec := dvS 0 15 [15, 16, 67, 68, 69, 70, 71, 72, 73, 74, 75, 76, 77, 78, 79, 80, 81, 82, 83, 84, 85] 9 11 15 13 14
noncomputable def dvB : LSpec := dvS 2 18 [18, 16, 67, 68, 69, 70, 71, 72, 73, 74, 75, 76, 77, 78, 79, 80, 81, 82, 83, 84, 85, 102, 103, 104, 105, 106, 107, 108, 109, 110, 111, 112, 113, 114, 115, 116, 117, 118, 119, 120] 18 12 21 19 20
noncomputable def dvLk (i : Nat) : Option (Fr → H → RX) := bif Nat.beq i 0 then some (loopG dvA Tryz.f447.ntmps) else bif Nat.beq i 2 then some (loopG dvB Tryz.f447.ntmps) else none
theorem dvRun : ((runL dvE dvLk 10 Tryz.f447 [.sint .u64 0 [(0,1)], .sint .u64 0 [(1,1)], .sint .u64 0 [(2,1)]] H0).isV (.tuple [.sint .u64 0 [(21,1),(15,4294967296)], .sint .u64 0 [(25,1)]])) = true := by kernel_rfl

def dvGood (G : Gh) (u Q : Nat) (σ : Nat → Int) : Prop := G.σ Q ≤ σ 26 ∧ σ 26 ≤ 4294967297 ∧ 0 ≤ σ 27 ∧ σ 27 ≤ 4294967295 ∧ σ 27 = G.σ u - σ 26 * G.σ 5
set_option maxRecDepth 100000 in
set_option maxHeartbeats 1000000 in
theorem dv_sem {G : Gh} (hbd : bdOk G.σ dvBd 0) (idb qs : Nat) (W : List Nat) (u t Q qi pi : Nat) (ht : t < 26) (hQ : Q < 26)
    (rt : 0 ≤ G.σ t ∧ G.σ t ≤ 4294967295) (ry0 : 0 ≤ G.σ 6 ∧ G.σ 6 ≤ 4294967295) (ry1 : 2147483648 ≤ G.σ 5 ∧ G.σ 5 ≤ 4294967295) (rQ : 0 ≤ G.σ Q ∧ G.σ Q ≤ 4294967295)
    (l1 : G.σ Q * (G.σ 5 * 4294967296 + G.σ 6) ≤ G.σ u * 4294967296 + G.σ t) (l2 : G.σ u * 4294967296 + G.σ t < (G.σ Q + 1) * (G.σ 5 * 4294967296 + G.σ 6))
    (hq1 : G.σ Q ≤ G.σ qi) (hq2 : G.σ qi ≤ 4294967297) (hpi : G.σ pi = G.σ qi * G.σ 5) (hr : 0 ≤ G.σ u - G.σ pi ∧ G.σ u - G.σ pi ≤ 4294967295) :
    LSem Tryz.prog (dvS idb qs W u t Q qi pi) G (dvGood G u Q) (fun σ => (σ 26 - G.σ Q).toNat) := by
  refine ⟨fun σ' hσ hi => ?_, fun σ' hσ hgood => ?_⟩
  · have e26 : σ' 26 = 0 + (1 * G.σ qi + 0) := hi 0 _ rfl
    have e27 : σ' 27 = 0 + (1 * G.σ u + (-1 * G.σ pi + 0)) := hi 1 _ rfl
    have e26' : σ' 26 = G.σ qi := by omega
    have e27' : σ' 27 = G.σ u - G.σ pi := by omega
    unfold dvGood
    rw [e26', e27', hpi]
    rw [hpi] at hr
    exact ⟨hq1, hq2, hr.1, hr.2, rfl⟩
  · obtain ⟨k1, k2, k3, k4, k5⟩ := hgood
    obtain ⟨q, hq⟩ : ∃ z, z = σ' 26 := ⟨_, rfl⟩
    obtain ⟨rh, hrh⟩ : ∃ z, z = σ' 27 := ⟨_, rfl⟩
    rw [← hq] at k1 k2 k5
    rw [← hrh] at k3 k4 k5
    obtain ⟨T, hT⟩ : ∃ z, z = G.σ t := ⟨_, rfl⟩
    obtain ⟨Y0, hY0⟩ : ∃ z, z = G.σ 6 := ⟨_, rfl⟩
    obtain ⟨Y1, hY1⟩ : ∃ z, z = G.σ 5 := ⟨_, rfl⟩
    obtain ⟨V, hV⟩ : ∃ z, z = G.σ Q := ⟨_, rfl⟩
    rw [← hT] at rt l1 l2
    rw [← hY0] at ry0 l1 l2
    rw [← hY1] at ry1 l1 l2 k5
    rw [← hV] at rQ l1 l2 k1
    obtain ⟨g1, g2⟩ := guess (G.σ u) T Y1 Y0 q V rh k5 rt ry0 (by omega) l1 l2
    obtain ⟨pr, hpr⟩ : ∃ z : Int, z = if q ≤ 4294967295 then q * Y0 else 0 := ⟨_, rfl⟩
    have rpr : 0 ≤ pr ∧ pr ≤ 18446744073709551615 := by
      rw [hpr]
      by_cases hqm : q ≤ 4294967295
      · rw [if_pos hqm]
        have h1 : q * Y0 ≤ 4294967295 * 4294967295 := Int.mul_le_mul hqm ry0.2 ry0.1 (by omega)
        have h2 : 0 ≤ q * Y0 := Int.mul_nonneg (by omega) ry0.1
        omega
      · rw [if_neg hqm]; omega
    obtain ⟨σ2, hσ2⟩ : ∃ z, z = extσ σ' 28 [pr] := ⟨_, rfl⟩
    have hlow : ∀ i, i < 28 → σ2 i = σ' i := fun i hi => by rw [hσ2]; exact extσ_lo hi
    have s26 : σ2 26 = q := (hlow 26 (by decide)).trans hq.symm
    have s27 : σ2 27 = rh := (hlow 27 (by decide)).trans hrh.symm
    have s28 : σ2 28 = pr := by rw [hσ2]; rfl
    have st : σ2 t = T := (hlow t (by omega)).trans ((hσ t ht).trans hT.symm)
    have sQ : σ2 Q = V := (hlow Q (by omega)).trans ((hσ Q hQ).trans hV.symm)
    have s5 : σ2 5 = Y1 := (hlow 5 (by decide)).trans ((hσ 5 (by show 5 < 26; decide)).trans hY1.symm)
    have s6 : σ2 6 = Y0 := (hlow 6 (by decide)).trans ((hσ 6 (by show 6 < 26; decide)).trans hY0.symm)
    have hb2 : bdOk σ2 dvLb 0 := by
      refine bd_app (bd_congr (σ := G.σ) (fun i hi => ?_) hbd) ⟨?_, ?_, ?_, trivial⟩
      · have hi26 : i < 26 := by simpa [dvBd] using hi
        exact (hlow i (by omega)).trans (hσ i hi26)
      · show 0 ≤ σ2 26 ∧ σ2 26 ≤ _
        rw [s26]; omega
      · show 0 ≤ σ2 27 ∧ σ2 27 ≤ _
        rw [s27]; omega
      · show 0 ≤ σ2 28 ∧ σ2 28 ≤ _
        rw [s28]; exact rpr
    have hfacts : ∀ i, geOk σ2 (dvG t Q i) → (q ≤ 4294967295 ∨ dvN i = []) → ∀ G2 : Gh, G2.σ = σ2 → (∀ i, i < 1000 → G2.ε i = G.ε i) → G2.mono = G.mono → EnvOk (dvC t Q i) Tryz.prog G2 ∧ FnOk (dvC t Q i) Tryz.prog G2 := by
      intro i hge hn G2 h2 _ hmono
      have hnl : nlOk G2 (dvN i) := by
        have one : q ≤ 4294967295 → nlOk G2 [dvPr] := fun hqm => by
          refine ⟨.inr (.inr (.inr ?_)), trivial⟩
          show some (IntKind.u64.wrap ((0 + (1 * G2.σ 26 + 0)) * (0 + (1 * G2.σ 6 + 0)))) = some (G2.σ 28)
          rw [h2, s26, s6, s28, hpr, if_pos hqm]
          simp only [Int.zero_add, Int.add_zero, Int.one_mul]
          rw [hpr, if_pos hqm] at rpr
          rw [IntKind.wrap_u64, Int.emod_eq_of_lt rpr.1 (by omega)]
        rcases hn with hqm | hn
        · unfold dvN
          split <;> first | exact one hqm | trivial
        · rw [hn]; trivial
      have F : Facts G2 dvLb (dvG t Q i) (dvN i) := ⟨by rw [h2]; exact hb2, by rw [h2]; exact hge, hnl⟩
      exact ⟨evE_ok progOkB F.ends (geOk_at F.ge) (nlOk_at F.nl), evE_fn progOkB (fun _ _ h => (nomatch h))⟩
    have back : ∀ (i : Nat) (_ : V < q), (1 ≤ q) → rh + Y1 ≤ 4294967295 → ∀ σ3 : Nat → Int, (∀ j x, dvSub[j]? = some x → σ3 (26 + j) = LF.den σ2 x) → dvGood G u Q σ3 ∧ (σ3 26 - G.σ Q).toNat < (σ' 26 - G.σ Q).toNat := by
      intro _ hVq _ hnb σ3 hs3
      have e26 : σ3 26 = -1 + (1 * σ2 26 + 0) := hs3 0 _ rfl
      have e27 : σ3 27 = 0 + (1 * σ2 5 + (1 * σ2 27 + 0)) := hs3 1 _ rfl
      rw [s26] at e26
      rw [s5, s27] at e27
      have e26' : σ3 26 = q - 1 := by omega
      have e27' : σ3 27 = rh + Y1 := by omega
      unfold dvGood
      rw [e26', e27', ← hV, ← hY1, ← hq, Int.sub_mul, Int.one_mul]
      omega
    have mem : ∀ (i : Nat) (b : Bool) (x : List LF), (⟨dvC t Q i, 1, b, x⟩ : LCase) ∈ [(⟨dvC t Q 0, 1, false, []⟩ : LCase), ⟨dvC t Q 1, 1, false, []⟩, ⟨dvC t Q 2, 1, false, []⟩, ⟨dvC t Q 3, 1, true, dvSub⟩, ⟨dvC t Q 4, 1, true, dvSub⟩] → (⟨dvC t Q i, 1, b, x⟩ : LCase) ∈ (dvS idb qs W u t Q qi pi).cases := fun _ _ _ h => h
    have hlow2 : ∀ i, i < (dvS idb qs W u t Q qi pi).K + (dvS idb qs W u t Q qi pi).init.length → σ2 i = σ' i := hlow
    by_cases hb : 4294967296 ≤ q
    · by_cases hk : 4294967296 ≤ rh + Y1
      · have := g2 k2 (by omega) hk
        exact ⟨⟨dvC t Q 1, 1, false, []⟩, mem 1 _ _ (by simp), σ2, hlow2, hfacts 1 (by simp only [dvG, geOk, and_true, den, s26, s27, s5, sQ]; omega) (.inr rfl), fun h => by cases h⟩
      · exact ⟨⟨dvC t Q 3, 1, true, dvSub⟩, mem 3 _ _ (by simp), σ2, hlow2, hfacts 3 (by simp only [dvG, geOk, and_true, den, s26, s27, s5]; omega) (.inr rfl), fun _ σ3 _ hs3 => back 3 (by omega) (by omega) (by omega) σ3 hs3⟩
    · have hqm : q ≤ 4294967295 := by omega
      rw [if_pos hqm] at hpr
      by_cases hc : q * Y0 ≤ 4294967296 * rh + T
      · have := g1.1 hc
        exact ⟨⟨dvC t Q 0, 1, false, []⟩, mem 0 _ _ (by simp), σ2, hlow2, hfacts 0 (by simp only [dvG, geOk, and_true, den, s26, s27, s28, st, sQ]; omega) (.inl hqm), fun h => by cases h⟩
      · have hVq : V < q := by
          by_cases h : q ≤ V
          · exact absurd (g1.2 h) hc
          · omega
        by_cases hk : 4294967296 ≤ rh + Y1
        · have := g2 k2 (by omega) hk
          exact ⟨⟨dvC t Q 2, 1, false, []⟩, mem 2 _ _ (by simp), σ2, hlow2, hfacts 2 (by simp only [dvG, geOk, and_true, den, s26, s27, s28, s5, st, sQ]; omega) (.inl hqm), fun h => by cases h⟩
        · exact ⟨⟨dvC t Q 4, 1, true, dvSub⟩, mem 4 _ _ (by simp), σ2, hlow2, hfacts 4 (by simp only [dvG, geOk, and_true, den, s26, s27, s28, s5, st]; omega) (.inl hqm), fun _ σ3 _ hs3 => back 4 (by omega) (by omega) (by omega) σ3 hs3⟩
end Go.Proofs.YtdfgedemolielaaGreat
