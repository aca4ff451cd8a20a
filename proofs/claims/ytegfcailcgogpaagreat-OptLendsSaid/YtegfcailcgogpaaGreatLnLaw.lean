/- complinelaw25.OptLends returns true, for every input. -/
import Derived.Test.YtegfcailcgogpaaGreatLnO
import Derived.Test.YtegfcailcgogpaaGreatLnAIn
import Derived.Test.YtegfcailcgogpaaGreatLnBIn
import Derived.Test.YtegfcailcgogpaaGreatLnCIn
namespace Go.Proofs.YtegfcailcgogpaaGreat
open Go Go.RowKit Gv
set_option maxRecDepth 100000 in
theorem lnMid (qty amount cash : Int) (hq : 1 ≤ qty ∧ qty ≤ 1000) (ha : 0 ≤ amount ∧ amount ≤ 5000) (hc : 0 ≤ cash ∧ cash ≤ 5000) (w : World) : Calls Tryz.prog 5 #[.int .i64 qty, .int .i64 amount, .int .i64 cash] w (TrueBelow w) := by
  by_cases h : amount ≤ cash
  · refine lna_in qty amount cash 0 w trivial (hkT_ok progOk lnTA fun t ht => ?_) ⟨hq, ha, hc, ⟨by show (-600 : Int) ≤ 0; omega, by show (0 : Int) ≤ 600; omega⟩, trivial⟩ ⟨?_, trivial⟩
    · simp only [lnTA, List.mem_cons, List.not_mem_nil, or_false] at ht
      rcases ht with rfl | rfl
      · exact lnMd1 (qty := qty) (amount := amount) rfl rfl hq ha
      · exact lnMd2 (qty := qty) (amount := amount) rfl rfl hq ha
    · show 0 ≤ 0 + (1 * cash + (-1 * amount + 0))
      omega
  · by_cases h0 : cash = 0
    · subst h0
      obtain ⟨v, hv⟩ : ∃ v : Int, v = (amount + 8) / 9 := ⟨_, rfl⟩
      have rv : -600 ≤ v ∧ v ≤ 600 := by omega
      have rv0 : 0 ≤ v ∧ v ≤ 1000 := by omega
      have hz : (0 : Int) ≤ 0 ∧ (0 : Int) ≤ 0 := by omega
      refine lnc_in qty amount 0 v w ⟨.inr (.inl ⟨rfl, by show (9 + 0 : Int) ≠ 0; omega, ?_⟩), trivial⟩ (hkT_ok progOk lnTC fun t ht => ?_) ⟨hq, ha, hz, rv, trivial⟩ ⟨?_, ?_, ?_, trivial⟩
      · show IntKind.i64.wrap ((8 + (1 * amount + 0)).tdiv (9 + 0)) = v
        rw [Int.tdiv_eq_ediv_of_nonneg (by omega), IntKind.wrap_i64]
        omega
      · simp only [lnTC, List.mem_cons, List.not_mem_nil, or_false] at ht
        rcases ht with rfl | rfl | rfl | rfl | rfl
        · exact lnMd1 (qty := qty) (amount := amount) rfl rfl hq ha
        · exact lnMd2 (qty := qty) (amount := amount) rfl rfl hq ha
        · exact lnNd (lack := amount) (fun φ => by simp [conc, den, mkGh]) (v := v) rfl (by omega) hv
        · exact lnWo (x := v) rfl rv0
        · exact lnWo (x := qty) rfl (by omega)
      · show 0 ≤ -1 + (1 * amount + 0)
        omega
      · show 0 ≤ 0 + (9 * v + (-1 * amount + 0))
        omega
      · show 0 ≤ 8 + (1 * amount + (-9 * v + 0))
        omega
    · obtain ⟨v, hv⟩ : ∃ v : Int, v = (amount - cash + 8) / 9 := ⟨_, rfl⟩
      have rv : -600 ≤ v ∧ v ≤ 600 := by omega
      have rv0 : 0 ≤ v ∧ v ≤ 1000 := by omega
      refine lnb_in qty amount cash v w ⟨.inr (.inl ⟨rfl, by show (9 + 0 : Int) ≠ 0; omega, ?_⟩), .inr (.inl ⟨rfl, by show (9 + 0 : Int) ≠ 0; omega, ?_⟩), trivial⟩ (hkT_ok progOk lnTB fun t ht => ?_) ⟨hq, ha, hc, rv, trivial⟩ ⟨?_, ?_, ?_, ?_, trivial⟩
      · show IntKind.i64.wrap ((8 + (-1 * cash + (1 * amount + 0))).tdiv (9 + 0)) = v
        rw [Int.tdiv_eq_ediv_of_nonneg (by omega), IntKind.wrap_i64]
        omega
      · show IntKind.i64.wrap ((8 + (1 * amount + (-1 * cash + 0))).tdiv (9 + 0)) = v
        rw [Int.tdiv_eq_ediv_of_nonneg (by omega), IntKind.wrap_i64]
        omega
      · simp only [lnTB, List.mem_cons, List.not_mem_nil, or_false] at ht
        rcases ht with rfl | rfl | rfl | rfl | rfl | rfl
        · exact lnMd1 (qty := qty) (amount := amount) rfl rfl hq ha
        · exact lnMd2 (qty := qty) (amount := amount) rfl rfl hq ha
        · exact lnNd (lack := amount - cash) (fun φ => by
            rw [conc]
            show some (Value.int .i64 (0 + (1 * amount + (-1 * cash + 0)))) = _
            rw [show (0 : Int) + (1 * amount + (-1 * cash + 0)) = amount - cash from by omega]) (v := v) rfl (by omega) hv
        · exact lnNd (lack := amount - cash) (fun φ => by
            rw [conc]
            show some (Value.int .i64 (0 + (-1 * cash + (1 * amount + 0)))) = _
            rw [show (0 : Int) + (-1 * cash + (1 * amount + 0)) = amount - cash from by omega]) (v := v) rfl (by omega) hv
        · exact lnWo (x := v) rfl rv0
        · exact lnWo (x := qty) rfl (by omega)
      · show 0 ≤ -1 + (1 * cash + 0)
        omega
      · show 0 ≤ -1 + (1 * amount + (-1 * cash + 0))
        omega
      · show 0 ≤ 0 + (9 * v + (-1 * amount + (1 * cash + 0)))
        omega
      · show 0 ≤ 8 + (1 * amount + (-1 * cash + (-9 * v + 0)))
        omega
set_option maxRecDepth 100000 in
theorem lnAll (qty amount cash : Int) (h0 : -9223372036854775808 ≤ qty ∧ qty ≤ 9223372036854775807) (h1 : -9223372036854775808 ≤ amount ∧ amount ≤ 9223372036854775807) (h2 : -9223372036854775808 ≤ cash ∧ cash ≤ 9223372036854775807) (w : World) : Calls Tryz.prog 5 #[.int .i64 qty, .int .i64 amount, .int .i64 cash] w (TrueBelow w) := by
  have out : ∀ {bd : List (Int × Int)} {ge : List LF}, LnRun bd ge → bdOk (mkGh [] [qty, amount, cash] rfl).σ bd 0 → geOk (mkGh [] [qty, amount, cash] rfl).σ ge → Calls Tryz.prog 5 #[.int .i64 qty, .int .i64 amount, .int .i64 cash] w (TrueBelow w) := fun {bd ge} hr hb hg => by
    have F : Facts (mkGh [] [qty, amount, cash] rfl) bd ge [] := ⟨hb, hg, trivial⟩
    exact run_true (nl := []) progOk F (libS_ok F (mapsH_ok F (lnA_ok _ _ _))) Tryz.func5 rfl (by simp [lnArgs, concL, conc, den, mkGh]) hr w
  have hO : bdOk (mkGh [] [qty, amount, cash] rfl).σ lnO 0 := ⟨h0, h1, h2, trivial⟩
  by_cases c0 : qty < 1
  · exact out lno0 hO (by simp [geOk, lnNo, den, mkGh]; omega)
  by_cases c1 : 1000 < qty
  · exact out lno1 hO (by simp [geOk, lnNo, den, mkGh]; omega)
  by_cases c2 : amount < 0
  · exact out lno2 hO (by simp [geOk, lnNo, den, mkGh]; omega)
  by_cases c3 : 5000 < amount
  · exact out lno3 hO (by simp [geOk, lnNo, den, mkGh]; omega)
  by_cases c4 : cash < 0
  · exact out lno4 hO (by simp [geOk, lnNo, den, mkGh]; omega)
  by_cases c5 : 5000 < cash
  · exact out lno5 hO (by simp [geOk, lnNo, den, mkGh]; omega)
  exact lnMid qty amount cash (by omega) (by omega) (by omega) w
set_option maxRecDepth 100000 in
theorem ln_int {W : World} {base : Nat} {v : Value} (h : Value.okWide Tryz.prog W .any base 3 v) : ∃ n, v = .int .i64 n ∧ -9223372036854775808 ≤ n ∧ n ≤ 9223372036854775807 := by
  unfold Value.okWide at h
  rw [Tryz.underlying3] at h
  exact cell_int Tryz.underlying3 h
set_option maxRecDepth 100000 in
theorem lnWalk (W : World) (base : Nat) (v0 v1 v2 : Value) (h0 : Value.okWide Tryz.prog W .any base 3 v0) (h1 : Value.okWide Tryz.prog W .any base 3 v1) (h2 : Value.okWide Tryz.prog W .any base 3 v2) :
    Calls Tryz.prog 5 #[v0, v1, v2] W (TrueBelow W) := by
  obtain ⟨qty, rfl, g0⟩ := ln_int h0
  obtain ⟨amount, rfl, g1⟩ := ln_int h1
  obtain ⟨cash, rfl, g2⟩ := ln_int h2
  exact lnAll qty amount cash g0 g1 g2 W
end Go.Proofs.YtegfcailcgogpaaGreat
