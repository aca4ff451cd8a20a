/- complinelaw24.CheckTwice returns true, for every input. -/
import Derived.Test.YtaajobcfbgpfoaaGreatCtO
import Derived.Test.YtaajobcfbgpfoaaGreatCtIn
namespace Go.Proofs.YtaajobcfbgpfoaaGreat
open Go Go.RowKit Gv
set_option maxRecDepth 100000 in
theorem ctAll (qty amount part : Int) (h0 : -9223372036854775808 ≤ qty ∧ qty ≤ 9223372036854775807) (h1 : -9223372036854775808 ≤ amount ∧ amount ≤ 9223372036854775807) (h2 : -9223372036854775808 ≤ part ∧ part ≤ 9223372036854775807) (w : World) : Calls Tryz.prog 3 #[.int .i64 qty, .int .i64 amount, .int .i64 part] w (TrueBelow w) := by
  have out : ∀ {bd : List (Int × Int)} {ge : List LF}, CtRun bd ge → bdOk (mkGh [] [qty, amount, part] rfl).σ bd 0 → geOk (mkGh [] [qty, amount, part] rfl).σ ge → Calls Tryz.prog 3 #[.int .i64 qty, .int .i64 amount, .int .i64 part] w (TrueBelow w) := fun {bd ge} hr hb hg => by
    have F : Facts (mkGh [] [qty, amount, part] rfl) bd ge [] := ⟨hb, hg, trivial⟩
    exact run_true (nl := []) progOk F (libS_ok F (mapsH_ok F (ctA_ok _ _ _))) Tryz.func3 rfl (by simp [ctOArgs, concL, conc, den, mkGh]) hr w
  have hO : bdOk (mkGh [] [qty, amount, part] rfl).σ ctO 0 := ⟨h0, h1, h2, trivial⟩
  by_cases c0 : qty < 2
  · exact out cto0 hO (by simp [geOk, ctNo, den, mkGh]; omega)
  by_cases c1 : 1073741824 < qty
  · exact out cto1 hO (by simp [geOk, ctNo, den, mkGh]; omega)
  by_cases c2 : amount < 0
  · exact out cto2 hO (by simp [geOk, ctNo, den, mkGh]; omega)
  by_cases c3 : 1099511627776 < amount
  · exact out cto3 hO (by simp [geOk, ctNo, den, mkGh]; omega)
  by_cases c4 : part < 1
  · exact out cto4 hO (by simp [geOk, ctNo, den, mkGh]; omega)
  by_cases c5 : qty ≤ part
  · exact out cto5 hO (by simp [geOk, ctNo, den, mkGh]; omega)
  have hq : 2 ≤ qty ∧ qty ≤ 1073741824 := by omega
  have hq1 : 1 ≤ qty ∧ qty ≤ 1073741824 := by omega
  have ha : 0 ≤ amount ∧ amount ≤ 1099511627776 := by omega
  have hp : 1 ≤ part ∧ part ≤ qty := by omega
  have hp2 : 1 ≤ part ∧ part ≤ 1073741824 := by omega
  obtain ⟨s, hs⟩ : ∃ z : Int, amount * part / qty = z := ⟨_, rfl⟩
  have hle := ctLe hq1.1 ha.1 hp
  rw [hs] at hle
  have hs2 : 0 ≤ s ∧ s ≤ 1099511627776 := by omega
  have hI : bdOk (mkGh [] [qty, amount, part, s] rfl).σ ctI 0 := ⟨hq, ha, hp2, hs2, trivial⟩
  have hT : HooksOk Tryz.prog (mkGh [] [qty, amount, part, s] rfl) (hkT ctT) := ctT_ok (fun h => h) rfl rfl rfl rfl hq1 ha hp hs
  have hg : geOk (mkGh [] [qty, amount, part, s] rfl).σ [(-1,[(0,1),(2,-1)]), (0,[(1,1),(3,-1)])] := by simp [geOk, den, mkGh]; omega
  exact ct_in qty amount part s w trivial hT hI hg
set_option maxRecDepth 100000 in
theorem ct_int {W : World} {base : Nat} {v : Value} (h : Value.okWide Tryz.prog W .any base 3 v) : ∃ n, v = .int .i64 n ∧ -9223372036854775808 ≤ n ∧ n ≤ 9223372036854775807 := by
  unfold Value.okWide at h
  rw [Tryz.underlying3] at h
  exact cell_int Tryz.underlying3 h
set_option maxRecDepth 100000 in
theorem ctWalk (W : World) (base : Nat) (v0 v1 v2 : Value) (h0 : Value.okWide Tryz.prog W .any base 3 v0) (h1 : Value.okWide Tryz.prog W .any base 3 v1) (h2 : Value.okWide Tryz.prog W .any base 3 v2) :
    Calls Tryz.prog 3 #[v0, v1, v2] W (TrueBelow W) := by
  obtain ⟨qty, rfl, g0⟩ := ct_int h0
  obtain ⟨amount, rfl, g1⟩ := ct_int h1
  obtain ⟨part, rfl, g2⟩ := ct_int h2
  exact ctAll qty amount part  g0 g1 g2 W
end Go.Proofs.YtaajobcfbgpfoaaGreat
