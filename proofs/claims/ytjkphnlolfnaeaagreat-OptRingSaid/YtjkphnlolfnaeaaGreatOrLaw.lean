/- complinelaw25.OptRing returns true, for every input. -/
import Derived.Test.YtjkphnlolfnaeaaGreatOrO
import Derived.Test.YtjkphnlolfnaeaaGreatOr2In
import Derived.Test.YtjkphnlolfnaeaaGreatOr3In
namespace Go.Proofs.YtjkphnlolfnaeaaGreat
open Go Go.RowKit Gv
set_option maxRecDepth 100000 in
theorem orAll (n qty amount : Int) (h0 : -9223372036854775808 ≤ n ∧ n ≤ 9223372036854775807) (h1 : -9223372036854775808 ≤ qty ∧ qty ≤ 9223372036854775807) (h2 : -9223372036854775808 ≤ amount ∧ amount ≤ 9223372036854775807) (w : World) : Calls Tryz.prog 3 #[.int .i64 n, .int .i64 qty, .int .i64 amount] w (TrueBelow w) := by
  have out : ∀ {bd : List (Int × Int)} {ge : List LF}, OrRun bd ge → bdOk (mkGh [] [n, qty, amount] rfl).σ bd 0 → geOk (mkGh [] [n, qty, amount] rfl).σ ge → Calls Tryz.prog 3 #[.int .i64 n, .int .i64 qty, .int .i64 amount] w (TrueBelow w) := fun {bd ge} hr hb hg => by
    have F : Facts (mkGh [] [n, qty, amount] rfl) bd ge [] := ⟨hb, hg, trivial⟩
    exact run_true (nl := []) progOk F (libS_ok F (mapsH_ok F (orA_ok _ _ _))) Tryz.func3 rfl (by simp [orArgs, concL, conc, den, mkGh]) hr w
  have hO : bdOk (mkGh [] [n, qty, amount] rfl).σ orO 0 := ⟨h0, h1, h2, trivial⟩
  by_cases c0 : n < 2
  · exact out oro0 hO (by simp [geOk, orNo, den, mkGh]; omega)
  by_cases c1 : 3 < n
  · exact out oro1 hO (by simp [geOk, orNo, den, mkGh]; omega)
  by_cases c2 : qty < 1
  · exact out oro2 hO (by simp [geOk, orNo, den, mkGh]; omega)
  by_cases c3 : 1000 < qty
  · exact out oro3 hO (by simp [geOk, orNo, den, mkGh]; omega)
  by_cases c4 : amount < 0
  · exact out oro4 hO (by simp [geOk, orNo, den, mkGh]; omega)
  by_cases c5 : 1000 < amount
  · exact out oro5 hO (by simp [geOk, orNo, den, mkGh]; omega)
  have hq : 1 ≤ qty ∧ qty ≤ 1000 := by omega
  have ha : 0 ≤ amount ∧ amount ≤ 1000 := by omega
  by_cases hn : n = 2
  · subst hn
    exact or2_in qty amount w trivial (orT_ok (fun h => h) rfl rfl hq ha) ⟨hq, ha, trivial⟩ trivial
  · obtain rfl : n = 3 := by omega
    exact or3_in qty amount w trivial (orT_ok (fun h => h) rfl rfl hq ha) ⟨hq, ha, trivial⟩ trivial
set_option maxRecDepth 100000 in
theorem or_int {W : World} {base : Nat} {v : Value} (h : Value.okWide Tryz.prog W .any base 3 v) : ∃ n, v = .int .i64 n ∧ -9223372036854775808 ≤ n ∧ n ≤ 9223372036854775807 := by
  unfold Value.okWide at h
  rw [Tryz.underlying3] at h
  exact cell_int Tryz.underlying3 h
set_option maxRecDepth 100000 in
theorem orWalk (W : World) (base : Nat) (v0 v1 v2 : Value) (h0 : Value.okWide Tryz.prog W .any base 3 v0) (h1 : Value.okWide Tryz.prog W .any base 3 v1) (h2 : Value.okWide Tryz.prog W .any base 3 v2) :
    Calls Tryz.prog 3 #[v0, v1, v2] W (TrueBelow W) := by
  obtain ⟨n, rfl, g0⟩ := or_int h0
  obtain ⟨qty, rfl, g1⟩ := or_int h1
  obtain ⟨amount, rfl, g2⟩ := or_int h2
  exact orAll n qty amount g0 g1 g2 W
end Go.Proofs.YtjkphnlolfnaeaaGreat
