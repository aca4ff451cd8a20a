/- complinelaw24.CheckLimits returns true, for every input. -/
import Derived.Test.YtamhjnknohiajaaGreatClP0
import Derived.Test.YtamhjnknohiajaaGreatClP1
import Derived.Test.YtamhjnknohiajaaGreatClP2
import Derived.Test.YtamhjnknohiajaaGreatClP3
namespace Go.Proofs.YtamhjnknohiajaaGreat
open Go.RowKit Gv
set_option maxRecDepth 100000 in
theorem clA_ok (e : List Value) (s : List Int) (he : e.all (·.oneCell') = true) : HooksOk Tryz.prog (mkGh e s he) clA := hkT_ok progOk _ fun t ht => by
  simp at ht
  subst ht
  exact aliveOk6 _
section
variable (amount limit pledged bank : Int)
def clGh : Gh := mkGh [] [amount, limit, pledged, bank] rfl
theorem clArgs_ok (φ : Mp) : concL (clGh amount limit pledged bank) φ (clArgs) = some [.int .i64 amount, .int .i64 limit, .int .i64 pledged, .int .i64 bank] := by
  simp [clArgs, concL, conc, den, clGh, mkGh]
set_option maxRecDepth 100000 in
theorem cl_out {bd : List (Int × Int)} {ge : List LF} (hrun : ClRun bd ge) (hbd : bdOk (clGh amount limit pledged bank).σ bd 0) (w : World) (hge : geOk (clGh amount limit pledged bank).σ ge) :
    Calls Tryz.prog 4 #[.int .i64 amount, .int .i64 limit, .int .i64 pledged, .int .i64 bank] w (TrueBelow w) := by
  have F : Facts (clGh amount limit pledged bank) bd ge [] := ⟨hbd, hge, trivial⟩
  exact run_true (nl := []) progOk F (libS_ok F (mapsH_ok F (clA_ok _ _ _))) Tryz.func4 rfl (clArgs_ok amount limit pledged bank _) hrun w

set_option maxRecDepth 100000 in
theorem cl_in_x (w : World) (hI : bdOk (clGh amount limit pledged bank).σ clI 0) : geOk (clGh amount limit pledged bank).σ [] → Calls Tryz.prog 4 #[.int .i64 amount, .int .i64 limit, .int .i64 pledged, .int .i64 bank] w (TrueBelow w) := by
  have out : ∀ {bd : List (Int × Int)} {ge : List LF}, ClRun bd ge → bdOk (clGh amount limit pledged bank).σ bd 0 → geOk (clGh amount limit pledged bank).σ ge → Calls Tryz.prog 4 #[.int .i64 amount, .int .i64 limit, .int .i64 pledged, .int .i64 bank] w (TrueBelow w) := fun hr hb hg => cl_out amount limit pledged bank hr hb w hg
  exact (split_at (-1,[(2,1)]) (split_at (-1,[(3,1)]) (split_at (-1,[(0,1),(1,-1)]) (out clg0 hI) (split_at (-1,[(0,1),(2,-9)]) (out clg1 hI) (split_at (-2,[(2,1)]) (split_at (-1,[(0,1),(3,-1)]) (out clg2 hI) (split_at (-1,[(0,-1),(3,1)]) (out clg3 hI) (out clg4 hI))) (split_at (-1,[(0,1),(3,-1)]) (out clg5 hI) (split_at (-1,[(0,-1),(3,1)]) (out clg6 hI) (out clg7 hI)))))) (split_at (-1,[(0,1),(1,-1)]) (out clg8 hI) (split_at (-1,[(0,1),(2,-9)]) (out clg9 hI) (split_at (-2,[(2,1)]) (out clg10 hI) (out clg11 hI))))) (split_at (-1,[(3,1)]) (split_at (-1,[(0,1),(1,-1)]) (out clg12 hI) (split_at (-1,[(0,1),(2,-9)]) (out clg13 hI) (dead_at [1, 0, 0, 9] (by kernel_rfl) hI))) (split_at (-1,[(0,1),(1,-1)]) (out clg14 hI) (split_at (-1,[(0,1),(2,-9)]) (out clg15 hI) (dead_at [1, 0, 0, 9] (by kernel_rfl) hI)))))
set_option maxRecDepth 100000 in
theorem cl_all_x (h0 : -9223372036854775808 ≤ amount ∧ amount ≤ 9223372036854775807) (h1 : -9223372036854775808 ≤ limit ∧ limit ≤ 9223372036854775807) (h2 : -9223372036854775808 ≤ pledged ∧ pledged ≤ 9223372036854775807) (h3 : -9223372036854775808 ≤ bank ∧ bank ≤ 9223372036854775807) (w : World) : Calls Tryz.prog 4 #[.int .i64 amount, .int .i64 limit, .int .i64 pledged, .int .i64 bank] w (TrueBelow w) := by
  have out : ∀ {bd : List (Int × Int)} {ge : List LF}, ClRun bd ge → bdOk (clGh amount limit pledged bank).σ bd 0 → geOk (clGh amount limit pledged bank).σ ge → Calls Tryz.prog 4 #[.int .i64 amount, .int .i64 limit, .int .i64 pledged, .int .i64 bank] w (TrueBelow w) := fun hr hb hg => cl_out amount limit pledged bank hr hb w hg
  have hO : bdOk (clGh amount limit pledged bank).σ clO 0 := by
    simp [bdOk, clO, clGh, mkGh]
    omega
  by_cases c0 : amount < 1
  · exact out clo0_x hO (by simp [geOk, clNo, den, clGh, mkGh]; omega)
  by_cases c1 : 1073741824 < amount
  · exact out clo1_x hO (by simp [geOk, clNo, den, clGh, mkGh]; omega)
  by_cases c2 : limit < 0
  · exact out clo2_x hO (by simp [geOk, clNo, den, clGh, mkGh]; omega)
  by_cases c3 : 1073741824 < limit
  · exact out clo3_x hO (by simp [geOk, clNo, den, clGh, mkGh]; omega)
  by_cases c4 : pledged < 0
  · exact out clo4_x hO (by simp [geOk, clNo, den, clGh, mkGh]; omega)
  by_cases c5 : 1073741824 < pledged
  · exact out clo5_x hO (by simp [geOk, clNo, den, clGh, mkGh]; omega)
  by_cases c6 : bank < 0
  · exact out clo6_x hO (by simp [geOk, clNo, den, clGh, mkGh]; omega)
  by_cases c7 : 1073741824 < bank
  · exact out clo7_x hO (by simp [geOk, clNo, den, clGh, mkGh]; omega)
  refine cl_in_x amount limit pledged bank w ?_ trivial
  simp [bdOk, clI, clGh, mkGh]
  omega
end
set_option maxRecDepth 100000 in
theorem cl_int {W : World} {base : Nat} {v : Value} (h : Value.okWide Tryz.prog W .any base 3 v) : ∃ n, v = .int .i64 n ∧ -9223372036854775808 ≤ n ∧ n ≤ 9223372036854775807 := by
  unfold Value.okWide at h
  rw [Tryz.underlying3] at h
  exact cell_int Tryz.underlying3 h
set_option maxRecDepth 100000 in
theorem clWalk (W : World) (base : Nat) (v0 v1 v2 v3 : Value) (h0 : Value.okWide Tryz.prog W .any base 3 v0) (h1 : Value.okWide Tryz.prog W .any base 3 v1) (h2 : Value.okWide Tryz.prog W .any base 3 v2) (h3 : Value.okWide Tryz.prog W .any base 3 v3) :
    Calls Tryz.prog 4 #[v0, v1, v2, v3] W (TrueBelow W) := by
  obtain ⟨amount, rfl, g0⟩ := cl_int h0
  obtain ⟨limit, rfl, g1⟩ := cl_int h1
  obtain ⟨pledged, rfl, g2⟩ := cl_int h2
  obtain ⟨bank, rfl, g3⟩ := cl_int h3
  exact cl_all_x amount limit pledged bank g0 g1 g2 g3 W
end Go.Proofs.YtamhjnknohiajaaGreat
