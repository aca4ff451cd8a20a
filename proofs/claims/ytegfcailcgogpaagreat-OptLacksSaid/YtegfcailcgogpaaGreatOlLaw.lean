/- complinelaw25.OptLacks returns true, for every input. -/
import Derived.Test.YtegfcailcgogpaaGreatOlP0
import Derived.Test.YtegfcailcgogpaaGreatOlP1
import Derived.Test.YtegfcailcgogpaaGreatOlP2
import Derived.Test.YtegfcailcgogpaaGreatOlP3
import Derived.Test.YtegfcailcgogpaaGreatOlP4
namespace Go.Proofs.YtegfcailcgogpaaGreat
open Go.RowKit Gv
set_option maxRecDepth 100000 in
theorem olA_ok (e : List Value) (s : List Int) (he : e.all (·.oneCell') = true) : HooksOk Tryz.prog (mkGh e s he) olA := hkT_ok progOk _ fun t ht => by
  simp at ht
  subst ht
  exact aliveOk6 _
section
variable (n off on pledged : Int)
def olGh : Gh := mkGh [] [n, off, on, pledged] rfl
theorem olArgs_ok (blocked : Bool) (φ : Mp) : concL (olGh n off on pledged) φ (olArgs blocked) = some [.int .i64 n, .int .i64 off, .int .i64 on, .int .i64 pledged, .bool blocked] := by
  simp [olArgs, concL, conc, den, olGh, mkGh]
set_option maxRecDepth 100000 in
theorem ol_out (blocked : Bool) {bd : List (Int × Int)} {ge : List LF} (hrun : OlRun bd ge blocked) (hbd : bdOk (olGh n off on pledged).σ bd 0) (w : World) (hge : geOk (olGh n off on pledged).σ ge) :
    Calls Tryz.prog 3 #[.int .i64 n, .int .i64 off, .int .i64 on, .int .i64 pledged, .bool blocked] w (TrueBelow w) := by
  have F : Facts (olGh n off on pledged) bd ge [] := ⟨hbd, hge, trivial⟩
  exact run_true (nl := []) progOk F (libS_ok F (mapsH_ok F (olA_ok _ _ _))) Tryz.func3 rfl (olArgs_ok n off on pledged blocked _) hrun w

set_option maxRecDepth 100000 in
theorem ol_in_f (w : World) (hI : bdOk (olGh n off on pledged).σ olI 0) : geOk (olGh n off on pledged).σ [] → Calls Tryz.prog 3 #[.int .i64 n, .int .i64 off, .int .i64 on, .int .i64 pledged, .bool false] w (TrueBelow w) := by
  have out : ∀ {bd : List (Int × Int)} {ge : List LF}, OlRun bd ge false → bdOk (olGh n off on pledged).σ bd 0 → geOk (olGh n off on pledged).σ ge → Calls Tryz.prog 3 #[.int .i64 n, .int .i64 off, .int .i64 on, .int .i64 pledged, .bool false] w (TrueBelow w) := fun hr hb hg => ol_out n off on pledged false hr hb w hg
  exact (split_at (-1,[(0,1)]) (split_at (0,[(1,-1)]) (split_at (-1,[(1,-1),(2,1),(0,1)]) (out olg0 hI) (dead_at [1, 1, 1] (by kernel_rfl) hI)) (split_at (-1,[(2,-1),(1,1)]) (split_at (-1,[(0,-1),(2,-1),(1,1)]) (out olg1 hI) (split_at (-1,[(1,-1),(2,1),(0,1)]) (out olg2 hI) (out olg3 hI))) (split_at (-1,[(1,-1),(2,1),(0,1)]) (out olg4 hI) (dead_at [1, 1, 0, 1] (by kernel_rfl) hI)))) (split_at (0,[(1,-1)]) (split_at (-1,[(1,-1),(2,1),(0,1)]) (out olg5 hI) (out olg6 hI)) (split_at (-1,[(2,-1),(1,1)]) (split_at (-1,[(1,-1),(2,1),(0,1)]) (dead_at [1, 1, 0, 1] (by kernel_rfl) hI) (split_at (-1,[(1,1),(2,-1),(0,-1)]) (out olg7 hI) (dead_at [1, 0, 1, 0, 1] (by kernel_rfl) hI))) (split_at (-1,[(1,-1),(2,1),(0,1)]) (out olg8 hI) (out olg9 hI)))))
set_option maxRecDepth 100000 in
theorem ol_all_f (h0 : -9223372036854775808 ≤ n ∧ n ≤ 9223372036854775807) (h1 : -9223372036854775808 ≤ off ∧ off ≤ 9223372036854775807) (h2 : -9223372036854775808 ≤ on ∧ on ≤ 9223372036854775807) (h3 : -9223372036854775808 ≤ pledged ∧ pledged ≤ 9223372036854775807) (w : World) : Calls Tryz.prog 3 #[.int .i64 n, .int .i64 off, .int .i64 on, .int .i64 pledged, .bool false] w (TrueBelow w) := by
  have out : ∀ {bd : List (Int × Int)} {ge : List LF}, OlRun bd ge false → bdOk (olGh n off on pledged).σ bd 0 → geOk (olGh n off on pledged).σ ge → Calls Tryz.prog 3 #[.int .i64 n, .int .i64 off, .int .i64 on, .int .i64 pledged, .bool false] w (TrueBelow w) := fun hr hb hg => ol_out n off on pledged false hr hb w hg
  have hO : bdOk (olGh n off on pledged).σ olO 0 := by
    simp [bdOk, olO, olGh, mkGh]
    omega
  by_cases c0 : n < 0
  · exact out olo0_f hO (by simp [geOk, olNo, den, olGh, mkGh]; omega)
  by_cases c1 : 1099511627776 < n
  · exact out olo1_f hO (by simp [geOk, olNo, den, olGh, mkGh]; omega)
  by_cases c2 : off < 0
  · exact out olo2_f hO (by simp [geOk, olNo, den, olGh, mkGh]; omega)
  by_cases c3 : 1099511627776 < off
  · exact out olo3_f hO (by simp [geOk, olNo, den, olGh, mkGh]; omega)
  by_cases c4 : on < 0
  · exact out olo4_f hO (by simp [geOk, olNo, den, olGh, mkGh]; omega)
  by_cases c5 : 1099511627776 < on
  · exact out olo5_f hO (by simp [geOk, olNo, den, olGh, mkGh]; omega)
  by_cases c6 : pledged < 0
  · exact out olo6_f hO (by simp [geOk, olNo, den, olGh, mkGh]; omega)
  by_cases c7 : 1099511627776 < pledged
  · exact out olo7_f hO (by simp [geOk, olNo, den, olGh, mkGh]; omega)
  refine ol_in_f n off on pledged w ?_ trivial
  simp [bdOk, olI, olGh, mkGh]
  omega
set_option maxRecDepth 100000 in
theorem ol_in_t (w : World) (hI : bdOk (olGh n off on pledged).σ olI 0) : geOk (olGh n off on pledged).σ [] → Calls Tryz.prog 3 #[.int .i64 n, .int .i64 off, .int .i64 on, .int .i64 pledged, .bool true] w (TrueBelow w) := by
  have out : ∀ {bd : List (Int × Int)} {ge : List LF}, OlRun bd ge true → bdOk (olGh n off on pledged).σ bd 0 → geOk (olGh n off on pledged).σ ge → Calls Tryz.prog 3 #[.int .i64 n, .int .i64 off, .int .i64 on, .int .i64 pledged, .bool true] w (TrueBelow w) := fun hr hb hg => ol_out n off on pledged true hr hb w hg
  exact (split_at (-1,[(0,1)]) (split_at (0,[(1,-1)]) (split_at (-1,[(1,-1),(2,1),(0,1)]) (out olg10 hI) (dead_at [1, 1, 1] (by kernel_rfl) hI)) (split_at (-1,[(2,-1),(1,1)]) (split_at (-1,[(0,-1),(2,-1),(1,1)]) (out olg11 hI) (split_at (-1,[(1,-1),(2,1),(0,1)]) (out olg12 hI) (out olg13 hI))) (split_at (-1,[(1,-1),(2,1),(0,1)]) (out olg14 hI) (dead_at [1, 1, 0, 1] (by kernel_rfl) hI)))) (split_at (0,[(1,-1)]) (split_at (-1,[(1,-1),(2,1),(0,1)]) (out olg15 hI) (out olg16 hI)) (split_at (-1,[(2,-1),(1,1)]) (split_at (-1,[(1,-1),(2,1),(0,1)]) (dead_at [1, 1, 0, 1] (by kernel_rfl) hI) (split_at (-1,[(1,1),(2,-1),(0,-1)]) (out olg17 hI) (dead_at [1, 0, 1, 0, 1] (by kernel_rfl) hI))) (split_at (-1,[(1,-1),(2,1),(0,1)]) (out olg18 hI) (out olg19 hI)))))
set_option maxRecDepth 100000 in
theorem ol_all_t (h0 : -9223372036854775808 ≤ n ∧ n ≤ 9223372036854775807) (h1 : -9223372036854775808 ≤ off ∧ off ≤ 9223372036854775807) (h2 : -9223372036854775808 ≤ on ∧ on ≤ 9223372036854775807) (h3 : -9223372036854775808 ≤ pledged ∧ pledged ≤ 9223372036854775807) (w : World) : Calls Tryz.prog 3 #[.int .i64 n, .int .i64 off, .int .i64 on, .int .i64 pledged, .bool true] w (TrueBelow w) := by
  have out : ∀ {bd : List (Int × Int)} {ge : List LF}, OlRun bd ge true → bdOk (olGh n off on pledged).σ bd 0 → geOk (olGh n off on pledged).σ ge → Calls Tryz.prog 3 #[.int .i64 n, .int .i64 off, .int .i64 on, .int .i64 pledged, .bool true] w (TrueBelow w) := fun hr hb hg => ol_out n off on pledged true hr hb w hg
  have hO : bdOk (olGh n off on pledged).σ olO 0 := by
    simp [bdOk, olO, olGh, mkGh]
    omega
  by_cases c0 : n < 0
  · exact out olo0_t hO (by simp [geOk, olNo, den, olGh, mkGh]; omega)
  by_cases c1 : 1099511627776 < n
  · exact out olo1_t hO (by simp [geOk, olNo, den, olGh, mkGh]; omega)
  by_cases c2 : off < 0
  · exact out olo2_t hO (by simp [geOk, olNo, den, olGh, mkGh]; omega)
  by_cases c3 : 1099511627776 < off
  · exact out olo3_t hO (by simp [geOk, olNo, den, olGh, mkGh]; omega)
  by_cases c4 : on < 0
  · exact out olo4_t hO (by simp [geOk, olNo, den, olGh, mkGh]; omega)
  by_cases c5 : 1099511627776 < on
  · exact out olo5_t hO (by simp [geOk, olNo, den, olGh, mkGh]; omega)
  by_cases c6 : pledged < 0
  · exact out olo6_t hO (by simp [geOk, olNo, den, olGh, mkGh]; omega)
  by_cases c7 : 1099511627776 < pledged
  · exact out olo7_t hO (by simp [geOk, olNo, den, olGh, mkGh]; omega)
  refine ol_in_t n off on pledged w ?_ trivial
  simp [bdOk, olI, olGh, mkGh]
  omega
end
set_option maxRecDepth 100000 in
theorem ol_all (n off on pledged : Int) (blocked : Bool) (h0 : -9223372036854775808 ≤ n ∧ n ≤ 9223372036854775807) (h1 : -9223372036854775808 ≤ off ∧ off ≤ 9223372036854775807) (h2 : -9223372036854775808 ≤ on ∧ on ≤ 9223372036854775807) (h3 : -9223372036854775808 ≤ pledged ∧ pledged ≤ 9223372036854775807) (w : World) : Calls Tryz.prog 3 #[.int .i64 n, .int .i64 off, .int .i64 on, .int .i64 pledged, .bool blocked] w (TrueBelow w) := by
  cases blocked with
  | false =>
    exact ol_all_f n off on pledged h0 h1 h2 h3 w
  | true =>
    exact ol_all_t n off on pledged h0 h1 h2 h3 w
set_option maxRecDepth 100000 in
theorem ol_int {W : World} {base : Nat} {v : Value} (h : Value.okWide Tryz.prog W .any base 3 v) : ∃ n, v = .int .i64 n ∧ -9223372036854775808 ≤ n ∧ n ≤ 9223372036854775807 := by
  unfold Value.okWide at h
  rw [Tryz.underlying3] at h
  exact cell_int Tryz.underlying3 h
set_option maxRecDepth 100000 in
theorem ol_bool {W : World} {base : Nat} {v : Value} (h : Value.okWide Tryz.prog W .any base 4 v) : ∃ b, v = .bool b := by
  unfold Value.okWide at h
  rw [Tryz.underlying4] at h
  exact cell_bool Tryz.underlying4 h
set_option maxRecDepth 100000 in
theorem olWalk (W : World) (base : Nat) (v0 v1 v2 v3 v4 : Value) (h0 : Value.okWide Tryz.prog W .any base 3 v0) (h1 : Value.okWide Tryz.prog W .any base 3 v1) (h2 : Value.okWide Tryz.prog W .any base 3 v2) (h3 : Value.okWide Tryz.prog W .any base 3 v3) (h4 : Value.okWide Tryz.prog W .any base 4 v4) :
    Calls Tryz.prog 3 #[v0, v1, v2, v3, v4] W (TrueBelow W) := by
  obtain ⟨n, rfl, g0⟩ := ol_int h0
  obtain ⟨off, rfl, g1⟩ := ol_int h1
  obtain ⟨on, rfl, g2⟩ := ol_int h2
  obtain ⟨pledged, rfl, g3⟩ := ol_int h3
  obtain ⟨blocked, rfl⟩ := ol_bool h4
  exact ol_all n off on pledged blocked g0 g1 g2 g3 W
end Go.Proofs.YtegfcailcgogpaaGreat
