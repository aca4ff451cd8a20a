/- complinelaw22.HallStocks returns true, for every input. -/
import Derived.Test.YtjpkfdmjhgnmbaaGreatHsA
import Derived.Test.YtjpkfdmjhgnmbaaGreatHsB
import Derived.Test.YtjpkfdmjhgnmbaaGreatHsC
import Derived.Test.YtjpkfdmjhgnmbaaGreatHsD
namespace Go.Proofs.YtjpkfdmjhgnmbaaGreat
open Go.RowKit Gv
theorem g1 (b : Bool) : HRun bdI Fg1 b := by
  cases b
  · exact g1_false
  · exact g1_true
theorem g2 (b : Bool) : HRun bdI Fg2 b := by
  cases b
  · exact g2_false
  · exact g2_true
theorem g3 (b : Bool) : HRun bdI Fg3 b := by
  cases b
  · exact g3_false
  · exact g3_true
theorem g4 (b : Bool) : HRun bdI Fg4 b := by
  cases b
  · exact g4_false
  · exact g4_true
theorem g5 (b : Bool) : HRun bdI Fg5 b := by
  cases b
  · exact g5_false
  · exact g5_true
theorem g6 (b : Bool) : HRun bdI Fg6 b := by
  cases b
  · exact g6_false
  · exact g6_true
theorem g7 (b : Bool) : HRun bdI Fg7 b := by
  cases b
  · exact g7_false
  · exact g7_true
theorem g8 (b : Bool) : HRun bdI Fg8 b := by
  cases b
  · exact g8_false
  · exact g8_true
theorem g9 (b : Bool) : HRun bdI Fg9 b := by
  cases b
  · exact g9_false
  · exact g9_true
theorem g10 (b : Bool) : HRun bdI Fg10 b := by
  cases b
  · exact g10_false
  · exact g10_true
theorem g11 (b : Bool) : HRun bdI Fg11 b := by
  cases b
  · exact g11_false
  · exact g11_true
theorem g12 (b : Bool) : HRun bdI Fg12 b := by
  cases b
  · exact g12_false
  · exact g12_true
theorem g13 (b : Bool) : HRun bdI Fg13 b := by
  cases b
  · exact g13_false
  · exact g13_true
theorem g14 (b : Bool) : HRun bdI Fg14 b := by
  cases b
  · exact g14_false
  · exact g14_true
theorem g15 (b : Bool) : HRun bdI Fg15 b := by
  cases b
  · exact g15_false
  · exact g15_true
set_option maxRecDepth 100000 in
theorem aH_ok (G : Gh) : HooksOk Tryz.prog G aH := hkT_ok progOk _ fun t ht => by
  simp at ht
  subst ht
  exact aliveOk7 G
section
variable (n off on : Int) (b : Bool)
def ghH : Gh := mkGh [] [n, off, on] rfl
theorem hArgs_ok (φ : Mp) : concL (ghH n off on) φ (hArgs b) = some [.int .i64 n, .int .i64 off, .int .i64 on, .bool b] := by
  simp [hArgs, concL, conc, den, ghH, mkGh]
set_option maxRecDepth 100000 in
theorem hs_out {bd : List (Int × Int)} {ge : List LF} (hrun : HRun bd ge b) (hbd : bdOk (ghH n off on).σ bd 0) (hge : geOk (ghH n off on).σ ge) (w : World) :
    Calls Tryz.prog 3 #[.int .i64 n, .int .i64 off, .int .i64 on, .bool b] w (TrueBelow w) := by
  have F : Facts (ghH n off on) bd ge [] := ⟨hbd, hge, trivial⟩
  exact run_true (nl := []) progOk F (libS_ok F (aH_ok _)) Tryz.func3 rfl (hArgs_ok n off on b _) hrun w
set_option maxRecDepth 100000 in
theorem hs_any (h0 : -9223372036854775808 ≤ n ∧ n ≤ 9223372036854775807) (h1 : -9223372036854775808 ≤ off ∧ off ≤ 9223372036854775807) (h2 : -9223372036854775808 ≤ on ∧ on ≤ 9223372036854775807) (w : World) :
    Calls Tryz.prog 3 #[.int .i64 n, .int .i64 off, .int .i64 on, .bool b] w (TrueBelow w) := by
  have out : ∀ {bd : List (Int × Int)} {ge : List LF}, HRun bd ge b → bdOk (ghH n off on).σ bd 0 → geOk (ghH n off on).σ ge → Calls Tryz.prog 3 #[.int .i64 n, .int .i64 off, .int .i64 on, .bool b] w (TrueBelow w) :=
    fun hr hb hg => hs_out n off on b hr hb hg w
  have hO : bdOk (ghH n off on).σ bdH 0 := by
    simp [bdOk, bdH, ghH, mkGh]
    omega
  by_cases c0 : n < 0
  · exact out (o0 b) hO (by simp [geOk, noH, den, ghH, mkGh]; omega)
  by_cases c1 : 1099511627776 < n
  · exact out (o1 b) hO (by simp [geOk, noH, den, ghH, mkGh]; omega)
  by_cases c2 : off < 0
  · exact out (o2 b) hO (by simp [geOk, noH, den, ghH, mkGh]; omega)
  by_cases c3 : 1099511627776 < off
  · exact out (o3 b) hO (by simp [geOk, noH, den, ghH, mkGh]; omega)
  by_cases c4 : on < 0
  · exact out (o4 b) hO (by simp [geOk, noH, den, ghH, mkGh]; omega)
  by_cases c5 : 1099511627776 < on
  · exact out (o5 b) hO (by simp [geOk, noH, den, ghH, mkGh]; omega)
  have hI : bdOk (ghH n off on).σ bdI 0 := by
    simp [bdOk, bdI, ghH, mkGh]
    omega
  by_cases a1 : 1 ≤ n
  · by_cases a2 : 1 ≤ off
    · by_cases a3 : 1 ≤ on
      · by_cases a4 : 0 ≤ n - off
        · exact out (g1 b) hI (by simp [geOk, den, ghH, mkGh, Fg1]; omega)
        by_cases a5 : 1 ≤ n - off + on
        · exact out (g2 b) hI (by simp [geOk, den, ghH, mkGh, Fg2]; omega)
        by_cases a6 : n - off + on = 0
        · exact out (g3 b) hI (by simp [geOk, den, ghH, mkGh, Fg3]; omega)
        · exact out (g4 b) hI (by simp [geOk, den, ghH, mkGh, Fg4]; omega)
      · by_cases a4 : 1 ≤ n - off
        · exact out (g9 b) hI (by simp [geOk, den, ghH, mkGh, Fg9]; omega)
        by_cases a5 : n - off = 0
        · exact out (g10 b) hI (by simp [geOk, den, ghH, mkGh, Fg10]; omega)
        · exact out (g11 b) hI (by simp [geOk, den, ghH, mkGh, Fg11]; omega)
    · by_cases a3 : 1 ≤ on
      · exact out (g5 b) hI (by simp [geOk, den, ghH, mkGh, Fg5]; omega)
      · exact out (g6 b) hI (by simp [geOk, den, ghH, mkGh, Fg6]; omega)
  · by_cases a2 : 1 ≤ off
    · by_cases a3 : 1 ≤ on
      · by_cases a5 : 1 ≤ n - off + on
        · exact out (g13 b) hI (by simp [geOk, den, ghH, mkGh, Fg13]; omega)
        by_cases a6 : n - off + on = 0
        · exact out (g14 b) hI (by simp [geOk, den, ghH, mkGh, Fg14]; omega)
        · exact out (g15 b) hI (by simp [geOk, den, ghH, mkGh, Fg15]; omega)
      · exact out (g12 b) hI (by simp [geOk, den, ghH, mkGh, Fg12]; omega)
    · by_cases a3 : 1 ≤ on
      · exact out (g7 b) hI (by simp [geOk, den, ghH, mkGh, Fg7]; omega)
      · exact out (g8 b) hI (by simp [geOk, den, ghH, mkGh, Fg8]; omega)
end
set_option maxRecDepth 100000 in
theorem int_arg {W : World} {base : Nat} {v : Value} (h : Value.okWide Tryz.prog W .any base 3 v) : ∃ n, v = .int .i64 n ∧ -9223372036854775808 ≤ n ∧ n ≤ 9223372036854775807 := by
  unfold Value.okWide at h
  rw [Tryz.underlying3] at h
  exact cell_int Tryz.underlying3 h
set_option maxRecDepth 100000 in
theorem bool_arg {W : World} {base : Nat} {v : Value} (h : Value.okWide Tryz.prog W .any base 4 v) : ∃ b, v = .bool b := by
  unfold Value.okWide at h
  rw [Tryz.underlying4] at h
  exact cell_bool Tryz.underlying4 h
set_option maxRecDepth 100000 in
theorem walk (W : World) (base : Nat) (v0 v1 v2 v3 : Value) (h0 : Value.okWide Tryz.prog W .any base 3 v0) (h1 : Value.okWide Tryz.prog W .any base 3 v1) (h2 : Value.okWide Tryz.prog W .any base 3 v2) (h3 : Value.okWide Tryz.prog W .any base 4 v3) :
    Calls Tryz.prog 3 #[v0, v1, v2, v3] W (TrueBelow W) := by
  obtain ⟨n, rfl, hn⟩ := int_arg h0
  obtain ⟨off, rfl, ho⟩ := int_arg h1
  obtain ⟨on, rfl, hp⟩ := int_arg h2
  obtain ⟨b, rfl⟩ := bool_arg h3
  exact hs_any n off on b hn ho hp W
end Go.Proofs.YtjpkfdmjhgnmbaaGreat
