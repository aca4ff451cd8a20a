/- complinelaw23.PartMost returns true, for every input. -/
import Derived.Test.YtgfdgodoiagaaaaPm
namespace Go.Proofs.Ytgfdgodoiagaaaa
open Go.RowKit
open Gv
def pmArgs : List V := [.sint .i64 0 [(0, 1)], .sint .i64 0 [(1, 1)], .sint .i64 0 [(2, 1)], .sint .i64 0 [(3, 1)]]
def bdM : List (Int × Int) := [(-9223372036854775808, big), (-9223372036854775808, big), (-9223372036854775808, big), (-9223372036854775808, big)]
/-- what holds where the first k tests say no -/
def noM : List LF := [(-1, [(0, 1)]), (100, [(0, -1)]), (-1, [(1, 1)]), (1000, [(1, -1)]), (-1, [(2, 1)]), (3000, [(2, -1)]), (0, [(3, 1)]), (3000, [(3, -1)])]
theorem mt0 : (callN (evE Try.prog hkA bdM ((0, [(0, -1)]) :: noM.take 0) []) 100 4 pmArgs H0).isTrue = true := by kernel_rfl
theorem mt1 : (callN (evE Try.prog hkA bdM ((-101, [(0, 1)]) :: noM.take 1) []) 100 4 pmArgs H0).isTrue = true := by kernel_rfl
theorem mt2 : (callN (evE Try.prog hkA bdM ((0, [(1, -1)]) :: noM.take 2) []) 100 4 pmArgs H0).isTrue = true := by kernel_rfl
theorem mt3 : (callN (evE Try.prog hkA bdM ((-1001, [(1, 1)]) :: noM.take 3) []) 100 4 pmArgs H0).isTrue = true := by kernel_rfl
theorem mt4 : (callN (evE Try.prog hkA bdM ((0, [(2, -1)]) :: noM.take 4) []) 100 4 pmArgs H0).isTrue = true := by kernel_rfl
theorem mt5 : (callN (evE Try.prog hkA bdM ((-3001, [(2, 1)]) :: noM.take 5) []) 100 4 pmArgs H0).isTrue = true := by kernel_rfl
theorem mt6 : (callN (evE Try.prog hkA bdM ((-1, [(3, -1)]) :: noM.take 6) []) 100 4 pmArgs H0).isTrue = true := by kernel_rfl
theorem mt7 : (callN (evE Try.prog hkA bdM ((-3001, [(3, 1)]) :: noM.take 7) []) 100 4 pmArgs H0).isTrue = true := by kernel_rfl
section
variable (u l left free : Int)
def ghM : Gh := mkGh [] [u, l, left, free] rfl
theorem pmArgs_ok (φ : Mp) : concL (ghM u l left free) φ pmArgs = some [.int .i64 u, .int .i64 l, .int .i64 left, .int .i64 free] := by
  simp [pmArgs, concL, conc, den, ghM, mkGh]
theorem bdM_ok (h0 : -9223372036854775808 ≤ u ∧ u ≤ 9223372036854775807) (h1 : -9223372036854775808 ≤ l ∧ l ≤ 9223372036854775807) (h2 : -9223372036854775808 ≤ left ∧ left ≤ 9223372036854775807) (h3 : -9223372036854775808 ≤ free ∧ free ≤ 9223372036854775807) : bdOk (ghM u l left free).σ bdM 0 := by
  simp [bdOk, bdM, big, ghM, mkGh]
  omega
theorem pm_any (h0 : -9223372036854775808 ≤ u ∧ u ≤ 9223372036854775807) (h1 : -9223372036854775808 ≤ l ∧ l ≤ 9223372036854775807) (h2 : -9223372036854775808 ≤ left ∧ left ≤ 9223372036854775807) (h3 : -9223372036854775808 ≤ free ∧ free ≤ 9223372036854775807) (w : World) :
    Calls Try.prog 4 #[.int .i64 u, .int .i64 l, .int .i64 left, .int .i64 free] w (TrueBelow w) := by
  have out : ∀ {ge}, (callN (evE Try.prog hkA bdM ge []) 100 4 pmArgs H0).isTrue = true → geOk (ghM u l left free).σ ge → Calls Try.prog 4 #[.int .i64 u, .int .i64 l, .int .i64 left, .int .i64 free] w (TrueBelow w) := by
    intro ge hrun hge
    exact run_true (nl := []) progOk ⟨bdM_ok u l left free h0 h1 h2 h3, hge, trivial⟩ (hkT_ok progOk _ fun t ht => by simp at ht; subst ht; exact alive_ok _) Try.func4 rfl (pmArgs_ok u l left free _) hrun w
  by_cases c0 : u < 1
  · exact out mt0 (by simp [geOk, noM, den, ghM, mkGh]; omega)
  by_cases c1 : 100 < u
  · exact out mt1 (by simp [geOk, noM, den, ghM, mkGh]; omega)
  by_cases c2 : l < 1
  · exact out mt2 (by simp [geOk, noM, den, ghM, mkGh]; omega)
  by_cases c3 : 1000 < l
  · exact out mt3 (by simp [geOk, noM, den, ghM, mkGh]; omega)
  by_cases c4 : left < 1
  · exact out mt4 (by simp [geOk, noM, den, ghM, mkGh]; omega)
  by_cases c5 : 3000 < left
  · exact out mt5 (by simp [geOk, noM, den, ghM, mkGh]; omega)
  by_cases c6 : free < 0
  · exact out mt6 (by simp [geOk, noM, den, ghM, mkGh]; omega)
  by_cases c7 : 3000 < free
  · exact out mt7 (by simp [geOk, noM, den, ghM, mkGh]; omega)
  exact pm_in u l left free w (by omega) (by omega) (by omega) (by omega)
end
end Go.Proofs.Ytgfdgodoiagaaaa
