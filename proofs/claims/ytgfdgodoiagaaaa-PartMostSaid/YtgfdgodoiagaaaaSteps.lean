/- complinelaw23.PartSteps returns true, for every input. -/
import Derived.Test.YtgfdgodoiagaaaaRmost
import Derived.Test.YtgfdgodoiagaaaaMath
namespace Go.Proofs.Ytgfdgodoiagaaaa
open Go.RowKit Gv
def sArgs : List V := [.sint .i64 0 [(0, 1)], .sint .i64 0 [(1, 1)], .sint .i64 0 [(2, 1)], .sint .i64 0 [(3, 1)], .sint .i64 0 [(4, 1)]]
def xV : V := .agg [.str 0 0, .bool false, .bool false, .sint .i64 0 [(0, 1)], .sint .i64 0 [(1, 1)], .int .i64 0, .int .i64 0, .int .i64 0]
def bdS : List (Int × Int) := [(-9223372036854775808, big), (-9223372036854775808, big), (-9223372036854775808, big), (-9223372036854775808, big), (-9223372036854775808, big), (0, big), (0, big)]
noncomputable def hkS : Nat → Option (Gv.Call → List V → H → RV) := hkT [⟨6, [], .bool true⟩, ⟨9, [xV, .sint .i64 0 [(2, 1)], .sint .i64 0 [(3, 1)]], .sint .i64 0 [(5, 1)]⟩, ⟨9, [xV, .sint .i64 0 [(2, 1)], .sint .i64 0 [(4, 1)]], .sint .i64 0 [(6, 1)]⟩,
  ⟨9, [xV, .sint .i64 0 [(2, 1)], .sint .i64 0 [(2, 1)]], .sint .i64 0 [(2, 1)]⟩, ⟨9, [xV, .sint .i64 0 [(2, 1)], .int .i64 0], .int .i64 0⟩,
  ⟨7, [xV, .sint .i64 0 [(2, 1)], .sint .i64 0 [(2, 1)]], .bool true⟩, ⟨7, [xV, .sint .i64 0 [(2, 1)], .int .i64 0], .bool false⟩, ⟨7, [xV, .sint .i64 0 [(2, 1)], .sint .i64 1 [(2, 1)]], .bool false⟩]
noncomputable def hkA : Nat → Option (Gv.Call → List V → H → RV) := hkT [⟨6, [], .bool true⟩]
/-- what holds where the first k tests say no -/
def noS : List LF := [(-1, [(0, 1)]), (1099511627776, [(0, -1)]), (-1, [(1, 1)]), (1099511627776, [(1, -1)]), (-1, [(2, 1)]), (1125899906842624, [(2, -1)]), (0, [(3, 1)]), (0, [(4, 1), (3, -1)]), (1125899906842624, [(4, -1)])]
theorem st0 : (callN (evE Try.prog hkA bdS [(0, [(0, -1)])] []) 100 5 sArgs H0).isTrue = true := by kernel_rfl
theorem st1 : (callN (evE Try.prog hkA bdS ((-1099511627777, [(0, 1)]) :: noS.take 1) []) 100 5 sArgs H0).isTrue = true := by kernel_rfl
theorem st2 : (callN (evE Try.prog hkA bdS ((0, [(1, -1)]) :: noS.take 2) []) 100 5 sArgs H0).isTrue = true := by kernel_rfl
theorem st3 : (callN (evE Try.prog hkA bdS ((-1099511627777, [(1, 1)]) :: noS.take 3) []) 100 5 sArgs H0).isTrue = true := by kernel_rfl
theorem st4 : (callN (evE Try.prog hkA bdS ((0, [(2, -1)]) :: noS.take 4) []) 100 5 sArgs H0).isTrue = true := by kernel_rfl
theorem st5 : (callN (evE Try.prog hkA bdS ((-1125899906842625, [(2, 1)]) :: noS.take 5) []) 100 5 sArgs H0).isTrue = true := by kernel_rfl
theorem st6 : (callN (evE Try.prog hkA bdS ((-1, [(3, -1)]) :: noS.take 6) []) 100 5 sArgs H0).isTrue = true := by kernel_rfl
theorem st7 : (callN (evE Try.prog hkA bdS ((-1, [(3, 1), (4, -1)]) :: noS.take 7) []) 100 5 sArgs H0).isTrue = true := by kernel_rfl
theorem st8 : (callN (evE Try.prog hkA bdS ((-1125899906842625, [(4, 1)]) :: noS.take 8) []) 100 5 sArgs H0).isTrue = true := by kernel_rfl
theorem st9 : (callN (evE Try.prog hkS bdS ((0, [(6, 1), (5, -1)]) :: noS) []) 100 5 sArgs H0).isTrue = true := by kernel_rfl
theorem alive_ok (G : Gh) : HTOk Try.prog G ⟨6, [], .bool true⟩ := by
  refine ⟨⟨_, _, Try.func6, rfl⟩, fun φ ul hl w => ?_⟩
  rw [concL_nil] at hl
  cases hl
  refine (alive_any w).mono ?_
  rintro e w' ⟨rfl, hb⟩
  exact ⟨.bool true, fun ψ => by rw [conc], rfl, hb⟩
section
variable (u l left a b p q : Int)
def ghS : Gh := mkGh [] [u, l, left, a, b, p, q] rfl
theorem sArgs_ok (φ : Mp) : concL (ghS u l left a b p q) φ sArgs = some [.int .i64 u, .int .i64 l, .int .i64 left, .int .i64 a, .int .i64 b] := by
  simp [sArgs, concL, conc, den, ghS, mkGh]
theorem xV_ok (φ : Mp) : conc (ghS u l left a b p q) φ xV = some (assetV ByteArray.empty false false u l 0 0 0) := by
  simp [xV, concL, conc, den, ghS, mkGh, strL]; rfl
theorem most_ok (f : V) (v : V) (x y : Int) (hf : ∀ φ, conc (ghS u l left a b p q) φ f = some (.int .i64 x)) (hv : ∀ φ, conc (ghS u l left a b p q) φ v = some (.int .i64 y)) (hy : mostB u l left x = y)
    (h1 : -9223372036854775808 ≤ left ∧ left ≤ 9223372036854775807) (h2 : -9223372036854775808 ≤ x ∧ x ≤ 9223372036854775807) (h3 : -9223372036854775808 ≤ l ∧ l ≤ 9223372036854775807) : HTOk Try.prog (ghS u l left a b p q) ⟨9, [xV, .sint .i64 0 [(2, 1)], f], v⟩ := by
  refine ⟨⟨_, _, Try.func9, rfl⟩, fun φ ul hl w => ?_⟩
  have : concL (ghS u l left a b p q) φ [xV, .sint .i64 0 [(2, 1)], f] = some [assetV ByteArray.empty false false u l 0 0 0, .int .i64 left, .int .i64 x] := by
    simp [concL, xV_ok, hf]
    simp [conc, den, ghS, mkGh]
  rw [this] at hl
  cases hl
  refine (most_any _ _ _ u l _ _ _ left x w h1 h2 h3).mono ?_
  rintro e w' ⟨rfl, hb⟩
  exact ⟨_, hv, by rw [hy], hb⟩
theorem fit_ok (f : V) (x : Int) (y : Bool) (hf : ∀ φ, conc (ghS u l left a b p q) φ f = some (.int .i64 x)) (hy : fitsB u l left x = y)
    (h1 : left ≤ 9223372036854775807) : HTOk Try.prog (ghS u l left a b p q) ⟨7, [xV, .sint .i64 0 [(2, 1)], f], .bool y⟩ := by
  refine ⟨⟨_, _, Try.func7, rfl⟩, fun φ ul hl w => ?_⟩
  have : concL (ghS u l left a b p q) φ [xV, .sint .i64 0 [(2, 1)], f] = some [assetV ByteArray.empty false false u l 0 0 0, .int .i64 left, .int .i64 x] := by
    simp [concL, xV_ok, hf]
    simp [conc, den, ghS, mkGh]
  rw [this] at hl
  cases hl
  refine (fits_any _ _ _ u l _ _ _ left x w h1).mono ?_
  rintro e w' ⟨rfl, hb⟩
  exact ⟨.bool y, fun ψ => by rw [conc], by rw [hy], hb⟩
theorem bdS_ok (hu : -9223372036854775808 ≤ u ∧ u ≤ 9223372036854775807) (hl : -9223372036854775808 ≤ l ∧ l ≤ 9223372036854775807) (hleft : -9223372036854775808 ≤ left ∧ left ≤ 9223372036854775807) (ha : -9223372036854775808 ≤ a ∧ a ≤ 9223372036854775807)
    (hb : -9223372036854775808 ≤ b ∧ b ≤ 9223372036854775807) (hp : 0 ≤ p ∧ p ≤ 9223372036854775807) (hq : 0 ≤ q ∧ q ≤ 9223372036854775807) : bdOk (ghS u l left a b p q).σ bdS 0 := by
  simp [bdOk, bdS, big, ghS, mkGh]
  omega
theorem steps_any (hu : -9223372036854775808 ≤ u ∧ u ≤ 9223372036854775807) (hl : -9223372036854775808 ≤ l ∧ l ≤ 9223372036854775807) (hleft : -9223372036854775808 ≤ left ∧ left ≤ 9223372036854775807) (ha : -9223372036854775808 ≤ a ∧ a ≤ 9223372036854775807)
    (hb : -9223372036854775808 ≤ b ∧ b ≤ 9223372036854775807) (w : World) : Calls Try.prog 5 #[.int .i64 u, .int .i64 l, .int .i64 left, .int .i64 a, .int .i64 b] w (TrueBelow w) := by
  have out : ∀ {ge}, (callN (evE Try.prog hkA bdS ge []) 100 5 sArgs H0).isTrue = true → geOk (ghS u l left a b 0 0).σ ge → Calls Try.prog 5 #[.int .i64 u, .int .i64 l, .int .i64 left, .int .i64 a, .int .i64 b] w (TrueBelow w) := by
    intro ge hrun hge
    exact run_true (nl := []) progOk ⟨bdS_ok u l left a b 0 0 hu hl hleft ha hb (by omega) (by omega), hge, trivial⟩ (hkT_ok progOk _ fun t ht => by simp at ht; subst ht; exact alive_ok _) Try.func5 rfl (sArgs_ok u l left a b 0 0 _) hrun w
  by_cases c0 : u < 1
  · exact out st0 (by simp [geOk, den, ghS, mkGh]; omega)
  by_cases c1 : 1099511627776 < u
  · exact out st1 (by simp [geOk, noS, den, ghS, mkGh]; omega)
  by_cases c2 : l < 1
  · exact out st2 (by simp [geOk, noS, den, ghS, mkGh]; omega)
  by_cases c3 : 1099511627776 < l
  · exact out st3 (by simp [geOk, noS, den, ghS, mkGh]; omega)
  by_cases c4 : left < 1
  · exact out st4 (by simp [geOk, noS, den, ghS, mkGh]; omega)
  by_cases c5 : 1125899906842624 < left
  · exact out st5 (by simp [geOk, noS, den, ghS, mkGh]; omega)
  by_cases c6 : a < 0
  · exact out st6 (by simp [geOk, noS, den, ghS, mkGh]; omega)
  by_cases c7 : b < a
  · exact out st7 (by simp [geOk, noS, den, ghS, mkGh]; omega)
  by_cases c8 : 1125899906842624 < b
  · exact out st8 (by simp [geOk, noS, den, ghS, mkGh]; omega)
  have hp := mostB_range (u := u) (l := l) (left := left) (a := a) (by omega) (by omega) (by omega) (by omega)
  have hq := mostB_range (u := u) (l := l) (left := left) (a := b) (by omega) (by omega) (by omega) (by omega)
  have hpq := mostB_mono (u := u) (l := l) (left := left) (a := a) (b := b) (by omega) (by omega) (by omega) (by omega) (by omega)
  refine run_true (nl := []) progOk ⟨bdS_ok u l left a b (mostB u l left a) (mostB u l left b) hu hl hleft ha hb (by omega) (by omega), by simp [geOk, noS, den, ghS, mkGh]; omega, trivial⟩ (hkT_ok progOk _ fun t ht => ?_) Try.func5 rfl (sArgs_ok u l left a b _ _ _) st9 w
  simp at ht
  rcases ht with rfl | rfl | rfl | rfl | rfl | rfl | rfl | rfl
  · exact alive_ok _
  · exact most_ok u l left a b _ _ _ _ a (mostB u l left a) (fun φ => by simp [conc, den, ghS, mkGh]) (fun φ => by simp [conc, den, ghS, mkGh]) rfl hleft ha hl
  · exact most_ok u l left a b _ _ _ _ b (mostB u l left b) (fun φ => by simp [conc, den, ghS, mkGh]) (fun φ => by simp [conc, den, ghS, mkGh]) rfl hleft hb hl
  · exact most_ok u l left a b _ _ _ _ left left (fun φ => by simp [conc, den, ghS, mkGh]) (fun φ => by simp [conc, den, ghS, mkGh]) (mostB_whole (by omega)) hleft hleft hl
  · exact most_ok u l left a b _ _ _ _ 0 0 (fun φ => by rw [conc]) (fun φ => by rw [conc]) (mostB_zero (by omega)) hleft (by omega) hl
  · exact fit_ok u l left a b _ _ _ left true (fun φ => by simp [conc, den, ghS, mkGh]) (fitsB_whole (by omega) rfl) hleft.2
  · exact fit_ok u l left a b _ _ _ 0 false (fun φ => by rw [conc]) (fitsB_no (.inl (by omega))) hleft.2
  · exact fit_ok u l left a b _ _ _ (left + 1) false (fun φ => by simp [conc, den, ghS, mkGh]; omega) (fitsB_no (.inr (by omega))) hleft.2
end
end Go.Proofs.Ytgfdgodoiagaaaa
