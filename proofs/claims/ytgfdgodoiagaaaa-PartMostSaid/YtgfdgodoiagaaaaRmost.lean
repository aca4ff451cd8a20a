/- Contract of complineref22.Most: it returns mostB of the asset's unit and least, left and free, for every input. -/
import Derived.Test.YtgfdgodoiagaaaaRun
namespace Go.Proofs.Ytgfdgodoiagaaaa
open Go.RowKit Gv
def aV : V := .agg [.opq 0, .opq 1, .opq 2, .sint .i64 0 [(0, 1)], .sint .i64 0 [(1, 1)], .opq 3, .opq 4, .opq 5]
def mArgs : List V := [aV, .sint .i64 0 [(2, 1)], .sint .i64 0 [(3, 1)]]
def big : Int := 9223372036854775807
def bdA : List (Int × Int) := [(-9223372036854775808, big), (-9223372036854775808, big), (-9223372036854775808, big), (-9223372036854775808, big), (0, big)]
def qA : LF := (0, [(3, 1)])
def qB : LF := (0, [(2, 1), (1, -1)])
def ge5 : List LF := [(-1, [(2, 1)]), (-1, [(3, 1)]), (-1, [(2, 1), (3, -1)]), (-1, [(0, 1)])]
noncomputable def hF (a : List (Nat × Int)) (b : Bool) : Nat → Option (Gv.Call → List V → H → RV) := hkT [⟨8, [aV, .sint .i64 0 [(2, 1)], .sint .i64 0 a], .bool b⟩]
theorem rm1 : ((callN (evE Try.prog (fun _ => none) bdA [(0, [(2, -1)])] []) 100 10 mArgs H0).isV (.int .i64 0)) = true := by kernel_rfl
theorem rm2 : ((callN (evE Try.prog (fun _ => none) bdA [(-1, [(2, 1)]), (0, [(3, -1)])] []) 100 10 mArgs H0).isV (.int .i64 0)) = true := by kernel_rfl
theorem rm3 : ((callN (evE Try.prog (fun _ => none) bdA [(-1, [(2, 1)]), (-1, [(3, 1)]), (0, [(3, 1), (2, -1)])] []) 100 10 mArgs H0).isV (.sint .i64 0 [(2, 1)])) = true := by kernel_rfl
theorem rm4 : ((callN (evE Try.prog (fun _ => none) bdA [(-1, [(2, 1)]), (-1, [(3, 1)]), (-1, [(2, 1), (3, -1)]), (0, [(0, -1)])] []) 100 10 mArgs H0).isV (.int .i64 0)) = true := by kernel_rfl
theorem rm5t : ((callN (evE Try.prog (hF [(3, 1), (4, -1)] true) bdA ((0, [(1, -1)]) :: ge5) [⟨2, .i64, qA, (0, [(0, 1)]), 4⟩]) 100 10 mArgs H0).isV (.sint .i64 0 [(3, 1), (4, -1)])) = true := by kernel_rfl
theorem rm5f : ((callN (evE Try.prog (hF [(3, 1), (4, -1)] false) bdA ((0, [(1, -1)]) :: ge5) [⟨2, .i64, qA, (0, [(0, 1)]), 4⟩]) 100 10 mArgs H0).isV (.int .i64 0)) = true := by kernel_rfl
theorem rm6t : ((callN (evE Try.prog (hF [(3, 1), (4, -1)] true) bdA ((-1, [(1, 1)]) :: (0, [(2, 1), (3, -1), (1, -1)]) :: ge5) [⟨2, .i64, qA, (0, [(0, 1)]), 4⟩]) 100 10 mArgs H0).isV (.sint .i64 0 [(3, 1), (4, -1)])) = true := by kernel_rfl
theorem rm6f : ((callN (evE Try.prog (hF [(3, 1), (4, -1)] false) bdA ((-1, [(1, 1)]) :: (0, [(2, 1), (3, -1), (1, -1)]) :: ge5) [⟨2, .i64, qA, (0, [(0, 1)]), 4⟩]) 100 10 mArgs H0).isV (.int .i64 0)) = true := by kernel_rfl
theorem rm7 : ((callN (evE Try.prog (fun _ => none) bdA ((-1, [(1, 1)]) :: (-1, [(1, 1), (2, -1), (3, 1)]) :: (0, [(1, 1), (2, -1)]) :: ge5) []) 100 10 mArgs H0).isV (.int .i64 0)) = true := by kernel_rfl
def ge8 : List LF := (-1, [(1, 1)]) :: (-1, [(1, 1), (2, -1), (3, 1)]) :: (-1, [(2, 1), (1, -1)]) :: (0, [(2, 1), (1, -1), (4, -1)]) :: ge5
theorem rm8t : ((callN (evE Try.prog (hF [(2, 1), (1, -1), (4, -1)] true) bdA ge8 [⟨2, .i64, qB, (0, [(0, 1)]), 4⟩]) 100 10 mArgs H0).isV (.sint .i64 0 [(2, 1), (1, -1), (4, -1)])) = true := by kernel_rfl
theorem rm8f : ((callN (evE Try.prog (hF [(2, 1), (1, -1), (4, -1)] false) bdA ge8 [⟨2, .i64, qB, (0, [(0, 1)]), 4⟩]) 100 10 mArgs H0).isV (.int .i64 0)) = true := by kernel_rfl

section
variable (nm : ByteArray) (c p : Bool) (u l pr cu cl left free r : Int)
def ghA : Gh := mkGh [.string nm, .bool c, .bool p, .int .i64 pr, .int .i64 cu, .int .i64 cl] [u, l, left, free, r] rfl
theorem mArgs_ok (φ : Mp) : concL (ghA nm c p u l pr cu cl left free r) φ mArgs = some [assetV nm c p u l pr cu cl, .int .i64 left, .int .i64 free] := by
  simp [mArgs, aV, concL, conc, den, ghA, mkGh]
theorem hF_ok (h1 : left ≤ 9223372036854775807) (a : List (Nat × Int)) (b : Bool) (hb : fitsB u l left (den (ghA nm c p u l pr cu cl left free r).σ a) = b) : HooksOk Try.prog (ghA nm c p u l pr cu cl left free r) (hF a b) := by
  refine hkT_ok progOk _ fun t ht => ?_
  simp at ht
  subst ht
  refine ⟨⟨_, _, Try.func8, rfl⟩, fun φ ul hl w => ?_⟩
  have : concL (ghA nm c p u l pr cu cl left free r) φ [aV, .sint .i64 0 [(2, 1)], .sint .i64 0 a] = some [assetV nm c p u l pr cu cl, .int .i64 left, .int .i64 (den (ghA nm c p u l pr cu cl left free r).σ a)] := by
    simp [aV, concL, conc, den, ghA, mkGh]
  rw [this] at hl
  cases hl
  refine (rfits_any nm c p u l pr cu cl left _ w h1).mono ?_
  rintro e w' ⟨rfl, hB⟩
  exact ⟨.bool b, fun ψ => by rw [conc], by rw [hb], hB⟩
theorem bdA_ok (hu : -9223372036854775808 ≤ u ∧ u ≤ 9223372036854775807) (hl : -9223372036854775808 ≤ l ∧ l ≤ 9223372036854775807) (hleft : -9223372036854775808 ≤ left ∧ left ≤ 9223372036854775807) (hfree : -9223372036854775808 ≤ free ∧ free ≤ 9223372036854775807) (hr : 0 ≤ r ∧ r ≤ 9223372036854775807) :
    bdOk (ghA nm c p u l pr cu cl left free r).σ bdA 0 := by
  simp [bdOk, bdA, big, ghA, mkGh]
  omega
theorem nlA (q : LF) (x : Int) (hq : q.1 + den (ghA nm c p u l pr cu cl left free r).σ q.2 = x) (hx : 0 ≤ x) (hu : 0 < u) (hr : r = x % u) : nlOk (ghA nm c p u l pr cu cl left free r) [⟨2, .i64, q, (0, [(0, 1)]), 4⟩] := by
  refine ⟨.inr (.inr ⟨rfl, ?_, ?_⟩), trivial⟩
  · simp [den, ghA, mkGh]; omega
  · dsimp only
    rw [hq, Int.tmod_eq_emod_of_nonneg hx]
    simp [den, ghA, mkGh, hr]
variable (w : World)
theorem rmost_any (hu : -9223372036854775808 ≤ u ∧ u ≤ 9223372036854775807) (hl : -9223372036854775808 ≤ l ∧ l ≤ 9223372036854775807) (hleft : -9223372036854775808 ≤ left ∧ left ≤ 9223372036854775807) (hfree : -9223372036854775808 ≤ free ∧ free ≤ 9223372036854775807) :
    Calls Try.prog 10 #[assetV nm c p u l pr cu cl, .int .i64 left, .int .i64 free] w (IntPost (mostB u l left free) w) := by
  have fin : ∀ {v : V} {hk ge nl}, ((callN (evE Try.prog hk bdA ge nl) 100 10 mArgs H0).isV v) = true → ∀ (r x : Int), 0 ≤ r ∧ r ≤ 9223372036854775807 → HooksOk Try.prog (ghA nm c p u l pr cu cl left free r) hk → geOk (ghA nm c p u l pr cu cl left free r).σ ge → nlOk (ghA nm c p u l pr cu cl left free r) nl →
      (∀ φ, conc (ghA nm c p u l pr cu cl left free r) φ v = some (.int .i64 x)) → mostB u l left free = x →
      Calls Try.prog 10 #[assetV nm c p u l pr cu cl, .int .i64 left, .int .i64 free] w (IntPost (mostB u l left free) w) := by
    intro v hk ge nl hrun r x hr hh hge hnl hv hx
    refine (run_val progOk ⟨bdA_ok nm c p u l pr cu cl left free r hu hl hleft hfree hr, hge, hnl⟩ hh Try.func10 rfl (mArgs_ok nm c p u l pr cu cl left free r _) hrun hv w).mono ?_
    rintro e w' ⟨rfl, hB⟩
    exact ⟨by rw [hx], hB⟩
  by_cases h1 : left < 1
  · exact fin rm1 0 0 (by omega) noHooks ⟨by simp [den, ghA, mkGh]; omega, trivial⟩ trivial (fun φ => by rw [conc]) (by unfold mostB; split <;> (try split) <;> omega)
  by_cases h2 : free < 1
  · exact fin rm2 0 0 (by omega) noHooks ⟨by simp [den, ghA, mkGh]; omega, by simp [den, ghA, mkGh]; omega, trivial⟩ trivial (fun φ => by rw [conc]) (by unfold mostB; rw [if_neg (by omega), if_pos (by omega)])
  by_cases h3 : left ≤ free
  · exact fin rm3 0 left (by omega) noHooks ⟨by simp [den, ghA, mkGh]; omega, by simp [den, ghA, mkGh]; omega, by simp [den, ghA, mkGh]; omega, trivial⟩ trivial (fun φ => by rw [conc]; simp [den, ghA, mkGh]) (by unfold mostB; rw [if_pos h3]; omega)
  by_cases h4 : u < 1
  · exact fin rm4 0 0 (by omega) noHooks ⟨by simp [den, ghA, mkGh]; omega, by simp [den, ghA, mkGh]; omega, by simp [den, ghA, mkGh]; omega, by simp [den, ghA, mkGh]; omega, trivial⟩ trivial (fun φ => by rw [conc]) (by unfold mostB; rw [if_neg h3, if_pos (by omega)])
  have g5 : ∀ r, geOk (ghA nm c p u l pr cu cl left free r).σ ge5 := fun r => ⟨by simp [den, ghA, mkGh]; omega, by simp [den, ghA, mkGh]; omega, by simp [den, ghA, mkGh]; omega, by simp [den, ghA, mkGh]; omega, trivial⟩
  have dA : ∀ r, den (ghA nm c p u l pr cu cl left free r).σ [(3, 1), (4, -1)] = free - r := fun r => by simp [den, ghA, mkGh]; omega
  have dB : ∀ r, den (ghA nm c p u l pr cu cl left free r).σ [(2, 1), (1, -1), (4, -1)] = left - l - r := fun r => by simp [den, ghA, mkGh]; omega
  have tail : ∀ q, mostQ l left free = q → 1 ≤ q → mostB u l left free = if fitsB u l left (q - q % u) then q - q % u else 0 := by
    intro q hq hq1
    rw [most_tail u l left free q hq (by omega) (by omega), if_neg (by omega)]
  have hr1 := Int.emod_nonneg free (show u ≠ 0 by omega)
  have hr2 := emod_le' (a := free) (u := u) (by omega) (by omega)
  by_cases h5 : l < 1
  · have hq : mostQ l left free = free := by unfold mostQ; rw [if_neg (by omega)]
    have ht := tail free hq (by omega)
    have hnl := nlA nm c p u l pr cu cl left free (free % u) qA free (by simp [den, ghA, mkGh, qA]) (by omega) (by omega) rfl
    cases hb : fitsB u l left (free - free % u) with
    | true => exact fin rm5t _ (free - free % u) (by omega) (hF_ok nm c p u l pr cu cl left free _ (by omega) _ true (by rw [dA]; exact hb)) ⟨by simp [den, ghA, mkGh]; omega, g5 _⟩ hnl (fun φ => by rw [conc, dA]; simp) (by rw [ht, hb]; rfl)
    | false => exact fin rm5f _ 0 (by omega) (hF_ok nm c p u l pr cu cl left free _ (by omega) _ false (by rw [dA]; exact hb)) ⟨by simp [den, ghA, mkGh]; omega, g5 _⟩ hnl (fun φ => by rw [conc]) (by rw [ht, hb]; rfl)
  by_cases h6 : l ≤ left - free
  · have hq : mostQ l left free = free := by unfold mostQ; rw [if_pos (by omega)]; omega
    have ht := tail free hq (by omega)
    have hnl := nlA nm c p u l pr cu cl left free (free % u) qA free (by simp [den, ghA, mkGh, qA]) (by omega) (by omega) rfl
    cases hb : fitsB u l left (free - free % u) with
    | true => exact fin rm6t _ (free - free % u) (by omega) (hF_ok nm c p u l pr cu cl left free _ (by omega) _ true (by rw [dA]; exact hb)) ⟨by simp [den, ghA, mkGh]; omega, by simp [den, ghA, mkGh]; omega, g5 _⟩ hnl (fun φ => by rw [conc, dA]; simp) (by rw [ht, hb]; rfl)
    | false => exact fin rm6f _ 0 (by omega) (hF_ok nm c p u l pr cu cl left free _ (by omega) _ false (by rw [dA]; exact hb)) ⟨by simp [den, ghA, mkGh]; omega, by simp [den, ghA, mkGh]; omega, g5 _⟩ hnl (fun φ => by rw [conc]) (by rw [ht, hb]; rfl)
  have hq : mostQ l left free = left - l := by unfold mostQ; rw [if_pos (by omega)]; omega
  by_cases h7 : left ≤ l
  · exact fin rm7 0 0 (by omega) noHooks ⟨by simp [den, ghA, mkGh]; omega, by simp [den, ghA, mkGh]; omega, by simp [den, ghA, mkGh]; omega, g5 _⟩ trivial (fun φ => by rw [conc]) (by rw [most_tail u l left free _ hq (by omega) (by omega), if_pos (by omega)])
  have ht := tail _ hq (by omega)
  have hs1 := Int.emod_nonneg (left - l) (show u ≠ 0 by omega)
  have hs2 := emod_le' (a := left - l) (u := u) (by omega) (by omega)
  have hnl := nlA nm c p u l pr cu cl left free ((left - l) % u) qB (left - l) (by simp [den, ghA, mkGh, qB]; omega) (by omega) (by omega) rfl
  have g8 : geOk (ghA nm c p u l pr cu cl left free ((left - l) % u)).σ ge8 := ⟨by simp [den, ghA, mkGh]; omega, by simp [den, ghA, mkGh]; omega, by simp [den, ghA, mkGh]; omega, by simp [den, ghA, mkGh]; omega, g5 _⟩
  cases hb : fitsB u l left (left - l - (left - l) % u) with
  | true => exact fin rm8t _ (left - l - (left - l) % u) (by omega) (hF_ok nm c p u l pr cu cl left free _ (by omega) _ true (by rw [dB]; exact hb)) g8 hnl (fun φ => by rw [conc, dB]; simp) (by rw [ht, hb]; rfl)
  | false => exact fin rm8f _ 0 (by omega) (hF_ok nm c p u l pr cu cl left free _ (by omega) _ false (by rw [dB]; exact hb)) g8 hnl (fun φ => by rw [conc]) (by rw [ht, hb]; rfl)
end
end Go.Proofs.Ytgfdgodoiagaaaa
