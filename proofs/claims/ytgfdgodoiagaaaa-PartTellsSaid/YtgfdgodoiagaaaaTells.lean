/- complinelaw23.PartTells returns true, for every input. -/
import Derived.Test.YtgfdgodoiagaaaaSteps
import Derived.Test.YtgfdgodoiagaaaaGvArgs
namespace Go.Proofs.Ytgfdgodoiagaaaa
open Go.RowKit Gv
def tA : V := .agg (opqs 0 8)
def tI (k : Nat) (b : Bool) : V := .agg (opqs k 14 ++ .bool b :: opqs (k + 15) 6)
def tArgs (x y : Bool) : List V := [tA, .opq 50, .opq 51, .opq 52, tI 8 x, tI 29 y]
noncomputable def hkT3 (b : Bool) : Nat → Option (Gv.Call → List V → H → RV) := hkT [⟨6, [], .bool true⟩, ⟨7, [tA, .opq 50, .opq 52], .bool b⟩, ⟨8, [tA, .opq 50, .opq 52], .bool b⟩, ⟨9, [tA, .opq 50, .opq 51], .sint .i64 0 [(0, 1)]⟩, ⟨10, [tA, .opq 50, .opq 51], .sint .i64 0 [(0, 1)]⟩]
theorem te1 : (callN (evE Try.prog (hkT3 true) [(-9223372036854775808, big)] [] []) 100 3 (tArgs true true) H0).isTrue = true := by kernel_rfl
theorem te2 : (callN (evE Try.prog (hkT3 true) [(-9223372036854775808, big)] [] []) 100 3 (tArgs true false) H0).isTrue = true := by kernel_rfl
theorem te3 : (callN (evE Try.prog (hkT3 true) [(-9223372036854775808, big)] [] []) 100 3 (tArgs false true) H0).isTrue = true := by kernel_rfl
theorem te4 : (callN (evE Try.prog (hkT3 true) [(-9223372036854775808, big)] [] []) 100 3 (tArgs false false) H0).isTrue = true := by kernel_rfl
theorem te5 : (callN (evE Try.prog (hkT3 false) [(-9223372036854775808, big)] [] []) 100 3 (tArgs true true) H0).isTrue = true := by kernel_rfl
theorem te6 : (callN (evE Try.prog (hkT3 false) [(-9223372036854775808, big)] [] []) 100 3 (tArgs true false) H0).isTrue = true := by kernel_rfl
theorem te7 : (callN (evE Try.prog (hkT3 false) [(-9223372036854775808, big)] [] []) 100 3 (tArgs false true) H0).isTrue = true := by kernel_rfl
theorem te8 : (callN (evE Try.prog (hkT3 false) [(-9223372036854775808, big)] [] []) 100 3 (tArgs false false) H0).isTrue = true := by kernel_rfl
theorem te (b x y : Bool) : (callN (evE Try.prog (hkT3 b) [(-9223372036854775808, big)] [] []) 100 3 (tArgs x y) H0).isTrue = true := by
  cases b <;> cases x <;> cases y <;> first | exact te1 | exact te2 | exact te3 | exact te4 | exact te5 | exact te6 | exact te7 | exact te8
theorem mostB_in {u l left free : Int} (hleft : -9223372036854775808 ≤ left ∧ left ≤ 9223372036854775807) (hfree : -9223372036854775808 ≤ free ∧ free ≤ 9223372036854775807) : -9223372036854775808 ≤ mostB u l left free ∧ mostB u l left free ≤ 9223372036854775807 := by
  unfold mostB
  split
  · omega
  split
  · omega
  split
  · omega
  split
  · rename_i h1 h2 h3 _
    have h4 : mostQ l left free ≤ free := by unfold mostQ; split <;> omega
    have h5 := Int.emod_nonneg (mostQ l left free) (show u ≠ 0 by omega)
    have h6 := emod_le' (a := mostQ l left free) (u := u) h3 (by omega)
    omega
  · omega
theorem ct23 : Try.prog.cellTypes Try.prog.depth 23 = some [9, 4, 4, 3, 3, 3, 3, 3] := by kernel_rfl
theorem cn23 : Try.prog.cellsOf 23 = 8 := by kernel_rfl
theorem ct27 : Try.prog.cellTypes Try.prog.depth 27 = some [3, 9, 9, 9, 9, 4, 9, 9, 9, 3, 3, 3, 3, 3, 4, 4, 4, 3, 3, 3, 3] := by kernel_rfl
theorem cn27 : Try.prog.cellsOf 27 = 21 := by kernel_rfl
theorem inst_cells {W : World} {base : Nat} {v : Value} (h : Value.okWide Try.prog W .any base 27 v) : ∃ (xs : List Value) (b : Bool), v = .agg xs.toArray ∧ xs.length = 21 ∧ xs[14]? = some (.bool b) ∧ xs.all (·.oneCell') = true := by
  obtain ⟨xs, rfl, hl, hc⟩ := agg_cells Try.underlying27 ct27 cn27.symm h
  have hl' : xs.length = 21 := hl
  obtain ⟨b, hb⟩ := cell_bool Try.underlying4 (hc 14 4 xs[14] rfl (by simp [hl']))
  exact ⟨xs, b, rfl, hl', by simp [hl', hb], cells_one hl hc⟩
theorem asset_cells {W : World} {base : Nat} {v : Value} (h : Value.okWide Try.prog W .any base 23 v) : ∃ nm c p u l pr cu cl, v = assetV nm c p u l pr cu cl ∧ (-9223372036854775808 ≤ u ∧ u ≤ 9223372036854775807) ∧ (-9223372036854775808 ≤ l ∧ l ≤ 9223372036854775807) := by
  obtain ⟨xs, rfl, hl, hc⟩ := agg_cells Try.underlying23 ct23 cn23.symm h
  match xs, hl with
  | [x0, x1, x2, x3, x4, x5, x6, x7], _ =>
    obtain ⟨nm, rfl⟩ := cell_string Try.underlying9 (hc 0 9 x0 rfl rfl)
    obtain ⟨c, rfl⟩ := cell_bool Try.underlying4 (hc 1 4 x1 rfl rfl)
    obtain ⟨p, rfl⟩ := cell_bool Try.underlying4 (hc 2 4 x2 rfl rfl)
    obtain ⟨u, rfl, hu⟩ := cell_int Try.underlying3 (hc 3 3 x3 rfl rfl)
    obtain ⟨l, rfl, hl⟩ := cell_int Try.underlying3 (hc 4 3 x4 rfl rfl)
    obtain ⟨pr, rfl, _⟩ := cell_int Try.underlying3 (hc 5 3 x5 rfl rfl)
    obtain ⟨cu, rfl, _⟩ := cell_int Try.underlying3 (hc 6 3 x6 rfl rfl)
    obtain ⟨cl, rfl, _⟩ := cell_int Try.underlying3 (hc 7 3 x7 rfl rfl)
    exact ⟨nm, c, p, u, l, pr, cu, cl, rfl, hu, hl⟩
theorem int_arg {W : World} {base : Nat} {v : Value} (h : Value.okWide Try.prog W .any base 3 v) : ∃ n, v = .int .i64 n ∧ -9223372036854775808 ≤ n ∧ n ≤ 9223372036854775807 := by
  unfold Value.okWide at h
  rw [Try.underlying3] at h
  exact cell_int Try.underlying3 h
section
variable (nm : ByteArray) (c p : Bool) (u l pr cu cl left free qty m : Int) (xs ys : List Value)
def tE : List Value := [.string nm, .bool c, .bool p, .int .i64 u, .int .i64 l, .int .i64 pr, .int .i64 cu, .int .i64 cl] ++ (xs ++ (ys ++ [.int .i64 left, .int .i64 free, .int .i64 qty]))
theorem tE_one (hx : xs.all (·.oneCell') = true) (hy : ys.all (·.oneCell') = true) : (tE nm c p u l pr cu cl left free qty xs ys).all (·.oneCell') = true := by
  simp only [tE, List.all_append, hx, hy, Bool.true_and]
  rfl
variable (hx : xs.all (·.oneCell') = true) (hy : ys.all (·.oneCell') = true) (hxl : xs.length = 21) (hyl : ys.length = 21)
def ghT : Gh := mkGh (tE nm c p u l pr cu cl left free qty xs ys) [m] (tE_one nm c p u l pr cu cl left free qty xs ys hx hy)
theorem eps (i : Nat) (x : Value) (h : (tE nm c p u l pr cu cl left free qty xs ys)[i]? = some x) : (ghT nm c p u l pr cu cl left free qty m xs ys hx hy).ε i = x := by
  show (tE nm c p u l pr cu cl left free qty xs ys).getD i _ = x
  rw [List.getD_eq_getElem?_getD, h]
  rfl
include hxl hyl in
theorem tA_ok (φ : Mp) : conc (ghT nm c p u l pr cu cl left free qty m xs ys hx hy) φ tA = some (assetV nm c p u l pr cu cl) := by
  have h := opqs_ok (G := ghT nm c p u l pr cu cl left free qty m xs ys hx hy) (φ := φ) (e := tE nm c p u l pr cu cl left free qty xs ys) 8 0 (by simp [tE, hxl, hyl]) (eps nm c p u l pr cu cl left free qty m xs ys hx hy)
  rw [tA, conc, h]
  rfl
include hxl hyl in
theorem opq_ok (φ : Mp) (i : Nat) (x : Value) (h : [Value.int .i64 left, .int .i64 free, .int .i64 qty][i]? = some x) : conc (ghT nm c p u l pr cu cl left free qty m xs ys hx hy) φ (.opq (50 + i)) = some x := by
  rw [conc, eps nm c p u l pr cu cl left free qty m xs ys hx hy (50 + i) x]
  rw [tE, List.getElem?_append_right (by simp; omega), List.getElem?_append_right (by simp [hxl]; omega), List.getElem?_append_right (by simp [hxl, hyl]; omega)]
  simp only [List.length_cons, List.length_nil, hxl, hyl]
  rw [show 50 + i - (0 + 1 + 1 + 1 + 1 + 1 + 1 + 1 + 1) - 21 - 21 = i from by omega]
  exact h
theorem inst_ok (φ : Mp) (zs pre post : List Value) (b : Bool) (k : Nat) (hk : pre.length = k) (hz : zs.length = 21) (hb : zs[14]? = some (.bool b)) (he : tE nm c p u l pr cu cl left free qty xs ys = pre ++ (zs ++ post)) :
    conc (ghT nm c p u l pr cu cl left free qty m xs ys hx hy) φ (tI k b) = some (.agg zs.toArray) := by
  have hlen : (tE nm c p u l pr cu cl left free qty xs ys).length = k + (21 + post.length) := by rw [he]; simp [hk, hz]
  have h1 := opqs_ok (G := ghT nm c p u l pr cu cl left free qty m xs ys hx hy) (φ := φ) (e := tE nm c p u l pr cu cl left free qty xs ys) 14 k (by omega) (eps nm c p u l pr cu cl left free qty m xs ys hx hy)
  have h2 := opqs_ok (G := ghT nm c p u l pr cu cl left free qty m xs ys hx hy) (φ := φ) (e := tE nm c p u l pr cu cl left free qty xs ys) 6 (k + 15) (by omega) (eps nm c p u l pr cu cl left free qty m xs ys hx hy)
  have hd : (tE nm c p u l pr cu cl left free qty xs ys).drop k = zs ++ post := by rw [he, ← hk]; simp
  have hd2 : (tE nm c p u l pr cu cl left free qty xs ys).drop (k + 15) = zs.drop 15 ++ post := by rw [← List.drop_drop, hd, List.drop_append_of_le_length (by omega)]
  rw [hd, List.take_append_of_le_length (by omega)] at h1
  rw [hd2, List.take_append_of_le_length (by simp; omega), List.take_of_length_le (by simp; omega)] at h2
  have h3 : concL (ghT nm c p u l pr cu cl left free qty m xs ys hx hy) φ (.bool b :: opqs (k + 15) 6) = some (.bool b :: zs.drop 15) := concL_cons.2 ⟨_, _, by rw [conc], h2, rfl⟩
  rw [tI, conc, concL_append h1 h3]
  have : zs.take 14 ++ .bool b :: zs.drop 15 = zs := by
    have h14 : 14 < zs.length := by omega
    have hb' : zs[14] = .bool b := by simpa [h14] using hb
    rw [← hb', ← List.drop_eq_getElem_cons h14, List.take_append_drop]
  rw [this]
end
theorem walk (W : World) (base : Nat) (v0 v1 v2 v3 v4 v5 : Value) (h0 : Value.okWide Try.prog W .any base 23 v0) (h1 : Value.okWide Try.prog W .any base 3 v1) (h2 : Value.okWide Try.prog W .any base 3 v2) (h3 : Value.okWide Try.prog W .any base 3 v3)
    (h4 : Value.okWide Try.prog W .any base 27 v4) (h5 : Value.okWide Try.prog W .any base 27 v5) : Calls Try.prog 3 #[v0, v1, v2, v3, v4, v5] W (TrueBelow W) := by
  obtain ⟨nm, c, p, u, l, pr, cu, cl, rfl, hu, hl⟩ := asset_cells h0
  obtain ⟨left, rfl, hleft⟩ := int_arg h1
  obtain ⟨free, rfl, hfree⟩ := int_arg h2
  obtain ⟨qty, rfl, hqty⟩ := int_arg h3
  obtain ⟨xs, bx, rfl, hxl, hxb, hx⟩ := inst_cells h4
  obtain ⟨ys, by', rfl, hyl, hyb, hy⟩ := inst_cells h5
  have hA := tA_ok nm c p u l pr cu cl left free qty (mostB u l left free) xs ys hx hy hxl hyl
  have hO := opq_ok nm c p u l pr cu cl left free qty (mostB u l left free) xs ys hx hy hxl hyl
  have hargs : concL (ghT nm c p u l pr cu cl left free qty (mostB u l left free) xs ys hx hy) (fun _ => none) (tArgs bx by') = some [assetV nm c p u l pr cu cl, .int .i64 left, .int .i64 free, .int .i64 qty, .agg xs.toArray, .agg ys.toArray] := by
    have hI := inst_ok nm c p u l pr cu cl left free qty (mostB u l left free) xs ys hx hy (fun _ => none) xs [.string nm, .bool c, .bool p, .int .i64 u, .int .i64 l, .int .i64 pr, .int .i64 cu, .int .i64 cl] (ys ++ [.int .i64 left, .int .i64 free, .int .i64 qty]) bx 8 rfl hxl hxb rfl
    have hJ := inst_ok nm c p u l pr cu cl left free qty (mostB u l left free) xs ys hx hy (fun _ => none) ys ([.string nm, .bool c, .bool p, .int .i64 u, .int .i64 l, .int .i64 pr, .int .i64 cu, .int .i64 cl] ++ xs) [.int .i64 left, .int .i64 free, .int .i64 qty] by' 29 (by simp [hxl]) hyl hyb (by simp [tE])
    exact concL_cons.2 ⟨_, _, hA _, concL_cons.2 ⟨_, _, hO _ 0 _ rfl, concL_cons.2 ⟨_, _, hO _ 1 _ rfl, concL_cons.2 ⟨_, _, hO _ 2 _ rfl, concL_cons.2 ⟨_, _, hI, concL_cons.2 ⟨_, _, hJ, concL_nil, rfl⟩, rfl⟩, rfl⟩, rfl⟩, rfl⟩, rfl⟩
  have hF : ∀ φ, concL (ghT nm c p u l pr cu cl left free qty (mostB u l left free) xs ys hx hy) φ [tA, .opq 50, .opq 52] = some [assetV nm c p u l pr cu cl, .int .i64 left, .int .i64 qty] := fun φ =>
    concL_cons.2 ⟨_, _, hA _, concL_cons.2 ⟨_, _, hO _ 0 _ rfl, concL_cons.2 ⟨_, _, hO _ 2 _ rfl, concL_nil, rfl⟩, rfl⟩, rfl⟩
  have hM : ∀ φ, concL (ghT nm c p u l pr cu cl left free qty (mostB u l left free) xs ys hx hy) φ [tA, .opq 50, .opq 51] = some [assetV nm c p u l pr cu cl, .int .i64 left, .int .i64 free] := fun φ =>
    concL_cons.2 ⟨_, _, hA _, concL_cons.2 ⟨_, _, hO _ 0 _ rfl, concL_cons.2 ⟨_, _, hO _ 1 _ rfl, concL_nil, rfl⟩, rfl⟩, rfl⟩
  have hV : ∀ φ, conc (ghT nm c p u l pr cu cl left free qty (mostB u l left free) xs ys hx hy) φ (.sint .i64 0 [(0, 1)]) = some (.int .i64 (mostB u l left free)) := fun φ => by
    rw [conc]
    simp [den, ghT, mkGh]
  have hmr : -9223372036854775808 ≤ mostB u l left free ∧ mostB u l left free ≤ 9223372036854775807 := mostB_in hleft hfree
  refine run_true (G := ghT nm c p u l pr cu cl left free qty (mostB u l left free) xs ys hx hy) (bd := [(-9223372036854775808, big)]) (nl := []) (ge := []) progOk ⟨⟨by simp [ghT, mkGh, big]; omega, trivial⟩, trivial, trivial⟩ (hkT_ok progOk _ fun t ht => ?_) Try.func3 rfl hargs (te (fitsB u l left qty) bx by') W
  simp at ht
  rcases ht with rfl | rfl | rfl | rfl | rfl
  · exact alive_ok _
  · refine ⟨⟨_, _, Try.func7, rfl⟩, fun φ ul hul w => ?_⟩
    rw [hF] at hul; cases hul
    refine (fits_any nm c p u l pr cu cl left qty w hleft.2).mono ?_
    rintro e w' ⟨rfl, hb⟩
    exact ⟨_, fun ψ => by rw [conc], rfl, hb⟩
  · refine ⟨⟨_, _, Try.func8, rfl⟩, fun φ ul hul w => ?_⟩
    rw [hF] at hul; cases hul
    refine (rfits_any nm c p u l pr cu cl left qty w hleft.2).mono ?_
    rintro e w' ⟨rfl, hb⟩
    exact ⟨_, fun ψ => by rw [conc], rfl, hb⟩
  · refine ⟨⟨_, _, Try.func9, rfl⟩, fun φ ul hul w => ?_⟩
    rw [hM] at hul; cases hul
    refine (most_any nm c p u l pr cu cl left free w hleft hfree hl).mono ?_
    rintro e w' ⟨rfl, hb⟩
    exact ⟨_, hV, rfl, hb⟩
  · refine ⟨⟨_, _, Try.func10, rfl⟩, fun φ ul hul w => ?_⟩
    rw [hM] at hul; cases hul
    refine (rmost_any nm c p u l pr cu cl left free w hu hl hleft hfree).mono ?_
    rintro e w' ⟨rfl, hb⟩
    exact ⟨_, hV, rfl, hb⟩
end Go.Proofs.Ytgfdgodoiagaaaa
