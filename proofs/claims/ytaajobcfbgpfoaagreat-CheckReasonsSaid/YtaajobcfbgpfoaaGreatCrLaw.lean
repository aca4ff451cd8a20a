/- complinelaw24.CheckReasons returns true, for every input. -/
import Derived.Test.YtaajobcfbgpfoaaGreatCrO
import Derived.Test.YtaajobcfbgpfoaaGreatCrIn
namespace Go.Proofs.YtaajobcfbgpfoaaGreat
open Go Go.RowKit Gv
set_option maxRecDepth 100000 in
set_option maxHeartbeats 4000000 in
theorem crMid (qty amount part s : Int) (w : World) (hT : HooksOk Tryz.prog (mkGh [] [qty, amount, part, s] rfl) (hkT crT)) (hI : bdOk (mkGh [] [qty, amount, part, s] rfl).σ crI 0) (hg : geOk (mkGh [] [qty, amount, part, s] rfl).σ [(0,[(0,1),(2,-1)]), (0,[(1,1),(3,-1)])]) : ∀ may held twice wrong blocked : Bool, Calls Tryz.prog 4 #[.int .i64 qty, .int .i64 amount, .int .i64 part, .bool may, .bool held, .bool twice, .bool wrong, .bool blocked] w (TrueBelow w)
  | false, false, false, false, false => cr_in0 qty amount part s w trivial hT hI hg
  | false, false, false, false, true => cr_in1 qty amount part s w trivial hT hI hg
  | false, false, false, true, false => cr_in2 qty amount part s w trivial hT hI hg
  | false, false, false, true, true => cr_in3 qty amount part s w trivial hT hI hg
  | false, false, true, false, false => cr_in4 qty amount part s w trivial hT hI hg
  | false, false, true, false, true => cr_in5 qty amount part s w trivial hT hI hg
  | false, false, true, true, false => cr_in6 qty amount part s w trivial hT hI hg
  | false, false, true, true, true => cr_in7 qty amount part s w trivial hT hI hg
  | false, true, false, false, false => cr_in8 qty amount part s w trivial hT hI hg
  | false, true, false, false, true => cr_in9 qty amount part s w trivial hT hI hg
  | false, true, false, true, false => cr_in10 qty amount part s w trivial hT hI hg
  | false, true, false, true, true => cr_in11 qty amount part s w trivial hT hI hg
  | false, true, true, false, false => cr_in12 qty amount part s w trivial hT hI hg
  | false, true, true, false, true => cr_in13 qty amount part s w trivial hT hI hg
  | false, true, true, true, false => cr_in14 qty amount part s w trivial hT hI hg
  | false, true, true, true, true => cr_in15 qty amount part s w trivial hT hI hg
  | true, false, false, false, false => cr_in16 qty amount part s w trivial hT hI hg
  | true, false, false, false, true => cr_in17 qty amount part s w trivial hT hI hg
  | true, false, false, true, false => cr_in18 qty amount part s w trivial hT hI hg
  | true, false, false, true, true => cr_in19 qty amount part s w trivial hT hI hg
  | true, false, true, false, false => cr_in20 qty amount part s w trivial hT hI hg
  | true, false, true, false, true => cr_in21 qty amount part s w trivial hT hI hg
  | true, false, true, true, false => cr_in22 qty amount part s w trivial hT hI hg
  | true, false, true, true, true => cr_in23 qty amount part s w trivial hT hI hg
  | true, true, false, false, false => cr_in24 qty amount part s w trivial hT hI hg
  | true, true, false, false, true => cr_in25 qty amount part s w trivial hT hI hg
  | true, true, false, true, false => cr_in26 qty amount part s w trivial hT hI hg
  | true, true, false, true, true => cr_in27 qty amount part s w trivial hT hI hg
  | true, true, true, false, false => cr_in28 qty amount part s w trivial hT hI hg
  | true, true, true, false, true => cr_in29 qty amount part s w trivial hT hI hg
  | true, true, true, true, false => cr_in30 qty amount part s w trivial hT hI hg
  | true, true, true, true, true => cr_in31 qty amount part s w trivial hT hI hg
set_option maxRecDepth 100000 in
set_option maxHeartbeats 4000000 in
theorem crAll (qty amount part : Int) (may held twice wrong blocked : Bool) (h0 : -9223372036854775808 ≤ qty ∧ qty ≤ 9223372036854775807) (h1 : -9223372036854775808 ≤ amount ∧ amount ≤ 9223372036854775807) (h2 : -9223372036854775808 ≤ part ∧ part ≤ 9223372036854775807) (w : World) : Calls Tryz.prog 4 #[.int .i64 qty, .int .i64 amount, .int .i64 part, .bool may, .bool held, .bool twice, .bool wrong, .bool blocked] w (TrueBelow w) := by
  have out : ∀ {bd : List (Int × Int)} {ge : List LF}, CrRun bd ge → bdOk (mkGh [.bool may, .bool held, .bool twice, .bool wrong, .bool blocked] [qty, amount, part] rfl).σ bd 0 → geOk (mkGh [.bool may, .bool held, .bool twice, .bool wrong, .bool blocked] [qty, amount, part] rfl).σ ge → Calls Tryz.prog 4 #[.int .i64 qty, .int .i64 amount, .int .i64 part, .bool may, .bool held, .bool twice, .bool wrong, .bool blocked] w (TrueBelow w) := fun {bd ge} hr hb hg => by
    have F : Facts (mkGh [.bool may, .bool held, .bool twice, .bool wrong, .bool blocked] [qty, amount, part] rfl) bd ge [] := ⟨hb, hg, trivial⟩
    exact run_true (nl := []) progOk F (libS_ok F (mapsH_ok F (crA_ok _ _ _))) Tryz.func4 rfl (by simp [crOArgs, concL, conc, den, mkGh]) hr w
  have hO : bdOk (mkGh [.bool may, .bool held, .bool twice, .bool wrong, .bool blocked] [qty, amount, part] rfl).σ crO 0 := ⟨h0, h1, h2, trivial⟩
  by_cases c0 : qty < 1
  · exact out cro0 hO (by simp [geOk, crNo, den, mkGh]; omega)
  by_cases c1 : 1073741824 < qty
  · exact out cro1 hO (by simp [geOk, crNo, den, mkGh]; omega)
  by_cases c2 : amount < 0
  · exact out cro2 hO (by simp [geOk, crNo, den, mkGh]; omega)
  by_cases c3 : 1099511627776 < amount
  · exact out cro3 hO (by simp [geOk, crNo, den, mkGh]; omega)
  by_cases c4 : part < 1
  · exact out cro4 hO (by simp [geOk, crNo, den, mkGh]; omega)
  by_cases c5 : qty < part
  · exact out cro5 hO (by simp [geOk, crNo, den, mkGh]; omega)
  have hq : 1 ≤ qty ∧ qty ≤ 1073741824 := by omega
  have hq1 : 1 ≤ qty ∧ qty ≤ 1073741824 := by omega
  have ha : 0 ≤ amount ∧ amount ≤ 1099511627776 := by omega
  have hp : 1 ≤ part ∧ part ≤ qty := by omega
  have hp2 : 1 ≤ part ∧ part ≤ 1073741824 := by omega
  obtain ⟨s, hs⟩ : ∃ z : Int, amount * part / qty = z := ⟨_, rfl⟩
  have hle := crLe hq1.1 ha.1 hp
  rw [hs] at hle
  have hs2 : 0 ≤ s ∧ s ≤ 1099511627776 := by omega
  have hI : bdOk (mkGh [] [qty, amount, part, s] rfl).σ crI 0 := ⟨hq, ha, hp2, hs2, trivial⟩
  have hT : HooksOk Tryz.prog (mkGh [] [qty, amount, part, s] rfl) (hkT crT) := crT_ok (fun h => h) rfl rfl rfl rfl hq1 ha hp hs
  have hg : geOk (mkGh [] [qty, amount, part, s] rfl).σ [(0,[(0,1),(2,-1)]), (0,[(1,1),(3,-1)])] := by simp [geOk, den, mkGh]; omega
  exact crMid qty amount part s w hT hI hg may held twice wrong blocked
set_option maxRecDepth 100000 in
theorem cr_int {W : World} {base : Nat} {v : Value} (h : Value.okWide Tryz.prog W .any base 3 v) : ∃ n, v = .int .i64 n ∧ -9223372036854775808 ≤ n ∧ n ≤ 9223372036854775807 := by
  unfold Value.okWide at h
  rw [Tryz.underlying3] at h
  exact cell_int Tryz.underlying3 h
set_option maxRecDepth 100000 in
theorem cr_bool {W : World} {base : Nat} {v : Value} (h : Value.okWide Tryz.prog W .any base 4 v) : ∃ b, v = .bool b := by
  unfold Value.okWide at h
  rw [Tryz.underlying4] at h
  exact cell_bool Tryz.underlying4 h
set_option maxRecDepth 100000 in
theorem crWalk (W : World) (base : Nat) (v0 v1 v2 v3 v4 v5 v6 v7 : Value) (h0 : Value.okWide Tryz.prog W .any base 3 v0) (h1 : Value.okWide Tryz.prog W .any base 3 v1) (h2 : Value.okWide Tryz.prog W .any base 3 v2) (h3 : Value.okWide Tryz.prog W .any base 4 v3) (h4 : Value.okWide Tryz.prog W .any base 4 v4) (h5 : Value.okWide Tryz.prog W .any base 4 v5) (h6 : Value.okWide Tryz.prog W .any base 4 v6) (h7 : Value.okWide Tryz.prog W .any base 4 v7) :
    Calls Tryz.prog 4 #[v0, v1, v2, v3, v4, v5, v6, v7] W (TrueBelow W) := by
  obtain ⟨qty, rfl, g0⟩ := cr_int h0
  obtain ⟨amount, rfl, g1⟩ := cr_int h1
  obtain ⟨part, rfl, g2⟩ := cr_int h2
  obtain ⟨may, rfl⟩ := cr_bool h3
  obtain ⟨held, rfl⟩ := cr_bool h4
  obtain ⟨twice, rfl⟩ := cr_bool h5
  obtain ⟨wrong, rfl⟩ := cr_bool h6
  obtain ⟨blocked, rfl⟩ := cr_bool h7
  exact crAll qty amount part may held twice wrong blocked g0 g1 g2 W
end Go.Proofs.YtaajobcfbgpfoaaGreat
