/- complinelaw27.EodCredit returns true, for every input. -/
import Derived.Test.YtdfgedemolielaaGreatEcO
import Derived.Test.YtdfgedemolielaaGreatEcAb
import Derived.Test.YtdfgedemolielaaGreatEcBb
import Derived.Test.YtdfgedemolielaaGreatEcCb
import Derived.Test.YtdfgedemolielaaGreatEcDb
import Derived.Test.YtdfgedemolielaaGreatEcEb
namespace Go.Proofs.YtdfgedemolielaaGreat
open Go Go.RowKit Gv
set_option maxRecDepth 100000 in
theorem ecNl {amount cash more k r : Int} (hk : 1 ≤ k ∧ k ≤ 27) (hr : 0 ≤ r ∧ r ≤ 9) : nlOk (mkGh [] [amount, cash, more, k, r] rfl) [⟨2, .i64, (-10,[(3,10),(4,1)]), (10,[]), 4⟩] := by
 refine ⟨.inr (.inr (.inl ⟨rfl, ?_, ?_⟩)), trivial⟩
 · show (10 + 0 : Int) ≠ 0
   decide
 · show (-10 + (10 * k + (1 * r + 0))).tmod (10 + 0) = r
   rw [Int.tmod_eq_emod_of_nonneg (by omega)]
   omega
set_option maxRecDepth 100000 in
theorem ecMid (amount cash more : Int) (blocked : Bool) (ha : 0 ≤ amount ∧ amount ≤ 400) (hc : 0 ≤ cash ∧ cash ≤ 1000) (hm : 0 ≤ more ∧ more ≤ 1000) (w : World) : Calls Tryz.prog 4 #[.int .i64 amount, .int .i64 cash, .int .i64 more, .bool blocked] w (TrueBelow w) := by
 by_cases hle : amount ≤ cash
 · obtain ⟨k, hk⟩ : ∃ k : Int, k = 1 := ⟨_, rfl⟩
   obtain ⟨r, hr⟩ : ∃ r : Int, r = 0 := ⟨_, rfl⟩
   have hk1 : 1 ≤ k ∧ k ≤ 27 := by omega
   have hr1 : 0 ≤ r ∧ r ≤ 9 := by omega
   have hnl := ecNl (amount := amount) (cash := cash) (more := more) hk1 hr1
   have hI : bdOk (mkGh [] [amount, cash, more, k, r] rfl).σ ecaI 0 := ⟨ha, hc, hm, hk1, hr1, trivial⟩
   have hT : HooksOk Tryz.prog (mkGh [] [amount, cash, more, k, r] rfl) (hkT ecTA) := ecTA_ok (fun h => h) rfl ha
   have hg : geOk (mkGh [] [amount, cash, more, k, r] rfl).σ [(0,[(1,1),(0,-1)])] := by simp [geOk, den, mkGh]; omega
   cases blocked with
   | false => exact eca_in0 amount cash more k r w hnl hT hI hg
   | true => exact eca_in1 amount cash more k r w hnl hT hI hg
 · obtain ⟨n, hn⟩ : ∃ n : Int, n = ((amount - cash) * 10000 + 14999) / 15000 := ⟨_, rfl⟩
   obtain ⟨k, hk0⟩ : ∃ k : Int, k = (n + 9) / 10 := ⟨_, rfl⟩
   obtain ⟨r, hr0⟩ : ∃ r : Int, r = n % 10 := ⟨_, rfl⟩
   have hk : 1 ≤ k ∧ k ≤ 27 := by omega
   have hr1 : 0 ≤ r ∧ r ≤ 9 := by omega
   have hl : 1 ≤ amount - cash ∧ amount - cash ≤ 400 := by omega
   have hnl := ecNl (amount := amount) (cash := cash) (more := more) hk hr1
   have hI : bdOk (mkGh [] [amount, cash, more, k, r] rfl).σ ecaI 0 := ⟨ha, hc, hm, hk, hr1, trivial⟩
   by_cases h0 : r = 0
   · have hz : 10 * k = ((amount - cash) * 10000 + 14999) / 15000 := by omega
     by_cases hc0 : cash = 0
     · have hge : amount ≥ 1 := by omega
       have hT : HooksOk Tryz.prog (mkGh [] [amount, cash, more, k, r] rfl) (hkT ecTD) := ecTD_ok (fun h => h) rfl ha rfl rfl hc0 hk hl hz
       have hg : geOk (mkGh [] [amount, cash, more, k, r] rfl).σ [(0,[(1,-1)]), (-1,[(0,1),(1,-1)]), (0,[(3,15),(0,-1),(1,1)]), (14,[(0,1),(1,-1),(3,-15)])] := by simp [geOk, den, mkGh]; omega
       cases blocked with
       | false => exact ecd_in0 amount cash more k r w hnl hT hI hg
       | true => exact ecd_in1 amount cash more k r w hnl hT hI hg
     · have hge : cash ≥ 1 := by omega
       have hT : HooksOk Tryz.prog (mkGh [] [amount, cash, more, k, r] rfl) (hkT ecTB) := ecTB_ok (fun h => h) rfl ha rfl rfl hk hl hz
       have hg : geOk (mkGh [] [amount, cash, more, k, r] rfl).σ [(-1,[(1,1)]), (-1,[(0,1),(1,-1)]), (0,[(3,15),(0,-1),(1,1)]), (14,[(0,1),(1,-1),(3,-15)])] := by simp [geOk, den, mkGh]; omega
       cases blocked with
       | false => exact ecb_in0 amount cash more k r w hnl hT hI hg
       | true => exact ecb_in1 amount cash more k r w hnl hT hI hg
   · have hz : 10 * k - 10 + r = ((amount - cash) * 10000 + 14999) / 15000 := by omega
     by_cases hc0 : cash = 0
     · have hge : amount ≥ 1 := by omega
       have hT : HooksOk Tryz.prog (mkGh [] [amount, cash, more, k, r] rfl) (hkT ecTE) := ecTE_ok (fun h => h) rfl ha rfl rfl rfl hc0 hk hl hz
       have hg : geOk (mkGh [] [amount, cash, more, k, r] rfl).σ [(0,[(1,-1)]), (-1,[(0,1),(1,-1)]), (0,[(3,15),(0,-1),(1,1)]), (14,[(0,1),(1,-1),(3,-15)]), (-1,[(4,1)])] := by simp [geOk, den, mkGh]; omega
       cases blocked with
       | false => exact ece_in0 amount cash more k r w hnl hT hI hg
       | true => exact ece_in1 amount cash more k r w hnl hT hI hg
     · have hge : cash ≥ 1 := by omega
       have hT : HooksOk Tryz.prog (mkGh [] [amount, cash, more, k, r] rfl) (hkT ecTC) := ecTC_ok (fun h => h) rfl ha rfl rfl rfl hk hl hz
       have hg : geOk (mkGh [] [amount, cash, more, k, r] rfl).σ [(-1,[(1,1)]), (-1,[(0,1),(1,-1)]), (0,[(3,15),(0,-1),(1,1)]), (14,[(0,1),(1,-1),(3,-15)]), (-1,[(4,1)])] := by simp [geOk, den, mkGh]; omega
       cases blocked with
       | false => exact ecc_in0 amount cash more k r w hnl hT hI hg
       | true => exact ecc_in1 amount cash more k r w hnl hT hI hg
set_option maxRecDepth 100000 in
theorem ecAll (amount cash more : Int) (blocked : Bool) (h0 : -9223372036854775808 ≤ amount ∧ amount ≤ 9223372036854775807) (h1 : -9223372036854775808 ≤ cash ∧ cash ≤ 9223372036854775807) (h2 : -9223372036854775808 ≤ more ∧ more ≤ 9223372036854775807) (w : World) : Calls Tryz.prog 4 #[.int .i64 amount, .int .i64 cash, .int .i64 more, .bool blocked] w (TrueBelow w) := by
 have out : ∀ {bd : List (Int × Int)} {ge : List LF}, EcRun bd ge → bdOk (mkGh [.bool blocked] [amount, cash, more] rfl).σ bd 0 → geOk (mkGh [.bool blocked] [amount, cash, more] rfl).σ ge → Calls Tryz.prog 4 #[.int .i64 amount, .int .i64 cash, .int .i64 more, .bool blocked] w (TrueBelow w) := fun {bd ge} hr hb hg => by
  have F : Facts (mkGh [.bool blocked] [amount, cash, more] rfl) bd ge [] := ⟨hb, hg, trivial⟩
  exact run_true (nl := []) progOk F (libS_ok F (mapsH_ok F (ecA_ok _ _ _))) Tryz.func4 rfl (by simp [ecOArgs, concL, conc, den, mkGh]) hr w
 have hO : bdOk (mkGh [.bool blocked] [amount, cash, more] rfl).σ ecO 0 := ⟨h0, h1, h2, trivial⟩
 by_cases c0 : amount < 0
 · exact out eco0 hO (by simp [geOk, ecNo, den, mkGh]; omega)
 by_cases c1 : 400 < amount
 · exact out eco1 hO (by simp [geOk, ecNo, den, mkGh]; omega)
 by_cases c2 : cash < 0
 · exact out eco2 hO (by simp [geOk, ecNo, den, mkGh]; omega)
 by_cases c3 : 1000 < cash
 · exact out eco3 hO (by simp [geOk, ecNo, den, mkGh]; omega)
 by_cases c4 : more < 0
 · exact out eco4 hO (by simp [geOk, ecNo, den, mkGh]; omega)
 by_cases c5 : 1000 < more
 · exact out eco5 hO (by simp [geOk, ecNo, den, mkGh]; omega)
 exact ecMid amount cash more blocked (by omega) (by omega) (by omega) w
set_option maxRecDepth 100000 in
theorem ec_int {W : World} {base : Nat} {v : Value} (h : Value.okWide Tryz.prog W .any base 3 v) : ∃ n, v = .int .i64 n ∧ -9223372036854775808 ≤ n ∧ n ≤ 9223372036854775807 := by
 unfold Value.okWide at h
 rw [Tryz.underlying3] at h
 exact cell_int Tryz.underlying3 h
set_option maxRecDepth 100000 in
theorem ec_bool {W : World} {base : Nat} {v : Value} (h : Value.okWide Tryz.prog W .any base 4 v) : ∃ b, v = .bool b := by
 unfold Value.okWide at h
 rw [Tryz.underlying4] at h
 exact cell_bool Tryz.underlying4 h
set_option maxRecDepth 100000 in
theorem ecWalk (W : World) (base : Nat) (v0 v1 v2 v3 : Value) (h0 : Value.okWide Tryz.prog W .any base 3 v0) (h1 : Value.okWide Tryz.prog W .any base 3 v1) (h2 : Value.okWide Tryz.prog W .any base 3 v2) (h3 : Value.okWide Tryz.prog W .any base 4 v3) :
 Calls Tryz.prog 4 #[v0, v1, v2, v3] W (TrueBelow W) := by
 obtain ⟨amount, rfl, g0⟩ := ec_int h0
 obtain ⟨cash, rfl, g1⟩ := ec_int h1
 obtain ⟨more, rfl, g2⟩ := ec_int h2
 obtain ⟨blocked, rfl⟩ := ec_bool h3
 exact ecAll amount cash more blocked g0 g1 g2 W
end Go.Proofs.YtdfgedemolielaaGreat
