/- The library's hooks at this seat's program: bits.Add64, maps.clone, strings.Clone. -/
import Derived.Test.YthlpdficpmdebaaGreatGvMul
import Derived.Test.YthlpdficpmdebaaGreatLay
namespace Go.Proofs.YthlpdficpmdebaaGreat
open Go.RowKit Go.Shelf Gv
theorem progOk : ProgOk Tryz.prog := ⟨of_decide_eq_true (by kernel_rfl), by kernel_rfl, by kernel_rfl⟩
theorem ext493 : ExtOk Tryz.prog 493 add64Entry := ExtOk.mk' progOk Tryz.func493 rfl (by kernel_rfl) (by kernel_rfl)
theorem ext315 : ExtOk Tryz.prog 315 Extern.MapsClone.clone := ExtOk.mk' progOk Tryz.func315 rfl (by kernel_rfl) (by kernel_rfl)
/-- The functions that go over a map. -/
noncomputable def mapsH (_bd : List (Int × Int)) (_ge : List (Int × List (Nat × Int))) (_nl : List NL) (x : Nat → Option (Gv.Call → List V → H → RV)) : Nat → Option (Gv.Call → List V → H → RV) := x
set_option maxRecDepth 100000 in
theorem mapsH_ok {G : Gh} {bd : List (Int × Int)} {ge : List (Int × List (Nat × Int))} {nl : List NL} {x : Nat → Option (Gv.Call → List V → H → RV)} (F : Facts G bd ge nl) (hx : HooksOk Tryz.prog G x) (hm : ¬ G.mono := by exact fun h => h) : HooksOk Tryz.prog G (mapsH bd ge nl x) := by
  have _F := F
  have _h := hm
  unfold mapsH
  exact hx
def nilH : Nat → Option (Gv.Call → List V → H → RV) := fun _ => none
theorem nilH_ok {G : Gh} : HooksOk Tryz.prog G nilH := noHooks
noncomputable def lib0 : Nat → Option (Gv.Call → List V → H → RV) := orHk (oneH 140 strH) nilH
set_option maxRecDepth 100000 in
theorem lib0_ok {G : Gh} (hm : ¬ G.mono) : HooksOk Tryz.prog G lib0 := by
  have _h := hm
  unfold lib0
  refine orHk_ok ?_ nilH_ok
  exact oneH_ok (strH_ok hm progOk Tryz.func140 rfl Tryz.stringslite_Clone)
noncomputable def lib1 : Nat → Option (Gv.Call → List V → H → RV) := orHk (oneH 315 cloneH) lib0
set_option maxRecDepth 100000 in
theorem lib1_ok {G : Gh} (hm : ¬ G.mono) : HooksOk Tryz.prog G lib1 := by
  have _h := hm
  unfold lib1
  refine orHk_ok ?_ (lib0_ok hm)
  exact oneH_ok (@cloneH_ok Tryz.prog G 315 ext315)
noncomputable def lib2 : Nat → Option (Gv.Call → List V → H → RV) := orHk (oneH 493 addH) lib1
set_option maxRecDepth 100000 in
theorem lib2_ok {G : Gh} (hm : ¬ G.mono) : HooksOk Tryz.prog G lib2 := by
  have _h := hm
  unfold lib2
  refine orHk_ok ?_ (lib1_ok hm)
  exact oneH_ok (@addH_ok Tryz.prog G 493 ext493)
/-- The library's hooks, and more of the caller's ahead. -/
noncomputable def libH (x : Nat → Option (Gv.Call → List V → H → RV)) : Nat → Option (Gv.Call → List V → H → RV) := orHk x lib2
set_option maxRecDepth 100000 in
theorem libH_ok {G : Gh} {x : Nat → Option (Gv.Call → List V → H → RV)} (hx : HooksOk Tryz.prog G x) (hm : ¬ G.mono := by exact fun h => h) : HooksOk Tryz.prog G (libH x) := by
  unfold libH
  exact orHk_ok hx (lib2_ok hm)
/-- The same, and bits.Add64 at linear forms. -/
noncomputable def libS (bd : List (Int × Int)) (ge : List (Int × List (Nat × Int))) (x : Nat → Option (Gv.Call → List V → H → RV)) : Nat → Option (Gv.Call → List V → H → RV) := orHk (oneH 493 (addE (evE Tryz.prog (fun _ => none) bd ge []))) ((libH x))
set_option maxRecDepth 100000 in
theorem libS_ok {G : Gh} {bd : List (Int × Int)} {ge : List (Int × List (Nat × Int))} {nl : List NL} {x : Nat → Option (Gv.Call → List V → H → RV)} (F : Facts G bd ge nl) (hx : HooksOk Tryz.prog G x) (hm : ¬ G.mono := by exact fun h => h) : HooksOk Tryz.prog G (libS bd ge x) := by
  unfold libS
  exact orHk_ok (oneH_ok (@addE_ok Tryz.prog G _ (env_ok progOk F) 493 ext493)) ((libH_ok hx hm))
end Go.Proofs.YthlpdficpmdebaaGreat
