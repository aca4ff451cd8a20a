/- complinelaw26.BatchParts: out of its bounds. -/
import Derived.Test.YtdfgedemolielaaGreatBpHt
import Derived.Test.YtdfgedemolielaaGreatBpR0
import Derived.Test.YtdfgedemolielaaGreatBpR1
import Derived.Test.YtdfgedemolielaaGreatBpR2
import Derived.Test.YtdfgedemolielaaGreatBpR3
import Derived.Test.YtdfgedemolielaaGreatBpR4
import Derived.Test.YtdfgedemolielaaGreatBpR5
import Derived.Test.YtdfgedemolielaaGreatBpR6
import Derived.Test.YtdfgedemolielaaGreatBpR7
import Derived.Test.YtdfgedemolielaaGreatBpR8
import Derived.Test.YtdfgedemolielaaGreatBpR9
import Derived.Test.YtdfgedemolielaaGreatBpR10
import Derived.Test.YtdfgedemolielaaGreatBpR11
import Derived.Test.YtdfgedemolielaaGreatBpR12
namespace Go.Proofs.YtdfgedemolielaaGreat
open Go.RowKit Gv
def bpO : List (Int × Int) := [(-9223372036854775808, 9223372036854775807), (-9223372036854775808, 9223372036854775807), (-9223372036854775808, 9223372036854775807), (-9223372036854775808, 9223372036854775807)]
def bpOArgs : List V := [.sint .i64 0 [(0,1)], .sint .i64 0 [(1,1)], .sint .i64 0 [(2,1)], .sint .i64 0 [(3,1)], .opq 0]
def bpNo : List LF := [(-1,[(0,1)]), (500,[(0,-1)]), (0,[(1,1)]), (500,[(1,-1)]), (0,[(2,1)]), (500,[(2,-1)]), (0,[(3,1)]), (500,[(3,-1)])]
abbrev BpRun (bd : List (Int × Int)) (ge : List LF) : Prop := (callN (evE Tryz.prog (libS bd ge (mapsH bd ge [] bpA)) bd ge []) 100 3 bpOArgs H0).isTrue = true
theorem bpo0 : BpRun bpO ((0,[(0,-1)]) :: bpNo.take 0) := by unfold BpRun; kernel_rfl
theorem bpo1 : BpRun bpO ((-501,[(0,1)]) :: bpNo.take 1) := by unfold BpRun; kernel_rfl
theorem bpo2 : BpRun bpO ((-1,[(1,-1)]) :: bpNo.take 2) := by unfold BpRun; kernel_rfl
theorem bpo3 : BpRun bpO ((-501,[(1,1)]) :: bpNo.take 3) := by unfold BpRun; kernel_rfl
theorem bpo4 : BpRun bpO ((-1,[(2,-1)]) :: bpNo.take 4) := by unfold BpRun; kernel_rfl
theorem bpo5 : BpRun bpO ((-501,[(2,1)]) :: bpNo.take 5) := by unfold BpRun; kernel_rfl
theorem bpo6 : BpRun bpO ((-1,[(3,-1)]) :: bpNo.take 6) := by unfold BpRun; kernel_rfl
theorem bpo7 : BpRun bpO ((-501,[(3,1)]) :: bpNo.take 7) := by unfold BpRun; kernel_rfl
end Go.Proofs.YtdfgedemolielaaGreat
/- complinelaw26.BatchParts: within its bounds. -/
namespace Go.Proofs.YtdfgedemolielaaGreat
open Go Go.RowKit Gv Gv.Lt
set_option maxRecDepth 100000
theorem bp_split {σ : Nat → Int} {ge : List LF} {C : Prop} (x y : LF) (e : LF.neg x = y) (ha : geOk σ (x :: ge) → C) (hb : geOk σ (y :: ge) → C) (h : geOk σ ge) : C := split_at x ha (by rw [e]; exact hb) h
abbrev bpGh (Q A t c V s W p sV sT st Z Ya Yb Yc Yd : Int) : Gh := mkGh [] [Q, A, t, c, V, s, W, p, sV, sT, st, Z, Ya, Yb, Yc, Yd] rfl
theorem bp_in0 (Q A t c V s W p sV sT st Z Ya Yb Yc Yd : Int) (w : World) (hnl : ∀ G1, GLe 16 (bpGh Q A t c V s W p sV sT st Z Ya Yb Yc Yd) G1 → nlOk G1 bpNL) (hT : ∀ G1, GLe 16 (bpGh Q A t c V s W p sV sT st Z Ya Yb Yc Yd) G1 → HooksOk Tryz.prog G1 (hkT bpT)) (hL : LkOk Tryz.prog (bpGh Q A t c V s W p sV sT st Z Ya Yb Yc Yd) 16 Tryz.f3.ntmps (bpL1 10) (blocksC ((Tryz.f3.body).getD .skip))) (hI : bdOk (bpGh Q A t c V s W p sV sT st Z Ya Yb Yc Yd).σ bpI 0) : geOk (bpGh Q A t c V s W p sV sT st Z Ya Yb Yc Yd).σ [(0,[(10,1),(0,-1)]), (0,[(3,1),(1,-1)]), (0,[(6,1),(0,-1)]), (0,[(0,1),(6,-1)]), (0,[(5,1),(1,-1)]), (0,[(1,1),(5,-1)])] → Calls Tryz.prog 3 #[.int .i64 Q, .int .i64 A, .int .i64 st, .int .i64 c, .bool true] w (TrueBelow w) := by
  have hl : concL (bpGh Q A t c V s W p sV sT st Z Ya Yb Yc Yd) (fun _ => none) bpArgs0 = some [.int .i64 Q, .int .i64 A, .int .i64 st, .int .i64 c, .bool true] := by simp [bpArgs0, concL, conc, den, mkGh, bpGh]
  have L : ∀ {ge}, bpLeaf ge (bpL1 10) bpArgs0 → geOk (bpGh Q A t c V s W p sV sT st Z Ya Yb Yc Yd).σ ge → Calls Tryz.prog 3 #[.int .i64 Q, .int .i64 A, .int .i64 st, .int .i64 c, .bool true] w (TrueBelow w) := fun u hg => u ⟨hI, hg, hnl _ (GLe.refl _ _)⟩ (fun h => h) hnl hT hL hl w
  exact (bp_split (-1,[(10,1)]) (0,[(10,-1)]) (by kernel_rfl) (bp_split (-1,[(3,1)]) (0,[(3,-1)]) (by kernel_rfl) (bp_split (-1,[(1,1)]) (0,[(1,-1)]) (by kernel_rfl) (bp_split (-1,[(0,-1),(10,1)]) (0,[(0,1),(10,-1)]) (by kernel_rfl) (bp_split (-1,[(1,-1),(3,1)]) (0,[(1,1),(3,-1)]) (by kernel_rfl) (L bpu0) (L bpu1)) (bp_split (-1,[(1,-1),(3,1)]) (0,[(1,1),(3,-1)]) (by kernel_rfl) (L bpu2) (L bpu3))) (bp_split (-1,[(0,-1),(10,1)]) (0,[(0,1),(10,-1)]) (by kernel_rfl) (L bpu4) (L bpu5))) (bp_split (-1,[(1,1)]) (0,[(1,-1)]) (by kernel_rfl) (dead_at [1, 1, 0, 0, 1, 0, 0, 0, 0] (by kernel_rfl) hI) (bp_split (-1,[(0,-1),(10,1)]) (0,[(0,1),(10,-1)]) (by kernel_rfl) (L bpu6) (L bpu7)))) (dead_at [1, 1, 0, 0, 0, 0, 0] (by kernel_rfl) hI))
theorem bp_in1 (Q A t c V s W p sV sT st Z Ya Yb Yc Yd : Int) (w : World) (hnl : ∀ G1, GLe 16 (bpGh Q A t c V s W p sV sT st Z Ya Yb Yc Yd) G1 → nlOk G1 bpNL) (hT : ∀ G1, GLe 16 (bpGh Q A t c V s W p sV sT st Z Ya Yb Yc Yd) G1 → HooksOk Tryz.prog G1 (hkT bpT)) (hL : LkOk Tryz.prog (bpGh Q A t c V s W p sV sT st Z Ya Yb Yc Yd) 16 Tryz.f3.ntmps (bpL0 10) (blocksC ((Tryz.f3.body).getD .skip))) (hI : bdOk (bpGh Q A t c V s W p sV sT st Z Ya Yb Yc Yd).σ bpI 0) : geOk (bpGh Q A t c V s W p sV sT st Z Ya Yb Yc Yd).σ [(0,[(10,1),(0,-1)]), (0,[(3,1),(1,-1)]), (0,[(6,1),(0,-1)]), (0,[(0,1),(6,-1)]), (0,[(5,1),(1,-1)]), (0,[(1,1),(5,-1)])] → Calls Tryz.prog 3 #[.int .i64 Q, .int .i64 A, .int .i64 st, .int .i64 c, .bool false] w (TrueBelow w) := by
  have hl : concL (bpGh Q A t c V s W p sV sT st Z Ya Yb Yc Yd) (fun _ => none) bpArgs1 = some [.int .i64 Q, .int .i64 A, .int .i64 st, .int .i64 c, .bool false] := by simp [bpArgs1, concL, conc, den, mkGh, bpGh]
  have L : ∀ {ge}, bpLeaf ge (bpL0 10) bpArgs1 → geOk (bpGh Q A t c V s W p sV sT st Z Ya Yb Yc Yd).σ ge → Calls Tryz.prog 3 #[.int .i64 Q, .int .i64 A, .int .i64 st, .int .i64 c, .bool false] w (TrueBelow w) := fun u hg => u ⟨hI, hg, hnl _ (GLe.refl _ _)⟩ (fun h => h) hnl hT hL hl w
  exact (bp_split (-1,[(10,1)]) (0,[(10,-1)]) (by kernel_rfl) (bp_split (-1,[(3,1)]) (0,[(3,-1)]) (by kernel_rfl) (bp_split (-1,[(1,1)]) (0,[(1,-1)]) (by kernel_rfl) (bp_split (-1,[(0,-1),(10,1)]) (0,[(0,1),(10,-1)]) (by kernel_rfl) (bp_split (-1,[(1,-1),(3,1)]) (0,[(1,1),(3,-1)]) (by kernel_rfl) (L bpu8) (L bpu9)) (bp_split (-1,[(1,-1),(3,1)]) (0,[(1,1),(3,-1)]) (by kernel_rfl) (L bpu10) (L bpu11))) (bp_split (-1,[(0,-1),(10,1)]) (0,[(0,1),(10,-1)]) (by kernel_rfl) (L bpu12) (L bpu13))) (bp_split (-1,[(1,1)]) (0,[(1,-1)]) (by kernel_rfl) (dead_at [1, 1, 0, 0, 1, 0, 0, 0, 0] (by kernel_rfl) hI) (bp_split (-1,[(0,-1),(10,1)]) (0,[(0,1),(10,-1)]) (by kernel_rfl) (L bpu14) (L bpu15)))) (dead_at [1, 1, 0, 0, 0, 0, 0] (by kernel_rfl) hI))
theorem bp_in2 (Q A t c V s W p sV sT st Z Ya Yb Yc Yd : Int) (w : World) (hnl : ∀ G1, GLe 16 (bpGh Q A t c V s W p sV sT st Z Ya Yb Yc Yd) G1 → nlOk G1 bpNL) (hT : ∀ G1, GLe 16 (bpGh Q A t c V s W p sV sT st Z Ya Yb Yc Yd) G1 → HooksOk Tryz.prog G1 (hkT bpT)) (hL : LkOk Tryz.prog (bpGh Q A t c V s W p sV sT st Z Ya Yb Yc Yd) 16 Tryz.f3.ntmps (bpL1 10) (blocksC ((Tryz.f3.body).getD .skip))) (hI : bdOk (bpGh Q A t c V s W p sV sT st Z Ya Yb Yc Yd).σ bpI 0) : geOk (bpGh Q A t c V s W p sV sT st Z Ya Yb Yc Yd).σ [(0,[(3,-1)]), (0,[(8,-1)]), (0,[(11,1),(4,-1)]), (0,[(4,1),(11,-1)]), (-1,[(10,1),(11,-1)]), (0,[(6,1),(11,-1)]), (0,[(11,1),(6,-1)]), (-1,[(10,1),(4,-1)]), (-1,[(4,1)]), (-1,[(0,1),(4,-1)]), (-1,[(1,1),(3,-1)]), (0,[(6,1),(4,-1)]), (0,[(4,1),(6,-1)]), (0,[(5,1),(8,-1)]), (0,[(8,1),(5,-1)]), (0,[(3,1),(8,-1)]), (0,[(1,1),(8,-1)]), (-1,[(11,1)]), (-1,[(0,1),(11,-1)])] → Calls Tryz.prog 3 #[.int .i64 Q, .int .i64 A, .int .i64 st, .int .i64 c, .bool true] w (TrueBelow w) := by
  have hl : concL (bpGh Q A t c V s W p sV sT st Z Ya Yb Yc Yd) (fun _ => none) bpArgs2 = some [.int .i64 Q, .int .i64 A, .int .i64 st, .int .i64 c, .bool true] := by simp [bpArgs2, concL, conc, den, mkGh, bpGh]
  have L : ∀ {ge}, bpLeaf ge (bpL1 10) bpArgs2 → geOk (bpGh Q A t c V s W p sV sT st Z Ya Yb Yc Yd).σ ge → Calls Tryz.prog 3 #[.int .i64 Q, .int .i64 A, .int .i64 st, .int .i64 c, .bool true] w (TrueBelow w) := fun u hg => u ⟨hI, hg, hnl _ (GLe.refl _ _)⟩ (fun h => h) hnl hT hL hl w
  exact (bp_split (-1,[(10,1)]) (0,[(10,-1)]) (by kernel_rfl) (bp_split (-1,[(3,1)]) (0,[(3,-1)]) (by kernel_rfl) (dead_at [1, 0, 1, 0, 0, 0, 0, 0, 0, 0, 0, 0, 0, 0, 0, 0, 0, 0, 0, 0, 0] (by kernel_rfl) hI) (bp_split (-1,[(0,1),(10,-1)]) (0,[(0,-1),(10,1)]) (by kernel_rfl) (bp_split (0,[(5,-1)]) (-1,[(5,1)]) (by kernel_rfl) (L bpu16) (dead_at [1, 0, 0, 0, 0, 1, 0, 0, 0, 0, 0, 0, 0, 0, 0, 0, 0, 0, 1, 0, 0, 0, 0] (by kernel_rfl) hI)) (bp_split (0,[(5,-1)]) (-1,[(5,1)]) (by kernel_rfl) (L bpu17) (dead_at [1, 0, 0, 0, 0, 1, 0, 0, 0, 0, 0, 0, 0, 0, 0, 0, 0, 0, 1, 0, 0, 0, 0] (by kernel_rfl) hI)))) (dead_at [1, 0, 0, 0, 0, 0, 0, 0, 1, 1, 0, 0, 0, 0, 0, 0, 0, 0, 0, 0] (by kernel_rfl) hI))
theorem bp_in3 (Q A t c V s W p sV sT st Z Ya Yb Yc Yd : Int) (w : World) (hnl : ∀ G1, GLe 16 (bpGh Q A t c V s W p sV sT st Z Ya Yb Yc Yd) G1 → nlOk G1 bpNL) (hT : ∀ G1, GLe 16 (bpGh Q A t c V s W p sV sT st Z Ya Yb Yc Yd) G1 → HooksOk Tryz.prog G1 (hkT bpT)) (hL : LkOk Tryz.prog (bpGh Q A t c V s W p sV sT st Z Ya Yb Yc Yd) 16 Tryz.f3.ntmps (bpL1 10) (blocksC ((Tryz.f3.body).getD .skip))) (hI : bdOk (bpGh Q A t c V s W p sV sT st Z Ya Yb Yc Yd).σ bpI 0) : geOk (bpGh Q A t c V s W p sV sT st Z Ya Yb Yc Yd).σ [(-1,[(8,1)]), (-1,[(3,1)]), (0,[(3,1),(8,-1)]), (0,[(8,1),(3,-1)]), (0,[(12,-1)]), (-1,[(10,1),(4,-1)]), (-1,[(4,1)]), (-1,[(0,1),(4,-1)]), (-1,[(1,1),(3,-1)]), (0,[(6,1),(4,-1)]), (0,[(4,1),(6,-1)]), (0,[(5,1),(8,-1)]), (0,[(8,1),(5,-1)]), (0,[(3,1),(8,-1)]), (0,[(1,1),(8,-1)])] → Calls Tryz.prog 3 #[.int .i64 Q, .int .i64 A, .int .i64 st, .int .i64 c, .bool true] w (TrueBelow w) := by
  have hl : concL (bpGh Q A t c V s W p sV sT st Z Ya Yb Yc Yd) (fun _ => none) bpArgs3 = some [.int .i64 Q, .int .i64 A, .int .i64 st, .int .i64 c, .bool true] := by simp [bpArgs3, concL, conc, den, mkGh, bpGh]
  have L : ∀ {ge}, bpLeaf ge (bpL1 10) bpArgs3 → geOk (bpGh Q A t c V s W p sV sT st Z Ya Yb Yc Yd).σ ge → Calls Tryz.prog 3 #[.int .i64 Q, .int .i64 A, .int .i64 st, .int .i64 c, .bool true] w (TrueBelow w) := fun u hg => u ⟨hI, hg, hnl _ (GLe.refl _ _)⟩ (fun h => h) hnl hT hL hl w
  exact (bp_split (-1,[(10,1)]) (0,[(10,-1)]) (by kernel_rfl) (bp_split (-1,[(3,1)]) (0,[(3,-1)]) (by kernel_rfl) (bp_split (-1,[(0,1),(10,-1)]) (0,[(0,-1),(10,1)]) (by kernel_rfl) (bp_split (-1,[(1,1),(8,-1)]) (0,[(1,-1),(8,1)]) (by kernel_rfl) (bp_split (-1,[(4,-1),(10,1),(12,-1)]) (0,[(4,1),(10,-1),(12,1)]) (by kernel_rfl) (L bpu18) (dead_at [1, 0, 0, 0, 0, 0, 0, 0, 0, 1, 1, 0, 0, 0, 0, 0, 0, 0, 0, 0] (by kernel_rfl) hI)) (dead_at [1, 0, 0, 0, 0, 0, 1, 0, 0, 0, 0, 0, 1, 0, 0, 0, 0, 0, 0] (by kernel_rfl) hI)) (bp_split (-1,[(1,1),(8,-1)]) (0,[(1,-1),(8,1)]) (by kernel_rfl) (bp_split (-1,[(4,-1),(10,1),(12,-1)]) (0,[(4,1),(10,-1),(12,1)]) (by kernel_rfl) (L bpu19) (dead_at [1, 0, 0, 0, 0, 0, 0, 0, 0, 1, 1, 0, 0, 0, 0, 0, 0, 0, 0, 0] (by kernel_rfl) hI)) (dead_at [1, 0, 0, 0, 0, 0, 1, 0, 0, 0, 0, 0, 1, 0, 0, 0, 0, 0, 0] (by kernel_rfl) hI))) (dead_at [1, 0, 0, 1, 0, 0, 0, 0, 0, 0, 0, 0, 0, 0, 0, 0, 0] (by kernel_rfl) hI)) (dead_at [1, 0, 0, 0, 0, 0, 1, 1, 0, 0, 0, 0, 0, 0, 0, 0] (by kernel_rfl) hI))
theorem bp_in4 (Q A t c V s W p sV sT st Z Ya Yb Yc Yd : Int) (w : World) (hnl : ∀ G1, GLe 16 (bpGh Q A t c V s W p sV sT st Z Ya Yb Yc Yd) G1 → nlOk G1 bpNL) (hT : ∀ G1, GLe 16 (bpGh Q A t c V s W p sV sT st Z Ya Yb Yc Yd) G1 → HooksOk Tryz.prog G1 (hkT bpT)) (hL : LkOk Tryz.prog (bpGh Q A t c V s W p sV sT st Z Ya Yb Yc Yd) 16 Tryz.f3.ntmps (bpL1 10) (blocksC ((Tryz.f3.body).getD .skip))) (hI : bdOk (bpGh Q A t c V s W p sV sT st Z Ya Yb Yc Yd).σ bpI 0) : geOk (bpGh Q A t c V s W p sV sT st Z Ya Yb Yc Yd).σ [(0,[(8,-1)]), (-1,[(3,1)]), (0,[(14,-1)]), (-1,[(10,1),(4,-1)]), (-1,[(4,1)]), (-1,[(0,1),(4,-1)]), (-1,[(1,1),(3,-1)]), (0,[(6,1),(4,-1)]), (0,[(4,1),(6,-1)]), (0,[(5,1),(8,-1)]), (0,[(8,1),(5,-1)]), (0,[(3,1),(8,-1)]), (0,[(1,1),(8,-1)])] → Calls Tryz.prog 3 #[.int .i64 Q, .int .i64 A, .int .i64 st, .int .i64 c, .bool true] w (TrueBelow w) := by
  have hl : concL (bpGh Q A t c V s W p sV sT st Z Ya Yb Yc Yd) (fun _ => none) bpArgs4 = some [.int .i64 Q, .int .i64 A, .int .i64 st, .int .i64 c, .bool true] := by simp [bpArgs4, concL, conc, den, mkGh, bpGh]
  have L : ∀ {ge}, bpLeaf ge (bpL1 10) bpArgs4 → geOk (bpGh Q A t c V s W p sV sT st Z Ya Yb Yc Yd).σ ge → Calls Tryz.prog 3 #[.int .i64 Q, .int .i64 A, .int .i64 st, .int .i64 c, .bool true] w (TrueBelow w) := fun u hg => u ⟨hI, hg, hnl _ (GLe.refl _ _)⟩ (fun h => h) hnl hT hL hl w
  exact (bp_split (-1,[(10,1)]) (0,[(10,-1)]) (by kernel_rfl) (bp_split (-1,[(3,1)]) (0,[(3,-1)]) (by kernel_rfl) (bp_split (-1,[(0,1),(10,-1)]) (0,[(0,-1),(10,1)]) (by kernel_rfl) (bp_split (-1,[(1,1),(8,-1)]) (0,[(1,-1),(8,1)]) (by kernel_rfl) (bp_split (-1,[(3,-1),(1,1),(8,-1)]) (0,[(3,1),(1,-1),(8,1)]) (by kernel_rfl) (bp_split (-1,[(4,-1),(10,1),(14,-1)]) (0,[(4,1),(10,-1),(14,1)]) (by kernel_rfl) (L bpu20) (dead_at [1, 0, 0, 0, 0, 0, 0, 0, 1, 1, 0, 0, 0, 0, 0, 0, 0, 0, 0] (by kernel_rfl) hI)) (dead_at [1, 0, 0, 0, 0, 1, 0, 0, 0, 0, 0, 1, 0, 0, 0, 0, 0, 0] (by kernel_rfl) hI)) (dead_at [1, 0, 1, 0, 1, 0, 0, 0, 0, 0, 1, 0, 0, 0, 0, 0, 0] (by kernel_rfl) hI)) (bp_split (-1,[(1,1),(8,-1)]) (0,[(1,-1),(8,1)]) (by kernel_rfl) (bp_split (-1,[(1,1),(8,-1),(3,-1)]) (0,[(1,-1),(8,1),(3,1)]) (by kernel_rfl) (bp_split (-1,[(4,-1),(10,1),(14,-1)]) (0,[(4,1),(10,-1),(14,1)]) (by kernel_rfl) (L bpu21) (dead_at [1, 0, 0, 0, 0, 0, 0, 0, 1, 1, 0, 0, 0, 0, 0, 0, 0, 0, 0] (by kernel_rfl) hI)) (dead_at [1, 0, 0, 0, 0, 1, 0, 0, 0, 0, 0, 1, 0, 0, 0, 0, 0, 0] (by kernel_rfl) hI)) (dead_at [1, 0, 1, 0, 1, 0, 0, 0, 0, 0, 1, 0, 0, 0, 0, 0, 0] (by kernel_rfl) hI))) (dead_at [1, 0, 0, 1, 0, 0, 0, 0, 0, 0, 0, 0, 0, 0, 0] (by kernel_rfl) hI)) (dead_at [1, 0, 0, 0, 1, 1, 0, 0, 0, 0, 0, 0, 0, 0] (by kernel_rfl) hI))
theorem bp_in5 (Q A t c V s W p sV sT st Z Ya Yb Yc Yd : Int) (w : World) (hnl : ∀ G1, GLe 16 (bpGh Q A t c V s W p sV sT st Z Ya Yb Yc Yd) G1 → nlOk G1 bpNL) (hT : ∀ G1, GLe 16 (bpGh Q A t c V s W p sV sT st Z Ya Yb Yc Yd) G1 → HooksOk Tryz.prog G1 (hkT bpT)) (hL : LkOk Tryz.prog (bpGh Q A t c V s W p sV sT st Z Ya Yb Yc Yd) 16 Tryz.f3.ntmps (bpL1 10) (blocksC ((Tryz.f3.body).getD .skip))) (hI : bdOk (bpGh Q A t c V s W p sV sT st Z Ya Yb Yc Yd).σ bpI 0) : geOk (bpGh Q A t c V s W p sV sT st Z Ya Yb Yc Yd).σ [(-1,[(8,1)]), (-1,[(3,1)]), (-1,[(3,1),(8,-1)]), (-1,[(10,1),(4,-1)]), (-1,[(4,1)]), (-1,[(0,1),(4,-1)]), (-1,[(1,1),(3,-1)]), (0,[(6,1),(4,-1)]), (0,[(4,1),(6,-1)]), (0,[(5,1),(8,-1)]), (0,[(8,1),(5,-1)]), (0,[(3,1),(8,-1)]), (0,[(1,1),(8,-1)])] → Calls Tryz.prog 3 #[.int .i64 Q, .int .i64 A, .int .i64 st, .int .i64 c, .bool true] w (TrueBelow w) := by
  have hl : concL (bpGh Q A t c V s W p sV sT st Z Ya Yb Yc Yd) (fun _ => none) bpArgs5 = some [.int .i64 Q, .int .i64 A, .int .i64 st, .int .i64 c, .bool true] := by simp [bpArgs5, concL, conc, den, mkGh, bpGh]
  have L : ∀ {ge}, bpLeaf ge (bpL1 10) bpArgs5 → geOk (bpGh Q A t c V s W p sV sT st Z Ya Yb Yc Yd).σ ge → Calls Tryz.prog 3 #[.int .i64 Q, .int .i64 A, .int .i64 st, .int .i64 c, .bool true] w (TrueBelow w) := fun u hg => u ⟨hI, hg, hnl _ (GLe.refl _ _)⟩ (fun h => h) hnl hT hL hl w
  exact (bp_split (-1,[(10,1)]) (0,[(10,-1)]) (by kernel_rfl) (bp_split (-1,[(3,1)]) (0,[(3,-1)]) (by kernel_rfl) (bp_split (-1,[(0,1),(10,-1)]) (0,[(0,-1),(10,1)]) (by kernel_rfl) (bp_split (-1,[(1,1),(8,-1)]) (0,[(1,-1),(8,1)]) (by kernel_rfl) (L bpu22) (dead_at [1, 0, 0, 0, 0, 0, 1, 0, 0, 0, 1, 0, 0, 0, 0, 0, 0] (by kernel_rfl) hI)) (bp_split (-1,[(1,1),(8,-1)]) (0,[(1,-1),(8,1)]) (by kernel_rfl) (L bpu23) (dead_at [1, 0, 0, 0, 0, 0, 1, 0, 0, 0, 1, 0, 0, 0, 0, 0, 0] (by kernel_rfl) hI))) (dead_at [1, 0, 1, 0, 1, 0, 0, 0, 0, 0, 0, 0, 0, 0, 0] (by kernel_rfl) hI)) (dead_at [1, 0, 0, 0, 1, 1, 0, 0, 0, 0, 0, 0, 0, 0] (by kernel_rfl) hI))
theorem bp_in6 (Q A t c V s W p sV sT st Z Ya Yb Yc Yd : Int) (w : World) (hnl : ∀ G1, GLe 16 (bpGh Q A t c V s W p sV sT st Z Ya Yb Yc Yd) G1 → nlOk G1 bpNL) (hT : ∀ G1, GLe 16 (bpGh Q A t c V s W p sV sT st Z Ya Yb Yc Yd) G1 → HooksOk Tryz.prog G1 (hkT bpT)) (hL : LkOk Tryz.prog (bpGh Q A t c V s W p sV sT st Z Ya Yb Yc Yd) 16 Tryz.f3.ntmps (bpL1 2) (blocksC ((Tryz.f3.body).getD .skip))) (hI : bdOk (bpGh Q A t c V s W p sV sT st Z Ya Yb Yc Yd).σ bpI 0) : geOk (bpGh Q A t c V s W p sV sT st Z Ya Yb Yc Yd).σ [(0,[(3,-1)]), (0,[(9,-1)]), (0,[(11,1),(4,-1)]), (0,[(4,1),(11,-1)]), (0,[(11,1),(2,-1)]), (-1,[(2,1)]), (0,[(4,1),(2,-1)]), (-1,[(0,1),(2,-1)]), (0,[(6,1),(2,-1)]), (0,[(2,1),(6,-1)]), (0,[(5,1),(9,-1)]), (0,[(9,1),(5,-1)]), (0,[(3,1),(9,-1)]), (0,[(1,1),(9,-1)])] → Calls Tryz.prog 3 #[.int .i64 Q, .int .i64 A, .int .i64 t, .int .i64 c, .bool true] w (TrueBelow w) := by
  have hl : concL (bpGh Q A t c V s W p sV sT st Z Ya Yb Yc Yd) (fun _ => none) bpArgs6 = some [.int .i64 Q, .int .i64 A, .int .i64 t, .int .i64 c, .bool true] := by simp [bpArgs6, concL, conc, den, mkGh, bpGh]
  have L : ∀ {ge}, bpLeaf ge (bpL1 2) bpArgs6 → geOk (bpGh Q A t c V s W p sV sT st Z Ya Yb Yc Yd).σ ge → Calls Tryz.prog 3 #[.int .i64 Q, .int .i64 A, .int .i64 t, .int .i64 c, .bool true] w (TrueBelow w) := fun u hg => u ⟨hI, hg, hnl _ (GLe.refl _ _)⟩ (fun h => h) hnl hT hL hl w
  exact (bp_split (-1,[(2,1)]) (0,[(2,-1)]) (by kernel_rfl) (bp_split (-1,[(3,1)]) (0,[(3,-1)]) (by kernel_rfl) (dead_at [1, 0, 1, 0, 0, 0, 0, 0, 0, 0, 0, 0, 0, 0, 0, 0] (by kernel_rfl) hI) (bp_split (-1,[(1,1)]) (0,[(1,-1)]) (by kernel_rfl) (bp_split (-1,[(1,1),(9,-1)]) (0,[(1,-1),(9,1)]) (by kernel_rfl) (L bpu24) (dead_at [1, 1, 0, 0, 0, 1, 0, 0, 0, 0, 0, 0, 0, 0, 0, 0, 0, 0] (by kernel_rfl) hI)) (L bpu25))) (dead_at [1, 0, 0, 0, 0, 0, 1, 0, 0, 0, 0, 0, 0, 0, 0] (by kernel_rfl) hI))
theorem bp_in7 (Q A t c V s W p sV sT st Z Ya Yb Yc Yd : Int) (w : World) (hnl : ∀ G1, GLe 16 (bpGh Q A t c V s W p sV sT st Z Ya Yb Yc Yd) G1 → nlOk G1 bpNL) (hT : ∀ G1, GLe 16 (bpGh Q A t c V s W p sV sT st Z Ya Yb Yc Yd) G1 → HooksOk Tryz.prog G1 (hkT bpT)) (hL : LkOk Tryz.prog (bpGh Q A t c V s W p sV sT st Z Ya Yb Yc Yd) 16 Tryz.f3.ntmps (bpL1 2) (blocksC ((Tryz.f3.body).getD .skip))) (hI : bdOk (bpGh Q A t c V s W p sV sT st Z Ya Yb Yc Yd).σ bpI 0) : geOk (bpGh Q A t c V s W p sV sT st Z Ya Yb Yc Yd).σ [(-1,[(3,1)]), (-1,[(2,1)]), (0,[(4,1),(2,-1)]), (-1,[(0,1),(2,-1)]), (0,[(6,1),(2,-1)]), (0,[(2,1),(6,-1)]), (0,[(5,1),(9,-1)]), (0,[(9,1),(5,-1)]), (0,[(3,1),(9,-1)]), (0,[(1,1),(9,-1)])] → Calls Tryz.prog 3 #[.int .i64 Q, .int .i64 A, .int .i64 t, .int .i64 c, .bool true] w (TrueBelow w) := by
  have hl : concL (bpGh Q A t c V s W p sV sT st Z Ya Yb Yc Yd) (fun _ => none) bpArgs7 = some [.int .i64 Q, .int .i64 A, .int .i64 t, .int .i64 c, .bool true] := by simp [bpArgs7, concL, conc, den, mkGh, bpGh]
  have L : ∀ {ge}, bpLeaf ge (bpL1 2) bpArgs7 → geOk (bpGh Q A t c V s W p sV sT st Z Ya Yb Yc Yd).σ ge → Calls Tryz.prog 3 #[.int .i64 Q, .int .i64 A, .int .i64 t, .int .i64 c, .bool true] w (TrueBelow w) := fun u hg => u ⟨hI, hg, hnl _ (GLe.refl _ _)⟩ (fun h => h) hnl hT hL hl w
  exact (bp_split (-1,[(2,1)]) (0,[(2,-1)]) (by kernel_rfl) (bp_split (-1,[(3,1)]) (0,[(3,-1)]) (by kernel_rfl) (bp_split (-1,[(1,1)]) (0,[(1,-1)]) (by kernel_rfl) (bp_split (-1,[(3,-1),(1,1)]) (0,[(3,1),(1,-1)]) (by kernel_rfl) (bp_split (-1,[(9,1)]) (0,[(9,-1)]) (by kernel_rfl) (bp_split (-1,[(9,-1),(3,1)]) (0,[(9,1),(3,-1)]) (by kernel_rfl) (bp_split (-1,[(1,1),(9,-1)]) (0,[(1,-1),(9,1)]) (by kernel_rfl) (L bpu26) (dead_at [1, 1, 0, 1, 0, 0, 0, 0, 0, 0, 0, 0, 0, 0, 0, 0, 0] (by kernel_rfl) hI)) (bp_split (-1,[(1,1),(9,-1)]) (0,[(1,-1),(9,1)]) (by kernel_rfl) (L bpu27) (dead_at [1, 0, 0, 1, 0, 0, 0, 0, 0, 0, 0, 0, 0, 0, 0, 1, 0] (by kernel_rfl) hI))) (bp_split (-1,[(1,1),(9,-1)]) (0,[(1,-1),(9,1)]) (by kernel_rfl) (bp_split (-1,[(3,-1),(1,1),(9,-1)]) (0,[(3,1),(1,-1),(9,1)]) (by kernel_rfl) (L bpu28) (dead_at [1, 0, 1, 1, 0, 0, 0, 0, 0, 0, 0, 0, 0, 0, 0, 0, 0] (by kernel_rfl) hI)) (dead_at [1, 1, 1, 0, 1, 0, 0, 0, 0, 0, 0, 0, 0, 0, 0, 0] (by kernel_rfl) hI))) (bp_split (-1,[(9,1)]) (0,[(9,-1)]) (by kernel_rfl) (bp_split (-1,[(9,-1),(3,1)]) (0,[(9,1),(3,-1)]) (by kernel_rfl) (bp_split (-1,[(1,1),(9,-1)]) (0,[(1,-1),(9,1)]) (by kernel_rfl) (L bpu29) (L bpu30)) (bp_split (-1,[(1,1),(9,-1)]) (0,[(1,-1),(9,1)]) (by kernel_rfl) (dead_at [1, 1, 0, 1, 0, 0, 0, 0, 0, 0, 0, 0, 0, 0, 0, 0, 0] (by kernel_rfl) hI) (L bpu31))) (bp_split (-1,[(1,1),(9,-1)]) (0,[(1,-1),(9,1)]) (by kernel_rfl) (L bpu32) (dead_at [1, 1, 0, 1, 0, 0, 0, 0, 0, 0, 0, 0, 0, 0, 0, 0] (by kernel_rfl) hI)))) (bp_split (-1,[(9,1)]) (0,[(9,-1)]) (by kernel_rfl) (dead_at [1, 1, 0, 0, 0, 0, 0, 0, 0, 0, 0, 0, 0, 1] (by kernel_rfl) hI) (L bpu33))) (dead_at [1, 0, 1, 0, 0, 0, 0, 0, 0, 0, 0, 0] (by kernel_rfl) hI)) (dead_at [1, 0, 1, 0, 0, 0, 0, 0, 0, 0, 0] (by kernel_rfl) hI))
theorem bp_in8 (Q A t c V s W p sV sT st Z Ya Yb Yc Yd : Int) (w : World) (hnl : ∀ G1, GLe 16 (bpGh Q A t c V s W p sV sT st Z Ya Yb Yc Yd) G1 → nlOk G1 bpNL) (hT : ∀ G1, GLe 16 (bpGh Q A t c V s W p sV sT st Z Ya Yb Yc Yd) G1 → HooksOk Tryz.prog G1 (hkT bpT)) (hL : LkOk Tryz.prog (bpGh Q A t c V s W p sV sT st Z Ya Yb Yc Yd) 16 Tryz.f3.ntmps (bpL1 10) (blocksC ((Tryz.f3.body).getD .skip))) (hI : bdOk (bpGh Q A t c V s W p sV sT st Z Ya Yb Yc Yd).σ bpI 0) : geOk (bpGh Q A t c V s W p sV sT st Z Ya Yb Yc Yd).σ [(0,[(3,-1)]), (0,[(11,1),(4,-1)]), (0,[(4,1),(11,-1)]), (0,[(11,-1)]), (0,[(4,-1)]), (-1,[(1,1),(3,-1)]), (0,[(6,-1)]), (0,[(5,-1)])] → Calls Tryz.prog 3 #[.int .i64 Q, .int .i64 A, .int .i64 st, .int .i64 c, .bool true] w (TrueBelow w) := by
  have hl : concL (bpGh Q A t c V s W p sV sT st Z Ya Yb Yc Yd) (fun _ => none) bpArgs8 = some [.int .i64 Q, .int .i64 A, .int .i64 st, .int .i64 c, .bool true] := by simp [bpArgs8, concL, conc, den, mkGh, bpGh]
  have L : ∀ {ge}, bpLeaf ge (bpL1 10) bpArgs8 → geOk (bpGh Q A t c V s W p sV sT st Z Ya Yb Yc Yd).σ ge → Calls Tryz.prog 3 #[.int .i64 Q, .int .i64 A, .int .i64 st, .int .i64 c, .bool true] w (TrueBelow w) := fun u hg => u ⟨hI, hg, hnl _ (GLe.refl _ _)⟩ (fun h => h) hnl hT hL hl w
  exact (bp_split (-1,[(10,1)]) (0,[(10,-1)]) (by kernel_rfl) (bp_split (-1,[(3,1)]) (0,[(3,-1)]) (by kernel_rfl) (dead_at [1, 0, 1, 0, 0, 0, 0, 0, 0, 0] (by kernel_rfl) hI) (bp_split (-1,[(0,1),(10,-1)]) (0,[(0,-1),(10,1)]) (by kernel_rfl) (bp_split (-1,[(10,1),(11,-1)]) (0,[(10,-1),(11,1)]) (by kernel_rfl) (L bpu34) (dead_at [1, 0, 0, 1, 0, 0, 0, 1, 0, 0, 0, 0] (by kernel_rfl) hI)) (bp_split (-1,[(10,1),(11,-1)]) (0,[(10,-1),(11,1)]) (by kernel_rfl) (L bpu35) (dead_at [1, 0, 0, 1, 0, 0, 0, 1, 0, 0, 0, 0] (by kernel_rfl) hI)))) (bp_split (-1,[(3,1)]) (0,[(3,-1)]) (by kernel_rfl) (dead_at [1, 0, 1, 0, 0, 0, 0, 0, 0, 0] (by kernel_rfl) hI) (L bpu36)))
theorem bp_in9 (Q A t c V s W p sV sT st Z Ya Yb Yc Yd : Int) (w : World) (hnl : ∀ G1, GLe 16 (bpGh Q A t c V s W p sV sT st Z Ya Yb Yc Yd) G1 → nlOk G1 bpNL) (hT : ∀ G1, GLe 16 (bpGh Q A t c V s W p sV sT st Z Ya Yb Yc Yd) G1 → HooksOk Tryz.prog G1 (hkT bpT)) (hL : LkOk Tryz.prog (bpGh Q A t c V s W p sV sT st Z Ya Yb Yc Yd) 16 Tryz.f3.ntmps (bpL1 10) (blocksC ((Tryz.f3.body).getD .skip))) (hI : bdOk (bpGh Q A t c V s W p sV sT st Z Ya Yb Yc Yd).σ bpI 0) : geOk (bpGh Q A t c V s W p sV sT st Z Ya Yb Yc Yd).σ [(0,[(3,-1)]), (0,[(11,1),(4,-1)]), (0,[(4,1),(11,-1)]), (-1,[(11,1)]), (0,[(10,-1)]), (-1,[(4,1)]), (0,[(0,1),(4,-1)]), (0,[(6,-1)]), (0,[(5,-1)])] → Calls Tryz.prog 3 #[.int .i64 Q, .int .i64 A, .int .i64 st, .int .i64 c, .bool true] w (TrueBelow w) := by
  have hl : concL (bpGh Q A t c V s W p sV sT st Z Ya Yb Yc Yd) (fun _ => none) bpArgs9 = some [.int .i64 Q, .int .i64 A, .int .i64 st, .int .i64 c, .bool true] := by simp [bpArgs9, concL, conc, den, mkGh, bpGh]
  have L : ∀ {ge}, bpLeaf ge (bpL1 10) bpArgs9 → geOk (bpGh Q A t c V s W p sV sT st Z Ya Yb Yc Yd).σ ge → Calls Tryz.prog 3 #[.int .i64 Q, .int .i64 A, .int .i64 st, .int .i64 c, .bool true] w (TrueBelow w) := fun u hg => u ⟨hI, hg, hnl _ (GLe.refl _ _)⟩ (fun h => h) hnl hT hL hl w
  exact (bp_split (-1,[(10,1)]) (0,[(10,-1)]) (by kernel_rfl) (dead_at [1, 0, 0, 0, 0, 1, 0, 0, 0, 0] (by kernel_rfl) hI) (bp_split (-1,[(3,1)]) (0,[(3,-1)]) (by kernel_rfl) (dead_at [1, 0, 1, 0, 0, 0, 0, 0, 0, 0, 0] (by kernel_rfl) hI) (bp_split (-1,[(1,1)]) (0,[(1,-1)]) (by kernel_rfl) (L bpu37) (L bpu38))))
theorem bp_in10 (Q A t c V s W p sV sT st Z Ya Yb Yc Yd : Int) (w : World) (hnl : ∀ G1, GLe 16 (bpGh Q A t c V s W p sV sT st Z Ya Yb Yc Yd) G1 → nlOk G1 bpNL) (hT : ∀ G1, GLe 16 (bpGh Q A t c V s W p sV sT st Z Ya Yb Yc Yd) G1 → HooksOk Tryz.prog G1 (hkT bpT)) (hL : LkOk Tryz.prog (bpGh Q A t c V s W p sV sT st Z Ya Yb Yc Yd) 16 Tryz.f3.ntmps (bpL1 10) (blocksC ((Tryz.f3.body).getD .skip))) (hI : bdOk (bpGh Q A t c V s W p sV sT st Z Ya Yb Yc Yd).σ bpI 0) : geOk (bpGh Q A t c V s W p sV sT st Z Ya Yb Yc Yd).σ [(-1,[(3,1)]), (0,[(4,-1)]), (-1,[(1,1),(3,-1)]), (0,[(6,-1)]), (0,[(5,-1)])] → Calls Tryz.prog 3 #[.int .i64 Q, .int .i64 A, .int .i64 st, .int .i64 c, .bool true] w (TrueBelow w) := by
  have hl : concL (bpGh Q A t c V s W p sV sT st Z Ya Yb Yc Yd) (fun _ => none) bpArgs10 = some [.int .i64 Q, .int .i64 A, .int .i64 st, .int .i64 c, .bool true] := by simp [bpArgs10, concL, conc, den, mkGh, bpGh]
  have L : ∀ {ge}, bpLeaf ge (bpL1 10) bpArgs10 → geOk (bpGh Q A t c V s W p sV sT st Z Ya Yb Yc Yd).σ ge → Calls Tryz.prog 3 #[.int .i64 Q, .int .i64 A, .int .i64 st, .int .i64 c, .bool true] w (TrueBelow w) := fun u hg => u ⟨hI, hg, hnl _ (GLe.refl _ _)⟩ (fun h => h) hnl hT hL hl w
  exact (bp_split (-1,[(10,1)]) (0,[(10,-1)]) (by kernel_rfl) (bp_split (-1,[(3,1)]) (0,[(3,-1)]) (by kernel_rfl) (bp_split (-1,[(0,1),(10,-1)]) (0,[(0,-1),(10,1)]) (by kernel_rfl) (bp_split (-1,[(10,1),(4,-1)]) (0,[(10,-1),(4,1)]) (by kernel_rfl) (L bpu39) (dead_at [1, 0, 0, 1, 0, 1, 0, 0, 0] (by kernel_rfl) hI)) (bp_split (-1,[(10,1),(4,-1)]) (0,[(10,-1),(4,1)]) (by kernel_rfl) (L bpu40) (dead_at [1, 0, 0, 1, 0, 1, 0, 0, 0] (by kernel_rfl) hI))) (dead_at [1, 0, 1, 0, 0, 0, 0] (by kernel_rfl) hI)) (bp_split (-1,[(3,1)]) (0,[(3,-1)]) (by kernel_rfl) (L bpu41) (dead_at [1, 0, 1, 0, 0, 0, 0] (by kernel_rfl) hI)))
theorem bp_in11 (Q A t c V s W p sV sT st Z Ya Yb Yc Yd : Int) (w : World) (hnl : ∀ G1, GLe 16 (bpGh Q A t c V s W p sV sT st Z Ya Yb Yc Yd) G1 → nlOk G1 bpNL) (hT : ∀ G1, GLe 16 (bpGh Q A t c V s W p sV sT st Z Ya Yb Yc Yd) G1 → HooksOk Tryz.prog G1 (hkT bpT)) (hL : LkOk Tryz.prog (bpGh Q A t c V s W p sV sT st Z Ya Yb Yc Yd) 16 Tryz.f3.ntmps (bpL1 10) (blocksC ((Tryz.f3.body).getD .skip))) (hI : bdOk (bpGh Q A t c V s W p sV sT st Z Ya Yb Yc Yd).σ bpI 0) : geOk (bpGh Q A t c V s W p sV sT st Z Ya Yb Yc Yd).σ [(-1,[(3,1)]), (0,[(10,-1)]), (-1,[(4,1)]), (0,[(0,1),(4,-1)]), (0,[(6,-1)]), (0,[(5,-1)])] → Calls Tryz.prog 3 #[.int .i64 Q, .int .i64 A, .int .i64 st, .int .i64 c, .bool true] w (TrueBelow w) := by
  have hl : concL (bpGh Q A t c V s W p sV sT st Z Ya Yb Yc Yd) (fun _ => none) bpArgs11 = some [.int .i64 Q, .int .i64 A, .int .i64 st, .int .i64 c, .bool true] := by simp [bpArgs11, concL, conc, den, mkGh, bpGh]
  have L : ∀ {ge}, bpLeaf ge (bpL1 10) bpArgs11 → geOk (bpGh Q A t c V s W p sV sT st Z Ya Yb Yc Yd).σ ge → Calls Tryz.prog 3 #[.int .i64 Q, .int .i64 A, .int .i64 st, .int .i64 c, .bool true] w (TrueBelow w) := fun u hg => u ⟨hI, hg, hnl _ (GLe.refl _ _)⟩ (fun h => h) hnl hT hL hl w
  exact (bp_split (-1,[(10,1)]) (0,[(10,-1)]) (by kernel_rfl) (dead_at [1, 0, 1, 0, 0, 0, 0] (by kernel_rfl) hI) (bp_split (-1,[(3,1)]) (0,[(3,-1)]) (by kernel_rfl) (bp_split (-1,[(1,1)]) (0,[(1,-1)]) (by kernel_rfl) (bp_split (-1,[(3,-1),(1,1)]) (0,[(3,1),(1,-1)]) (by kernel_rfl) (L bpu42) (L bpu43)) (L bpu44)) (dead_at [1, 0, 1, 0, 0, 0, 0, 0] (by kernel_rfl) hI)))
theorem bp_in12 (Q A t c V s W p sV sT st Z Ya Yb Yc Yd : Int) (w : World) (hnl : ∀ G1, GLe 16 (bpGh Q A t c V s W p sV sT st Z Ya Yb Yc Yd) G1 → nlOk G1 bpNL) (hT : ∀ G1, GLe 16 (bpGh Q A t c V s W p sV sT st Z Ya Yb Yc Yd) G1 → HooksOk Tryz.prog G1 (hkT bpT)) (hL : LkOk Tryz.prog (bpGh Q A t c V s W p sV sT st Z Ya Yb Yc Yd) 16 Tryz.f3.ntmps (bpL0 10) (blocksC ((Tryz.f3.body).getD .skip))) (hI : bdOk (bpGh Q A t c V s W p sV sT st Z Ya Yb Yc Yd).σ bpI 0) : geOk (bpGh Q A t c V s W p sV sT st Z Ya Yb Yc Yd).σ [(-1,[(0,1),(10,-1)]), (0,[(6,-1)]), (0,[(5,-1)])] → Calls Tryz.prog 3 #[.int .i64 Q, .int .i64 A, .int .i64 st, .int .i64 c, .bool false] w (TrueBelow w) := by
  have hl : concL (bpGh Q A t c V s W p sV sT st Z Ya Yb Yc Yd) (fun _ => none) bpArgs12 = some [.int .i64 Q, .int .i64 A, .int .i64 st, .int .i64 c, .bool false] := by simp [bpArgs12, concL, conc, den, mkGh, bpGh]
  have L : ∀ {ge}, bpLeaf ge (bpL0 10) bpArgs12 → geOk (bpGh Q A t c V s W p sV sT st Z Ya Yb Yc Yd).σ ge → Calls Tryz.prog 3 #[.int .i64 Q, .int .i64 A, .int .i64 st, .int .i64 c, .bool false] w (TrueBelow w) := fun u hg => u ⟨hI, hg, hnl _ (GLe.refl _ _)⟩ (fun h => h) hnl hT hL hl w
  exact (bp_split (-1,[(10,1)]) (0,[(10,-1)]) (by kernel_rfl) (bp_split (-1,[(3,1)]) (0,[(3,-1)]) (by kernel_rfl) (bp_split (-1,[(1,1)]) (0,[(1,-1)]) (by kernel_rfl) (bp_split (-1,[(3,-1),(1,1)]) (0,[(3,1),(1,-1)]) (by kernel_rfl) (L bpu45) (L bpu46)) (L bpu47)) (bp_split (-1,[(1,1)]) (0,[(1,-1)]) (by kernel_rfl) (L bpu48) (L bpu49))) (bp_split (-1,[(3,1)]) (0,[(3,-1)]) (by kernel_rfl) (bp_split (-1,[(1,1)]) (0,[(1,-1)]) (by kernel_rfl) (bp_split (-1,[(3,-1),(1,1)]) (0,[(3,1),(1,-1)]) (by kernel_rfl) (L bpu50) (L bpu51)) (L bpu52)) (bp_split (-1,[(1,1)]) (0,[(1,-1)]) (by kernel_rfl) (L bpu53) (L bpu54))))
theorem bp_in13 (Q A t c V s W p sV sT st Z Ya Yb Yc Yd : Int) (w : World) (hnl : ∀ G1, GLe 16 (bpGh Q A t c V s W p sV sT st Z Ya Yb Yc Yd) G1 → nlOk G1 bpNL) (hT : ∀ G1, GLe 16 (bpGh Q A t c V s W p sV sT st Z Ya Yb Yc Yd) G1 → HooksOk Tryz.prog G1 (hkT bpT)) (hL : LkOk Tryz.prog (bpGh Q A t c V s W p sV sT st Z Ya Yb Yc Yd) 16 Tryz.f3.ntmps (bpL0 10) (blocksC ((Tryz.f3.body).getD .skip))) (hI : bdOk (bpGh Q A t c V s W p sV sT st Z Ya Yb Yc Yd).σ bpI 0) : geOk (bpGh Q A t c V s W p sV sT st Z Ya Yb Yc Yd).σ [(0,[(10,1),(0,-1)]), (-1,[(1,1),(3,-1)]), (0,[(6,-1)]), (0,[(5,-1)])] → Calls Tryz.prog 3 #[.int .i64 Q, .int .i64 A, .int .i64 st, .int .i64 c, .bool false] w (TrueBelow w) := by
  have hl : concL (bpGh Q A t c V s W p sV sT st Z Ya Yb Yc Yd) (fun _ => none) bpArgs13 = some [.int .i64 Q, .int .i64 A, .int .i64 st, .int .i64 c, .bool false] := by simp [bpArgs13, concL, conc, den, mkGh, bpGh]
  have L : ∀ {ge}, bpLeaf ge (bpL0 10) bpArgs13 → geOk (bpGh Q A t c V s W p sV sT st Z Ya Yb Yc Yd).σ ge → Calls Tryz.prog 3 #[.int .i64 Q, .int .i64 A, .int .i64 st, .int .i64 c, .bool false] w (TrueBelow w) := fun u hg => u ⟨hI, hg, hnl _ (GLe.refl _ _)⟩ (fun h => h) hnl hT hL hl w
  exact (bp_split (-1,[(10,1)]) (0,[(10,-1)]) (by kernel_rfl) (bp_split (-1,[(3,1)]) (0,[(3,-1)]) (by kernel_rfl) (L bpu55) (L bpu56)) (dead_at [1, 1, 0, 0, 0] (by kernel_rfl) hI))
end Go.Proofs.YtdfgedemolielaaGreat
/- complinelaw26.BatchParts returns true, for every input. -/
namespace Go.Proofs.YtdfgedemolielaaGreat
open Go Go.RowKit Gv
section
variable {Q A t c V s W p sV sT st Z Ya Yb Yc Yd : Int}
theorem bpI_ok (F : BpF Q A t c V s W p sV sT st Z Ya Yb Yc Yd) : bdOk (mkGh [] [Q, A, t, c, V, s, W, p, sV, sT, st, Z, Ya, Yb, Yc, Yd] rfl).σ bpI 0 := by
  obtain ⟨b5, b8, b9, bc, bp⟩ := F.bounds
  obtain ⟨hQ, hA, ht, hc, hV, hW, hst, hZ, _, _, _, _, _, _, _, _, bYa, _, _, bYb, _, _, bYc, _, _, bYd, _, _⟩ := F
  exact ⟨hQ, hA, (by show (0 : Int) ≤ t ∧ t ≤ 500; omega), hc, (by show (0 : Int) ≤ V ∧ V ≤ 500; omega), (by show (0 : Int) ≤ s ∧ s ≤ 500; omega), (by show (0 : Int) ≤ W ∧ W ≤ 500; omega), bp, (by show (0 : Int) ≤ sV ∧ sV ≤ 500; omega), (by show (0 : Int) ≤ sT ∧ sT ≤ 500; omega), hst, (by show (0 : Int) ≤ Z ∧ Z ≤ 500; omega), (by show (0 : Int) ≤ Ya ∧ Ya ≤ 500; omega), (by show (0 : Int) ≤ Yb ∧ Yb ≤ 500; omega), (by show (0 : Int) ≤ Yc ∧ Yc ≤ 500; omega), (by show (0 : Int) ≤ Yd ∧ Yd ≤ 500; omega), trivial⟩
set_option maxRecDepth 100000 in
set_option maxHeartbeats 2000000 in
/- full1 -/
theorem bp_root0 (F : BpF Q A t c V s W p sV sT st Z Ya Yb Yc Yd) (hf : (V ≤ st → W = V) ∧ (st ≤ V → W = st)) (hg : geOk (mkGh [] [Q, A, t, c, V, s, W, p, sV, sT, st, Z, Ya, Yb, Yc, Yd] rfl).σ [(0,[(10,1),(0,-1)]), (0,[(3,1),(1,-1)]), (0,[(6,1),(0,-1)]), (0,[(0,1),(6,-1)]), (0,[(5,1),(1,-1)]), (0,[(1,1),(5,-1)])]) (w : World) : Calls Tryz.prog 3 #[.int .i64 Q, .int .i64 A, .int .i64 st, .int .i64 c, .bool true] w (TrueBelow w) :=
  bp_in0 Q A t c V s W p sV sT st Z Ya Yb Yc Yd w (fun G1 g => bpNlOk F (g.σ 0 (by decide)) (g.σ 1 (by decide)) (g.σ 5 (by decide)) (g.σ 6 (by decide)) (g.σ 7 (by decide))) (fun G1 g => bpT_ok (by rw [g.mono]; exact fun h => h) F (g.σ 0 (by decide)) (g.σ 1 (by decide)) (g.σ 2 (by decide)) (g.σ 3 (by decide)) (g.σ 4 (by decide)) (g.σ 8 (by decide)) (g.σ 9 (by decide)) (g.σ 11 (by decide)) (g.σ 12 (by decide)) (g.σ 13 (by decide)) (g.σ 14 (by decide)) (g.σ 15 (by decide))) (bp_l1 (bp_sem1 (bpI_ok F) 10 (.inr rfl) V F.hV F.dV F.uV hf)) (bpI_ok F) hg
set_option maxRecDepth 100000 in
set_option maxHeartbeats 2000000 in
/- full0 -/
theorem bp_root1 (F : BpF Q A t c V s W p sV sT st Z Ya Yb Yc Yd) (hf : (Q ≤ st → V = Q → W = Q) ∧ (st < Q → W = 0) ∧ (V < Q → W = 0)) (hg : geOk (mkGh [] [Q, A, t, c, V, s, W, p, sV, sT, st, Z, Ya, Yb, Yc, Yd] rfl).σ [(0,[(10,1),(0,-1)]), (0,[(3,1),(1,-1)]), (0,[(6,1),(0,-1)]), (0,[(0,1),(6,-1)]), (0,[(5,1),(1,-1)]), (0,[(1,1),(5,-1)])]) (w : World) : Calls Tryz.prog 3 #[.int .i64 Q, .int .i64 A, .int .i64 st, .int .i64 c, .bool false] w (TrueBelow w) :=
  bp_in1 Q A t c V s W p sV sT st Z Ya Yb Yc Yd w (fun G1 g => bpNlOk F (g.σ 0 (by decide)) (g.σ 1 (by decide)) (g.σ 5 (by decide)) (g.σ 6 (by decide)) (g.σ 7 (by decide))) (fun G1 g => bpT_ok (by rw [g.mono]; exact fun h => h) F (g.σ 0 (by decide)) (g.σ 1 (by decide)) (g.σ 2 (by decide)) (g.σ 3 (by decide)) (g.σ 4 (by decide)) (g.σ 8 (by decide)) (g.σ 9 (by decide)) (g.σ 11 (by decide)) (g.σ 12 (by decide)) (g.σ 13 (by decide)) (g.σ 14 (by decide)) (g.σ 15 (by decide))) (bp_l0 (bp_sem0 (bpI_ok F) 10 (.inr rfl) V F.hV F.dV F.uV hf)) (bpI_ok F) hg
set_option maxRecDepth 100000 in
set_option maxHeartbeats 2000000 in
/- az -/
theorem bp_root2 (F : BpF Q A t c V s W p sV sT st Z Ya Yb Yc Yd) (hf : (V ≤ st → W = V) ∧ (st ≤ V → W = st)) (hg : geOk (mkGh [] [Q, A, t, c, V, s, W, p, sV, sT, st, Z, Ya, Yb, Yc, Yd] rfl).σ [(0,[(3,-1)]), (0,[(8,-1)]), (0,[(11,1),(4,-1)]), (0,[(4,1),(11,-1)]), (-1,[(10,1),(11,-1)]), (0,[(6,1),(11,-1)]), (0,[(11,1),(6,-1)]), (-1,[(10,1),(4,-1)]), (-1,[(4,1)]), (-1,[(0,1),(4,-1)]), (-1,[(1,1),(3,-1)]), (0,[(6,1),(4,-1)]), (0,[(4,1),(6,-1)]), (0,[(5,1),(8,-1)]), (0,[(8,1),(5,-1)]), (0,[(3,1),(8,-1)]), (0,[(1,1),(8,-1)]), (-1,[(11,1)]), (-1,[(0,1),(11,-1)])]) (w : World) : Calls Tryz.prog 3 #[.int .i64 Q, .int .i64 A, .int .i64 st, .int .i64 c, .bool true] w (TrueBelow w) :=
  bp_in2 Q A t c V s W p sV sT st Z Ya Yb Yc Yd w (fun G1 g => bpNlOk F (g.σ 0 (by decide)) (g.σ 1 (by decide)) (g.σ 5 (by decide)) (g.σ 6 (by decide)) (g.σ 7 (by decide))) (fun G1 g => bpT_ok (by rw [g.mono]; exact fun h => h) F (g.σ 0 (by decide)) (g.σ 1 (by decide)) (g.σ 2 (by decide)) (g.σ 3 (by decide)) (g.σ 4 (by decide)) (g.σ 8 (by decide)) (g.σ 9 (by decide)) (g.σ 11 (by decide)) (g.σ 12 (by decide)) (g.σ 13 (by decide)) (g.σ 14 (by decide)) (g.σ 15 (by decide))) (bp_l1 (bp_sem1 (bpI_ok F) 10 (.inr rfl) V F.hV F.dV F.uV hf)) (bpI_ok F) hg
set_option maxRecDepth 100000 in
set_option maxHeartbeats 2000000 in
/- ae1 -/
theorem bp_root3 (F : BpF Q A t c V s W p sV sT st Z Ya Yb Yc Yd) (hf : (V ≤ st → W = V) ∧ (st ≤ V → W = st)) (hg : geOk (mkGh [] [Q, A, t, c, V, s, W, p, sV, sT, st, Z, Ya, Yb, Yc, Yd] rfl).σ [(-1,[(8,1)]), (-1,[(3,1)]), (0,[(3,1),(8,-1)]), (0,[(8,1),(3,-1)]), (0,[(12,-1)]), (-1,[(10,1),(4,-1)]), (-1,[(4,1)]), (-1,[(0,1),(4,-1)]), (-1,[(1,1),(3,-1)]), (0,[(6,1),(4,-1)]), (0,[(4,1),(6,-1)]), (0,[(5,1),(8,-1)]), (0,[(8,1),(5,-1)]), (0,[(3,1),(8,-1)]), (0,[(1,1),(8,-1)])]) (w : World) : Calls Tryz.prog 3 #[.int .i64 Q, .int .i64 A, .int .i64 st, .int .i64 c, .bool true] w (TrueBelow w) :=
  bp_in3 Q A t c V s W p sV sT st Z Ya Yb Yc Yd w (fun G1 g => bpNlOk F (g.σ 0 (by decide)) (g.σ 1 (by decide)) (g.σ 5 (by decide)) (g.σ 6 (by decide)) (g.σ 7 (by decide))) (fun G1 g => bpT_ok (by rw [g.mono]; exact fun h => h) F (g.σ 0 (by decide)) (g.σ 1 (by decide)) (g.σ 2 (by decide)) (g.σ 3 (by decide)) (g.σ 4 (by decide)) (g.σ 8 (by decide)) (g.σ 9 (by decide)) (g.σ 11 (by decide)) (g.σ 12 (by decide)) (g.σ 13 (by decide)) (g.σ 14 (by decide)) (g.σ 15 (by decide))) (bp_l1 (bp_sem1 (bpI_ok F) 10 (.inr rfl) V F.hV F.dV F.uV hf)) (bpI_ok F) hg
set_option maxRecDepth 100000 in
set_option maxHeartbeats 2000000 in
/- ag0 -/
theorem bp_root4 (F : BpF Q A t c V s W p sV sT st Z Ya Yb Yc Yd) (hf : (V ≤ st → W = V) ∧ (st ≤ V → W = st)) (hg : geOk (mkGh [] [Q, A, t, c, V, s, W, p, sV, sT, st, Z, Ya, Yb, Yc, Yd] rfl).σ [(0,[(8,-1)]), (-1,[(3,1)]), (0,[(14,-1)]), (-1,[(10,1),(4,-1)]), (-1,[(4,1)]), (-1,[(0,1),(4,-1)]), (-1,[(1,1),(3,-1)]), (0,[(6,1),(4,-1)]), (0,[(4,1),(6,-1)]), (0,[(5,1),(8,-1)]), (0,[(8,1),(5,-1)]), (0,[(3,1),(8,-1)]), (0,[(1,1),(8,-1)])]) (w : World) : Calls Tryz.prog 3 #[.int .i64 Q, .int .i64 A, .int .i64 st, .int .i64 c, .bool true] w (TrueBelow w) :=
  bp_in4 Q A t c V s W p sV sT st Z Ya Yb Yc Yd w (fun G1 g => bpNlOk F (g.σ 0 (by decide)) (g.σ 1 (by decide)) (g.σ 5 (by decide)) (g.σ 6 (by decide)) (g.σ 7 (by decide))) (fun G1 g => bpT_ok (by rw [g.mono]; exact fun h => h) F (g.σ 0 (by decide)) (g.σ 1 (by decide)) (g.σ 2 (by decide)) (g.σ 3 (by decide)) (g.σ 4 (by decide)) (g.σ 8 (by decide)) (g.σ 9 (by decide)) (g.σ 11 (by decide)) (g.σ 12 (by decide)) (g.σ 13 (by decide)) (g.σ 14 (by decide)) (g.σ 15 (by decide))) (bp_l1 (bp_sem1 (bpI_ok F) 10 (.inr rfl) V F.hV F.dV F.uV hf)) (bpI_ok F) hg
set_option maxRecDepth 100000 in
set_option maxHeartbeats 2000000 in
/- ag1 -/
theorem bp_root5 (F : BpF Q A t c V s W p sV sT st Z Ya Yb Yc Yd) (hf : (V ≤ st → W = V) ∧ (st ≤ V → W = st)) (hg : geOk (mkGh [] [Q, A, t, c, V, s, W, p, sV, sT, st, Z, Ya, Yb, Yc, Yd] rfl).σ [(-1,[(8,1)]), (-1,[(3,1)]), (-1,[(3,1),(8,-1)]), (-1,[(10,1),(4,-1)]), (-1,[(4,1)]), (-1,[(0,1),(4,-1)]), (-1,[(1,1),(3,-1)]), (0,[(6,1),(4,-1)]), (0,[(4,1),(6,-1)]), (0,[(5,1),(8,-1)]), (0,[(8,1),(5,-1)]), (0,[(3,1),(8,-1)]), (0,[(1,1),(8,-1)])]) (w : World) : Calls Tryz.prog 3 #[.int .i64 Q, .int .i64 A, .int .i64 st, .int .i64 c, .bool true] w (TrueBelow w) :=
  bp_in5 Q A t c V s W p sV sT st Z Ya Yb Yc Yd w (fun G1 g => bpNlOk F (g.σ 0 (by decide)) (g.σ 1 (by decide)) (g.σ 5 (by decide)) (g.σ 6 (by decide)) (g.σ 7 (by decide))) (fun G1 g => bpT_ok (by rw [g.mono]; exact fun h => h) F (g.σ 0 (by decide)) (g.σ 1 (by decide)) (g.σ 2 (by decide)) (g.σ 3 (by decide)) (g.σ 4 (by decide)) (g.σ 8 (by decide)) (g.σ 9 (by decide)) (g.σ 11 (by decide)) (g.σ 12 (by decide)) (g.σ 13 (by decide)) (g.σ 14 (by decide)) (g.σ 15 (by decide))) (bp_l1 (bp_sem1 (bpI_ok F) 10 (.inr rfl) V F.hV F.dV F.uV hf)) (bpI_ok F) hg
set_option maxRecDepth 100000 in
set_option maxHeartbeats 2000000 in
/- bz -/
theorem bp_root6 (F : BpF Q A t c V s W p sV sT st Z Ya Yb Yc Yd) (hf : (V ≤ t → W = V) ∧ (t ≤ V → W = t)) (hg : geOk (mkGh [] [Q, A, t, c, V, s, W, p, sV, sT, st, Z, Ya, Yb, Yc, Yd] rfl).σ [(0,[(3,-1)]), (0,[(9,-1)]), (0,[(11,1),(4,-1)]), (0,[(4,1),(11,-1)]), (0,[(11,1),(2,-1)]), (-1,[(2,1)]), (0,[(4,1),(2,-1)]), (-1,[(0,1),(2,-1)]), (0,[(6,1),(2,-1)]), (0,[(2,1),(6,-1)]), (0,[(5,1),(9,-1)]), (0,[(9,1),(5,-1)]), (0,[(3,1),(9,-1)]), (0,[(1,1),(9,-1)])]) (w : World) : Calls Tryz.prog 3 #[.int .i64 Q, .int .i64 A, .int .i64 t, .int .i64 c, .bool true] w (TrueBelow w) :=
  bp_in6 Q A t c V s W p sV sT st Z Ya Yb Yc Yd w (fun G1 g => bpNlOk F (g.σ 0 (by decide)) (g.σ 1 (by decide)) (g.σ 5 (by decide)) (g.σ 6 (by decide)) (g.σ 7 (by decide))) (fun G1 g => bpT_ok (by rw [g.mono]; exact fun h => h) F (g.σ 0 (by decide)) (g.σ 1 (by decide)) (g.σ 2 (by decide)) (g.σ 3 (by decide)) (g.σ 4 (by decide)) (g.σ 8 (by decide)) (g.σ 9 (by decide)) (g.σ 11 (by decide)) (g.σ 12 (by decide)) (g.σ 13 (by decide)) (g.σ 14 (by decide)) (g.σ 15 (by decide))) (bp_l1 (bp_sem1 (bpI_ok F) 2 (.inl rfl) V F.hV F.dV F.uV hf)) (bpI_ok F) hg
set_option maxRecDepth 100000 in
set_option maxHeartbeats 2000000 in
/- bg -/
theorem bp_root7 (F : BpF Q A t c V s W p sV sT st Z Ya Yb Yc Yd) (hf : (V ≤ t → W = V) ∧ (t ≤ V → W = t)) (hg : geOk (mkGh [] [Q, A, t, c, V, s, W, p, sV, sT, st, Z, Ya, Yb, Yc, Yd] rfl).σ [(-1,[(3,1)]), (-1,[(2,1)]), (0,[(4,1),(2,-1)]), (-1,[(0,1),(2,-1)]), (0,[(6,1),(2,-1)]), (0,[(2,1),(6,-1)]), (0,[(5,1),(9,-1)]), (0,[(9,1),(5,-1)]), (0,[(3,1),(9,-1)]), (0,[(1,1),(9,-1)])]) (w : World) : Calls Tryz.prog 3 #[.int .i64 Q, .int .i64 A, .int .i64 t, .int .i64 c, .bool true] w (TrueBelow w) :=
  bp_in7 Q A t c V s W p sV sT st Z Ya Yb Yc Yd w (fun G1 g => bpNlOk F (g.σ 0 (by decide)) (g.σ 1 (by decide)) (g.σ 5 (by decide)) (g.σ 6 (by decide)) (g.σ 7 (by decide))) (fun G1 g => bpT_ok (by rw [g.mono]; exact fun h => h) F (g.σ 0 (by decide)) (g.σ 1 (by decide)) (g.σ 2 (by decide)) (g.σ 3 (by decide)) (g.σ 4 (by decide)) (g.σ 8 (by decide)) (g.σ 9 (by decide)) (g.σ 11 (by decide)) (g.σ 12 (by decide)) (g.σ 13 (by decide)) (g.σ 14 (by decide)) (g.σ 15 (by decide))) (bp_l1 (bp_sem1 (bpI_ok F) 2 (.inl rfl) V F.hV F.dV F.uV hf)) (bpI_ok F) hg
set_option maxRecDepth 100000 in
set_option maxHeartbeats 2000000 in
/- vz -/
theorem bp_root8 (F : BpF Q A t c V s W p sV sT st Z Ya Yb Yc Yd) (hf : (V ≤ st → W = V) ∧ (st ≤ V → W = st)) (hg : geOk (mkGh [] [Q, A, t, c, V, s, W, p, sV, sT, st, Z, Ya, Yb, Yc, Yd] rfl).σ [(0,[(3,-1)]), (0,[(11,1),(4,-1)]), (0,[(4,1),(11,-1)]), (0,[(11,-1)]), (0,[(4,-1)]), (-1,[(1,1),(3,-1)]), (0,[(6,-1)]), (0,[(5,-1)])]) (w : World) : Calls Tryz.prog 3 #[.int .i64 Q, .int .i64 A, .int .i64 st, .int .i64 c, .bool true] w (TrueBelow w) :=
  bp_in8 Q A t c V s W p sV sT st Z Ya Yb Yc Yd w (fun G1 g => bpNlOk F (g.σ 0 (by decide)) (g.σ 1 (by decide)) (g.σ 5 (by decide)) (g.σ 6 (by decide)) (g.σ 7 (by decide))) (fun G1 g => bpT_ok (by rw [g.mono]; exact fun h => h) F (g.σ 0 (by decide)) (g.σ 1 (by decide)) (g.σ 2 (by decide)) (g.σ 3 (by decide)) (g.σ 4 (by decide)) (g.σ 8 (by decide)) (g.σ 9 (by decide)) (g.σ 11 (by decide)) (g.σ 12 (by decide)) (g.σ 13 (by decide)) (g.σ 14 (by decide)) (g.σ 15 (by decide))) (bp_l1 (bp_sem1 (bpI_ok F) 10 (.inr rfl) V F.hV F.dV F.uV hf)) (bpI_ok F) hg
set_option maxRecDepth 100000 in
set_option maxHeartbeats 2000000 in
/- sz -/
theorem bp_root9 (F : BpF Q A t c V s W p sV sT st Z Ya Yb Yc Yd) (hf : (V ≤ st → W = V) ∧ (st ≤ V → W = st)) (hg : geOk (mkGh [] [Q, A, t, c, V, s, W, p, sV, sT, st, Z, Ya, Yb, Yc, Yd] rfl).σ [(0,[(3,-1)]), (0,[(11,1),(4,-1)]), (0,[(4,1),(11,-1)]), (-1,[(11,1)]), (0,[(10,-1)]), (-1,[(4,1)]), (0,[(0,1),(4,-1)]), (0,[(6,-1)]), (0,[(5,-1)])]) (w : World) : Calls Tryz.prog 3 #[.int .i64 Q, .int .i64 A, .int .i64 st, .int .i64 c, .bool true] w (TrueBelow w) :=
  bp_in9 Q A t c V s W p sV sT st Z Ya Yb Yc Yd w (fun G1 g => bpNlOk F (g.σ 0 (by decide)) (g.σ 1 (by decide)) (g.σ 5 (by decide)) (g.σ 6 (by decide)) (g.σ 7 (by decide))) (fun G1 g => bpT_ok (by rw [g.mono]; exact fun h => h) F (g.σ 0 (by decide)) (g.σ 1 (by decide)) (g.σ 2 (by decide)) (g.σ 3 (by decide)) (g.σ 4 (by decide)) (g.σ 8 (by decide)) (g.σ 9 (by decide)) (g.σ 11 (by decide)) (g.σ 12 (by decide)) (g.σ 13 (by decide)) (g.σ 14 (by decide)) (g.σ 15 (by decide))) (bp_l1 (bp_sem1 (bpI_ok F) 10 (.inr rfl) V F.hV F.dV F.uV hf)) (bpI_ok F) hg
set_option maxRecDepth 100000 in
set_option maxHeartbeats 2000000 in
/- vg -/
theorem bp_root10 (F : BpF Q A t c V s W p sV sT st Z Ya Yb Yc Yd) (hf : (V ≤ st → W = V) ∧ (st ≤ V → W = st)) (hg : geOk (mkGh [] [Q, A, t, c, V, s, W, p, sV, sT, st, Z, Ya, Yb, Yc, Yd] rfl).σ [(-1,[(3,1)]), (0,[(4,-1)]), (-1,[(1,1),(3,-1)]), (0,[(6,-1)]), (0,[(5,-1)])]) (w : World) : Calls Tryz.prog 3 #[.int .i64 Q, .int .i64 A, .int .i64 st, .int .i64 c, .bool true] w (TrueBelow w) :=
  bp_in10 Q A t c V s W p sV sT st Z Ya Yb Yc Yd w (fun G1 g => bpNlOk F (g.σ 0 (by decide)) (g.σ 1 (by decide)) (g.σ 5 (by decide)) (g.σ 6 (by decide)) (g.σ 7 (by decide))) (fun G1 g => bpT_ok (by rw [g.mono]; exact fun h => h) F (g.σ 0 (by decide)) (g.σ 1 (by decide)) (g.σ 2 (by decide)) (g.σ 3 (by decide)) (g.σ 4 (by decide)) (g.σ 8 (by decide)) (g.σ 9 (by decide)) (g.σ 11 (by decide)) (g.σ 12 (by decide)) (g.σ 13 (by decide)) (g.σ 14 (by decide)) (g.σ 15 (by decide))) (bp_l1 (bp_sem1 (bpI_ok F) 10 (.inr rfl) V F.hV F.dV F.uV hf)) (bpI_ok F) hg
set_option maxRecDepth 100000 in
set_option maxHeartbeats 2000000 in
/- sg -/
theorem bp_root11 (F : BpF Q A t c V s W p sV sT st Z Ya Yb Yc Yd) (hf : (V ≤ st → W = V) ∧ (st ≤ V → W = st)) (hg : geOk (mkGh [] [Q, A, t, c, V, s, W, p, sV, sT, st, Z, Ya, Yb, Yc, Yd] rfl).σ [(-1,[(3,1)]), (0,[(10,-1)]), (-1,[(4,1)]), (0,[(0,1),(4,-1)]), (0,[(6,-1)]), (0,[(5,-1)])]) (w : World) : Calls Tryz.prog 3 #[.int .i64 Q, .int .i64 A, .int .i64 st, .int .i64 c, .bool true] w (TrueBelow w) :=
  bp_in11 Q A t c V s W p sV sT st Z Ya Yb Yc Yd w (fun G1 g => bpNlOk F (g.σ 0 (by decide)) (g.σ 1 (by decide)) (g.σ 5 (by decide)) (g.σ 6 (by decide)) (g.σ 7 (by decide))) (fun G1 g => bpT_ok (by rw [g.mono]; exact fun h => h) F (g.σ 0 (by decide)) (g.σ 1 (by decide)) (g.σ 2 (by decide)) (g.σ 3 (by decide)) (g.σ 4 (by decide)) (g.σ 8 (by decide)) (g.σ 9 (by decide)) (g.σ 11 (by decide)) (g.σ 12 (by decide)) (g.σ 13 (by decide)) (g.σ 14 (by decide)) (g.σ 15 (by decide))) (bp_l1 (bp_sem1 (bpI_ok F) 10 (.inr rfl) V F.hV F.dV F.uV hf)) (bpI_ok F) hg
set_option maxRecDepth 100000 in
set_option maxHeartbeats 2000000 in
/- n1 -/
theorem bp_root12 (F : BpF Q A t c V s W p sV sT st Z Ya Yb Yc Yd) (hf : (Q ≤ st → V = Q → W = Q) ∧ (st < Q → W = 0) ∧ (V < Q → W = 0)) (hg : geOk (mkGh [] [Q, A, t, c, V, s, W, p, sV, sT, st, Z, Ya, Yb, Yc, Yd] rfl).σ [(-1,[(0,1),(10,-1)]), (0,[(6,-1)]), (0,[(5,-1)])]) (w : World) : Calls Tryz.prog 3 #[.int .i64 Q, .int .i64 A, .int .i64 st, .int .i64 c, .bool false] w (TrueBelow w) :=
  bp_in12 Q A t c V s W p sV sT st Z Ya Yb Yc Yd w (fun G1 g => bpNlOk F (g.σ 0 (by decide)) (g.σ 1 (by decide)) (g.σ 5 (by decide)) (g.σ 6 (by decide)) (g.σ 7 (by decide))) (fun G1 g => bpT_ok (by rw [g.mono]; exact fun h => h) F (g.σ 0 (by decide)) (g.σ 1 (by decide)) (g.σ 2 (by decide)) (g.σ 3 (by decide)) (g.σ 4 (by decide)) (g.σ 8 (by decide)) (g.σ 9 (by decide)) (g.σ 11 (by decide)) (g.σ 12 (by decide)) (g.σ 13 (by decide)) (g.σ 14 (by decide)) (g.σ 15 (by decide))) (bp_l0 (bp_sem0 (bpI_ok F) 10 (.inr rfl) V F.hV F.dV F.uV hf)) (bpI_ok F) hg
set_option maxRecDepth 100000 in
set_option maxHeartbeats 2000000 in
/- n2 -/
theorem bp_root13 (F : BpF Q A t c V s W p sV sT st Z Ya Yb Yc Yd) (hf : (Q ≤ st → V = Q → W = Q) ∧ (st < Q → W = 0) ∧ (V < Q → W = 0)) (hg : geOk (mkGh [] [Q, A, t, c, V, s, W, p, sV, sT, st, Z, Ya, Yb, Yc, Yd] rfl).σ [(0,[(10,1),(0,-1)]), (-1,[(1,1),(3,-1)]), (0,[(6,-1)]), (0,[(5,-1)])]) (w : World) : Calls Tryz.prog 3 #[.int .i64 Q, .int .i64 A, .int .i64 st, .int .i64 c, .bool false] w (TrueBelow w) :=
  bp_in13 Q A t c V s W p sV sT st Z Ya Yb Yc Yd w (fun G1 g => bpNlOk F (g.σ 0 (by decide)) (g.σ 1 (by decide)) (g.σ 5 (by decide)) (g.σ 6 (by decide)) (g.σ 7 (by decide))) (fun G1 g => bpT_ok (by rw [g.mono]; exact fun h => h) F (g.σ 0 (by decide)) (g.σ 1 (by decide)) (g.σ 2 (by decide)) (g.σ 3 (by decide)) (g.σ 4 (by decide)) (g.σ 8 (by decide)) (g.σ 9 (by decide)) (g.σ 11 (by decide)) (g.σ 12 (by decide)) (g.σ 13 (by decide)) (g.σ 14 (by decide)) (g.σ 15 (by decide))) (bp_l0 (bp_sem0 (bpI_ok F) 10 (.inr rfl) V F.hV F.dV F.uV hf)) (bpI_ok F) hg
end
set_option maxRecDepth 100000 in
theorem bpMk {Q A c V Z : Int} (t st W : Int) (hQ : 1 ≤ Q ∧ Q ≤ 500) (hA : 0 ≤ A ∧ A ≤ 500) (hc : 0 ≤ c ∧ c ≤ 500) (hV : 0 ≤ V ∧ V ≤ Q) (hZ : 0 ≤ Z ∧ Z ≤ Q)
    (dV : ∀ m : Int, 1 ≤ m → m ≤ V → A * m / Q ≤ c) (uV : ∀ m : Int, V < m → m ≤ Q → c < A * m / Q) (dZ : ∀ m : Int, 1 ≤ m → m ≤ Z → A * m / Q ≤ 0) (uZ : ∀ m : Int, Z < m → m ≤ Q → 0 < A * m / Q)
    (ht : 0 ≤ t ∧ t ≤ V) (hst : 0 ≤ st ∧ st ≤ 500) (hW : 0 ≤ W ∧ W ≤ Q) : ∃ s p sV sT Ya Yb Yc Yd : Int, BpF Q A t c V s W p sV sT st Z Ya Yb Yc Yd := by
  obtain ⟨sV, h8⟩ : ∃ z, A * V / Q = z := ⟨_, rfl⟩
  obtain ⟨sT, h9⟩ : ∃ z, A * t / Q = z := ⟨_, rfl⟩
  have mono : ∀ (b p : Int) (m n : Int), m ≤ n → A * (m + b) / Q - p ≤ A * (n + b) / Q - p := fun b p m n h => Int.sub_le_sub_right (bp_mono hA.1 hQ.1 (by omega)) _
  have gr : ∀ (b p M : Int), 0 ≤ b ∧ b ≤ Q → ∃ Y : Int, (0 ≤ Y ∧ Y ≤ Q - b) ∧ (∀ m : Int, 1 ≤ m → m ≤ Y → A * (m + b) / Q - p ≤ M) ∧ (∀ m : Int, Y < m → m ≤ Q - b → M < A * (m + b) / Q - p) := fun b p M hb => by
    obtain ⟨Y, y1, y2, y3, y4⟩ := bp_great (fun m => A * (m + b) / Q - p) (mono b p) M (Q - b).toNat
    exact ⟨Y, by omega, y3, fun m a1 a2 => y4 m a1 (by omega)⟩
  obtain ⟨Ya, a1, a2, a3⟩ := gr V sV 0 hV
  obtain ⟨Yb, b1, b2, b3⟩ := gr t sT 0 (by omega)
  obtain ⟨Yc, c1, c2, c3⟩ := gr V sV c hV
  obtain ⟨Yd, e1, e2, e3⟩ := gr t sT c (by omega)
  exact ⟨_, _, sV, sT, Ya, Yb, Yc, Yd, ⟨hQ, hA, ht, hc, hV, hW, hst, hZ, rfl, rfl, h8, h9, dV, uV, dZ, uZ, a1, a2, a3, b1, b2, b3, c1, c2, c3, e1, e2, e3⟩⟩
set_option maxRecDepth 100000 in
set_option maxHeartbeats 4000000 in
theorem bpMid (qty amount stock cash : Int) (parts : Bool) (h0 : 1 ≤ qty ∧ qty ≤ 500) (h1 : 0 ≤ amount ∧ amount ≤ 500) (h2 : 0 ≤ stock ∧ stock ≤ 500) (h3 : 0 ≤ cash ∧ cash ≤ 500) (w : World) : Calls Tryz.prog 3 #[.int .i64 qty, .int .i64 amount, .int .i64 stock, .int .i64 cash, .bool parts] w (TrueBelow w) := by
  obtain ⟨V, v1, v2, dV, uV0⟩ := bp_great (fun m => amount * m / qty) (fun _ _ h => bp_mono h1.1 h0.1 h) cash qty.toNat
  obtain ⟨Z, z1, z2, dZ, uZ0⟩ := bp_great (fun m => amount * m / qty) (fun _ _ h => bp_mono h1.1 h0.1 h) 0 qty.toNat
  have hV : 0 ≤ V ∧ V ≤ qty := by omega
  have hZ : 0 ≤ Z ∧ Z ≤ qty := by omega
  have uV : ∀ m : Int, V < m → m ≤ qty → cash < amount * m / qty := fun m a b => uV0 m a (by omega)
  have uZ : ∀ m : Int, Z < m → m ≤ qty → 0 < amount * m / qty := fun m a b => uZ0 m a (by omega)
  clear uV0 uZ0
  have hwhole : amount * qty / qty = amount := Int.mul_ediv_cancel _ (by omega)
  have hfull : V = qty → amount ≤ cash := fun h => by
    have := dV qty (by omega) (by omega)
    rwa [hwhole] at this
  have hless : V < qty → cash < amount := fun h => by
    have := uV qty h (Int.le_refl _)
    rwa [hwhole] at this
  have hVZ : cash = 0 → V = Z := fun h => by
    rcases Int.lt_trichotomy V Z with a | a | a
    · have x := dZ Z (by omega) (Int.le_refl _)
      have y := uV Z a hZ.2
      omega
    · exact a
    · have x := dV V (by omega) (Int.le_refl _)
      have y := uZ V a hV.2
      omega
  have mk := fun t st W => bpMk (Q := qty) (A := amount) (c := cash) (V := V) (Z := Z) t st W h0 h1 h3 hV hZ dV uV dZ uZ
  by_cases cf : qty ≤ stock ∧ amount ≤ cash
  · have hVq : V = qty := by
      by_cases h : V = qty
      · exact h
      · have := hless (by omega); omega
    obtain ⟨s, p, sV, sT, Ya, Yb, Yc, Yd, F⟩ := mk 0 stock qty (by omega) h2 (by omega)
    have hs : s = amount := by rw [← F.h5]; exact hwhole
    cases parts with
    | true => exact bp_root0 F (by omega) (by simp [geOk, den, mkGh]; omega) w
    | false => exact bp_root1 F (by omega) (by simp [geOk, den, mkGh]; omega) w
  · cases parts with
    | false =>
      obtain ⟨s, p, sV, sT, Ya, Yb, Yc, Yd, F⟩ := mk 0 stock 0 (by omega) h2 (by omega)
      have hs : s = 0 := by rw [← F.h5]; simp
      by_cases cs : stock < qty
      · exact bp_root12 F (by omega) (by simp [geOk, den, mkGh]; omega) w
      · have hVl : V < qty := by
          by_cases h : V < qty
          · exact h
          · have := hfull (by omega); omega
        exact bp_root13 F (by omega) (by simp [geOk, den, mkGh]; omega) w
    | true =>
      by_cases cv : V = 0
      · have hl := hless (by omega)
        obtain ⟨s, p, sV, sT, Ya, Yb, Yc, Yd, F⟩ := mk 0 stock 0 (by omega) h2 (by omega)
        have hs : s = 0 := by rw [← F.h5]; simp
        by_cases cc : cash = 0
        · have hvz := hVZ cc
          exact bp_root8 F (by omega) (by simp [geOk, den, mkGh]; omega) w
        · exact bp_root10 F (by omega) (by simp [geOk, den, mkGh]; omega) w
      · by_cases cs : stock = 0
        · obtain ⟨s, p, sV, sT, Ya, Yb, Yc, Yd, F⟩ := mk 0 stock 0 (by omega) h2 (by omega)
          have hs : s = 0 := by rw [← F.h5]; simp
          by_cases cc : cash = 0
          · have hvz := hVZ cc
            exact bp_root9 F (by omega) (by simp [geOk, den, mkGh]; omega) w
          · exact bp_root11 F (by omega) (by simp [geOk, den, mkGh]; omega) w
        · by_cases ca : V < stock
          · have hVl : V < qty := by
              by_cases h : V < qty
              · exact h
              · have := hfull (by omega); omega
            have hl := hless hVl
            obtain ⟨s, p, sV, sT, Ya, Yb, Yc, Yd, F⟩ := mk 0 stock V (by omega) h2 hV
            have hs : s = sV := by rw [← F.h5, F.h8]
            obtain ⟨_, q8, _, qc, _⟩ := F.bounds
            by_cases cc : cash = 0
            · have hvz := hVZ cc
              exact bp_root2 F (by omega) (by simp [geOk, den, mkGh]; omega) w
            · by_cases c0 : sV = 0
              · have hy : Yc = 0 := by
                  by_cases h : Yc = 0
                  · exact h
                  · have x := F.dYc 1 (by omega) (by have := F.bYc; omega)
                    have y := F.uV (1 + V) (by omega) (by omega)
                    omega
                exact bp_root4 F (by omega) (by simp [geOk, den, mkGh]; omega) w
              · by_cases c1 : sV = cash
                · have hy : Ya = 0 := by
                    by_cases h : Ya = 0
                    · exact h
                    · have x := F.dYa 1 (by omega) (by have := F.bYa; omega)
                      have y := F.uV (1 + V) (by omega) (by omega)
                      omega
                  exact bp_root3 F (by omega) (by simp [geOk, den, mkGh]; omega) w
                · exact bp_root5 F (by omega) (by simp [geOk, den, mkGh]; omega) w
          · have hsl : stock < qty := by
              by_cases h : stock < qty
              · exact h
              · have := hfull (by omega); omega
            obtain ⟨s, p, sV, sT, Ya, Yb, Yc, Yd, F⟩ := mk stock 0 stock (by omega) (by omega) (by omega)
            have hs : s = sT := by rw [← F.h5, F.h9]
            obtain ⟨_, q8, q9, qc, _⟩ := F.bounds
            by_cases cc : cash = 0
            · have hvz := hVZ cc
              exact bp_root6 F (by omega) (by simp [geOk, den, mkGh]; omega) w
            · exact bp_root7 F (by omega) (by simp [geOk, den, mkGh]; omega) w
set_option maxRecDepth 100000 in
theorem bpAll (qty amount stock cash : Int) (parts : Bool) (h0 : -9223372036854775808 ≤ qty ∧ qty ≤ 9223372036854775807) (h1 : -9223372036854775808 ≤ amount ∧ amount ≤ 9223372036854775807) (h2 : -9223372036854775808 ≤ stock ∧ stock ≤ 9223372036854775807) (h3 : -9223372036854775808 ≤ cash ∧ cash ≤ 9223372036854775807) (w : World) : Calls Tryz.prog 3 #[.int .i64 qty, .int .i64 amount, .int .i64 stock, .int .i64 cash, .bool parts] w (TrueBelow w) := by
  have out : ∀ {bd : List (Int × Int)} {ge : List LF}, BpRun bd ge → bdOk (mkGh [.bool parts] [qty, amount, stock, cash] rfl).σ bd 0 → geOk (mkGh [.bool parts] [qty, amount, stock, cash] rfl).σ ge → Calls Tryz.prog 3 #[.int .i64 qty, .int .i64 amount, .int .i64 stock, .int .i64 cash, .bool parts] w (TrueBelow w) := fun {bd ge} hr hb hg => by
    have F : Facts (mkGh [.bool parts] [qty, amount, stock, cash] rfl) bd ge [] := ⟨hb, hg, trivial⟩
    exact run_true (nl := []) progOk F (libS_ok F (mapsH_ok F (bpA_ok _ _ _))) Tryz.func3 rfl (by simp [bpOArgs, concL, conc, den, mkGh]) hr w
  have hO : bdOk (mkGh [.bool parts] [qty, amount, stock, cash] rfl).σ bpO 0 := ⟨h0, h1, h2, h3, trivial⟩
  by_cases c0 : qty < 1
  · exact out bpo0 hO (by simp [geOk, bpNo, den, mkGh]; omega)
  by_cases c1 : 500 < qty
  · exact out bpo1 hO (by simp [geOk, bpNo, den, mkGh]; omega)
  by_cases c2 : amount < 0
  · exact out bpo2 hO (by simp [geOk, bpNo, den, mkGh]; omega)
  by_cases c3 : 500 < amount
  · exact out bpo3 hO (by simp [geOk, bpNo, den, mkGh]; omega)
  by_cases c4 : stock < 0
  · exact out bpo4 hO (by simp [geOk, bpNo, den, mkGh]; omega)
  by_cases c5 : 500 < stock
  · exact out bpo5 hO (by simp [geOk, bpNo, den, mkGh]; omega)
  by_cases c6 : cash < 0
  · exact out bpo6 hO (by simp [geOk, bpNo, den, mkGh]; omega)
  by_cases c7 : 500 < cash
  · exact out bpo7 hO (by simp [geOk, bpNo, den, mkGh]; omega)
  exact bpMid qty amount stock cash parts (by omega) (by omega) (by omega) (by omega) w
set_option maxRecDepth 100000 in
theorem bp_int {W : World} {base : Nat} {v : Value} (h : Value.okWide Tryz.prog W .any base 3 v) : ∃ n, v = .int .i64 n ∧ -9223372036854775808 ≤ n ∧ n ≤ 9223372036854775807 := by
  unfold Value.okWide at h
  rw [Tryz.underlying3] at h
  exact cell_int Tryz.underlying3 h
set_option maxRecDepth 100000 in
theorem bp_bool {W : World} {base : Nat} {v : Value} (h : Value.okWide Tryz.prog W .any base 4 v) : ∃ b, v = .bool b := by
  unfold Value.okWide at h
  rw [Tryz.underlying4] at h
  exact cell_bool Tryz.underlying4 h
set_option maxRecDepth 100000 in
theorem bpWalk (W : World) (base : Nat) (v0 v1 v2 v3 v4 : Value) (h0 : Value.okWide Tryz.prog W .any base 3 v0) (h1 : Value.okWide Tryz.prog W .any base 3 v1) (h2 : Value.okWide Tryz.prog W .any base 3 v2) (h3 : Value.okWide Tryz.prog W .any base 3 v3) (h4 : Value.okWide Tryz.prog W .any base 4 v4) :
    Calls Tryz.prog 3 #[v0, v1, v2, v3, v4] W (TrueBelow W) := by
  obtain ⟨qty, rfl, g0⟩ := bp_int h0
  obtain ⟨amount, rfl, g1⟩ := bp_int h1
  obtain ⟨stock, rfl, g2⟩ := bp_int h2
  obtain ⟨cash, rfl, g3⟩ := bp_int h3
  obtain ⟨parts, rfl⟩ := bp_bool h4
  exact bpAll qty amount stock cash parts g0 g1 g2 g3 W
end Go.Proofs.YtdfgedemolielaaGreat
