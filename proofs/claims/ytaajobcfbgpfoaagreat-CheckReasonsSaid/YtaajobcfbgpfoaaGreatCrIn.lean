/- complinelaw24.CheckReasons: within its bounds. -/
import Derived.Test.YtaajobcfbgpfoaaGreatCrR0
import Derived.Test.YtaajobcfbgpfoaaGreatCrR1
import Derived.Test.YtaajobcfbgpfoaaGreatCrR2
import Derived.Test.YtaajobcfbgpfoaaGreatCrR3
import Derived.Test.YtaajobcfbgpfoaaGreatCrR4
import Derived.Test.YtaajobcfbgpfoaaGreatCrR5
import Derived.Test.YtaajobcfbgpfoaaGreatCrR6
import Derived.Test.YtaajobcfbgpfoaaGreatCrR7
import Derived.Test.YtaajobcfbgpfoaaGreatCrR8
import Derived.Test.YtaajobcfbgpfoaaGreatCrR9
import Derived.Test.YtaajobcfbgpfoaaGreatCrR10
import Derived.Test.YtaajobcfbgpfoaaGreatCrR11
import Derived.Test.YtaajobcfbgpfoaaGreatCrR12
namespace Go.Proofs.YtaajobcfbgpfoaaGreat
open Go Go.RowKit Gv Gv.Lt
theorem cr_split {σ : Nat → Int} {ge : List LF} {C : Prop} (x y : LF) (e : LF.neg x = y) (ha : geOk σ (x :: ge) → C) (hb : geOk σ (y :: ge) → C) (h : geOk σ ge) : C := split_at x ha (by rw [e]; exact hb) h
set_option maxRecDepth 100000 in
theorem cr_in0 (qty amount part s : Int) (w : World) (hnl : nlOk (mkGh [] [qty, amount, part, s] rfl) []) (hT : HooksOk Tryz.prog (mkGh [] [qty, amount, part, s] rfl) (hkT crT)) (hI : bdOk (mkGh [] [qty, amount, part, s] rfl).σ crI 0) : geOk (mkGh [] [qty, amount, part, s] rfl).σ [(0,[(0,1),(2,-1)]), (0,[(1,1),(3,-1)])] → Calls Tryz.prog 4 #[.int .i64 qty, .int .i64 amount, .int .i64 part, .bool false, .bool false, .bool false, .bool false, .bool false] w (TrueBelow w) := by
  have hm : ¬ ((mkGh [] [qty, amount, part, s] rfl)).mono := fun h => h
  have hl : concL (mkGh [] [qty, amount, part, s] rfl) (fun _ => none) crArgs0 = some [.int .i64 qty, .int .i64 amount, .int .i64 part, .bool false, .bool false, .bool false, .bool false, .bool false] := by simp [crArgs0, concL, conc, den, mkGh]
  exact (cr_split (-1,[(1,1)]) (0,[(1,-1)]) (by kernel_rfl) (cr_split (0,[(2,1),(0,-1)]) (-1,[(2,-1),(0,1)]) (by kernel_rfl) (cr_split (-1,[(3,1)]) (0,[(3,-1)]) (by kernel_rfl) (cr_split (-1,[(3,-1),(1,1)]) (0,[(3,1),(1,-1)]) (by kernel_rfl) (fun hg => cru0 ⟨hI, hg, hnl⟩ hm hT hl w) (fun hg => cru1 ⟨hI, hg, hnl⟩ hm hT hl w)) (fun hg => cru2 ⟨hI, hg, hnl⟩ hm hT hl w)) (fun hg => cru3 ⟨hI, hg, hnl⟩ hm hT hl w)) (cr_split (0,[(2,1),(0,-1)]) (-1,[(2,-1),(0,1)]) (by kernel_rfl) (cr_split (-1,[(3,1)]) (0,[(3,-1)]) (by kernel_rfl) (dead_at [1, 0, 1, 0, 1] (by kernel_rfl) hI) (fun hg => cru4 ⟨hI, hg, hnl⟩ hm hT hl w)) (fun hg => cru5 ⟨hI, hg, hnl⟩ hm hT hl w)))
set_option maxRecDepth 100000 in
theorem cr_in1 (qty amount part s : Int) (w : World) (hnl : nlOk (mkGh [] [qty, amount, part, s] rfl) []) (hT : HooksOk Tryz.prog (mkGh [] [qty, amount, part, s] rfl) (hkT crT)) (hI : bdOk (mkGh [] [qty, amount, part, s] rfl).σ crI 0) : geOk (mkGh [] [qty, amount, part, s] rfl).σ [(0,[(0,1),(2,-1)]), (0,[(1,1),(3,-1)])] → Calls Tryz.prog 4 #[.int .i64 qty, .int .i64 amount, .int .i64 part, .bool false, .bool false, .bool false, .bool false, .bool true] w (TrueBelow w) := by
  have hm : ¬ ((mkGh [] [qty, amount, part, s] rfl)).mono := fun h => h
  have hl : concL (mkGh [] [qty, amount, part, s] rfl) (fun _ => none) crArgs1 = some [.int .i64 qty, .int .i64 amount, .int .i64 part, .bool false, .bool false, .bool false, .bool false, .bool true] := by simp [crArgs1, concL, conc, den, mkGh]
  exact (cr_split (-1,[(1,1)]) (0,[(1,-1)]) (by kernel_rfl) (cr_split (0,[(2,1),(0,-1)]) (-1,[(2,-1),(0,1)]) (by kernel_rfl) (cr_split (-1,[(3,1)]) (0,[(3,-1)]) (by kernel_rfl) (fun hg => cru6 ⟨hI, hg, hnl⟩ hm hT hl w) (fun hg => cru7 ⟨hI, hg, hnl⟩ hm hT hl w)) (fun hg => cru8 ⟨hI, hg, hnl⟩ hm hT hl w)) (cr_split (0,[(2,1),(0,-1)]) (-1,[(2,-1),(0,1)]) (by kernel_rfl) (cr_split (-1,[(3,1)]) (0,[(3,-1)]) (by kernel_rfl) (dead_at [1, 0, 1, 0, 1] (by kernel_rfl) hI) (fun hg => cru9 ⟨hI, hg, hnl⟩ hm hT hl w)) (fun hg => cru10 ⟨hI, hg, hnl⟩ hm hT hl w)))
set_option maxRecDepth 100000 in
theorem cr_in2 (qty amount part s : Int) (w : World) (hnl : nlOk (mkGh [] [qty, amount, part, s] rfl) []) (hT : HooksOk Tryz.prog (mkGh [] [qty, amount, part, s] rfl) (hkT crT)) (hI : bdOk (mkGh [] [qty, amount, part, s] rfl).σ crI 0) : geOk (mkGh [] [qty, amount, part, s] rfl).σ [(0,[(0,1),(2,-1)]), (0,[(1,1),(3,-1)])] → Calls Tryz.prog 4 #[.int .i64 qty, .int .i64 amount, .int .i64 part, .bool false, .bool false, .bool false, .bool true, .bool false] w (TrueBelow w) := by
  have hm : ¬ ((mkGh [] [qty, amount, part, s] rfl)).mono := fun h => h
  have hl : concL (mkGh [] [qty, amount, part, s] rfl) (fun _ => none) crArgs2 = some [.int .i64 qty, .int .i64 amount, .int .i64 part, .bool false, .bool false, .bool false, .bool true, .bool false] := by simp [crArgs2, concL, conc, den, mkGh]
  exact (cr_split (-1,[(1,1)]) (0,[(1,-1)]) (by kernel_rfl) (fun hg => cru11 ⟨hI, hg, hnl⟩ hm hT hl w) (fun hg => cru12 ⟨hI, hg, hnl⟩ hm hT hl w))
set_option maxRecDepth 100000 in
theorem cr_in3 (qty amount part s : Int) (w : World) (hnl : nlOk (mkGh [] [qty, amount, part, s] rfl) []) (hT : HooksOk Tryz.prog (mkGh [] [qty, amount, part, s] rfl) (hkT crT)) (hI : bdOk (mkGh [] [qty, amount, part, s] rfl).σ crI 0) : geOk (mkGh [] [qty, amount, part, s] rfl).σ [(0,[(0,1),(2,-1)]), (0,[(1,1),(3,-1)])] → Calls Tryz.prog 4 #[.int .i64 qty, .int .i64 amount, .int .i64 part, .bool false, .bool false, .bool false, .bool true, .bool true] w (TrueBelow w) := by
  have hm : ¬ ((mkGh [] [qty, amount, part, s] rfl)).mono := fun h => h
  have hl : concL (mkGh [] [qty, amount, part, s] rfl) (fun _ => none) crArgs3 = some [.int .i64 qty, .int .i64 amount, .int .i64 part, .bool false, .bool false, .bool false, .bool true, .bool true] := by simp [crArgs3, concL, conc, den, mkGh]
  exact (cr_split (-1,[(1,1)]) (0,[(1,-1)]) (by kernel_rfl) (fun hg => cru13 ⟨hI, hg, hnl⟩ hm hT hl w) (fun hg => cru14 ⟨hI, hg, hnl⟩ hm hT hl w))
set_option maxRecDepth 100000 in
theorem cr_in4 (qty amount part s : Int) (w : World) (hnl : nlOk (mkGh [] [qty, amount, part, s] rfl) []) (hT : HooksOk Tryz.prog (mkGh [] [qty, amount, part, s] rfl) (hkT crT)) (hI : bdOk (mkGh [] [qty, amount, part, s] rfl).σ crI 0) : geOk (mkGh [] [qty, amount, part, s] rfl).σ [(0,[(0,1),(2,-1)]), (0,[(1,1),(3,-1)])] → Calls Tryz.prog 4 #[.int .i64 qty, .int .i64 amount, .int .i64 part, .bool false, .bool false, .bool true, .bool false, .bool false] w (TrueBelow w) := by
  have hm : ¬ ((mkGh [] [qty, amount, part, s] rfl)).mono := fun h => h
  have hl : concL (mkGh [] [qty, amount, part, s] rfl) (fun _ => none) crArgs4 = some [.int .i64 qty, .int .i64 amount, .int .i64 part, .bool false, .bool false, .bool true, .bool false, .bool false] := by simp [crArgs4, concL, conc, den, mkGh]
  exact (cr_split (-1,[(1,1)]) (0,[(1,-1)]) (by kernel_rfl) (fun hg => cru15 ⟨hI, hg, hnl⟩ hm hT hl w) (fun hg => cru16 ⟨hI, hg, hnl⟩ hm hT hl w))
set_option maxRecDepth 100000 in
theorem cr_in5 (qty amount part s : Int) (w : World) (hnl : nlOk (mkGh [] [qty, amount, part, s] rfl) []) (hT : HooksOk Tryz.prog (mkGh [] [qty, amount, part, s] rfl) (hkT crT)) (hI : bdOk (mkGh [] [qty, amount, part, s] rfl).σ crI 0) : geOk (mkGh [] [qty, amount, part, s] rfl).σ [(0,[(0,1),(2,-1)]), (0,[(1,1),(3,-1)])] → Calls Tryz.prog 4 #[.int .i64 qty, .int .i64 amount, .int .i64 part, .bool false, .bool false, .bool true, .bool false, .bool true] w (TrueBelow w) := by
  have hm : ¬ ((mkGh [] [qty, amount, part, s] rfl)).mono := fun h => h
  have hl : concL (mkGh [] [qty, amount, part, s] rfl) (fun _ => none) crArgs5 = some [.int .i64 qty, .int .i64 amount, .int .i64 part, .bool false, .bool false, .bool true, .bool false, .bool true] := by simp [crArgs5, concL, conc, den, mkGh]
  exact (cr_split (-1,[(1,1)]) (0,[(1,-1)]) (by kernel_rfl) (fun hg => cru17 ⟨hI, hg, hnl⟩ hm hT hl w) (fun hg => cru18 ⟨hI, hg, hnl⟩ hm hT hl w))
set_option maxRecDepth 100000 in
theorem cr_in6 (qty amount part s : Int) (w : World) (hnl : nlOk (mkGh [] [qty, amount, part, s] rfl) []) (hT : HooksOk Tryz.prog (mkGh [] [qty, amount, part, s] rfl) (hkT crT)) (hI : bdOk (mkGh [] [qty, amount, part, s] rfl).σ crI 0) : geOk (mkGh [] [qty, amount, part, s] rfl).σ [(0,[(0,1),(2,-1)]), (0,[(1,1),(3,-1)])] → Calls Tryz.prog 4 #[.int .i64 qty, .int .i64 amount, .int .i64 part, .bool false, .bool false, .bool true, .bool true, .bool false] w (TrueBelow w) := by
  have hm : ¬ ((mkGh [] [qty, amount, part, s] rfl)).mono := fun h => h
  have hl : concL (mkGh [] [qty, amount, part, s] rfl) (fun _ => none) crArgs6 = some [.int .i64 qty, .int .i64 amount, .int .i64 part, .bool false, .bool false, .bool true, .bool true, .bool false] := by simp [crArgs6, concL, conc, den, mkGh]
  exact (cr_split (-1,[(1,1)]) (0,[(1,-1)]) (by kernel_rfl) (fun hg => cru19 ⟨hI, hg, hnl⟩ hm hT hl w) (fun hg => cru20 ⟨hI, hg, hnl⟩ hm hT hl w))
set_option maxRecDepth 100000 in
theorem cr_in7 (qty amount part s : Int) (w : World) (hnl : nlOk (mkGh [] [qty, amount, part, s] rfl) []) (hT : HooksOk Tryz.prog (mkGh [] [qty, amount, part, s] rfl) (hkT crT)) (hI : bdOk (mkGh [] [qty, amount, part, s] rfl).σ crI 0) : geOk (mkGh [] [qty, amount, part, s] rfl).σ [(0,[(0,1),(2,-1)]), (0,[(1,1),(3,-1)])] → Calls Tryz.prog 4 #[.int .i64 qty, .int .i64 amount, .int .i64 part, .bool false, .bool false, .bool true, .bool true, .bool true] w (TrueBelow w) := by
  have hm : ¬ ((mkGh [] [qty, amount, part, s] rfl)).mono := fun h => h
  have hl : concL (mkGh [] [qty, amount, part, s] rfl) (fun _ => none) crArgs7 = some [.int .i64 qty, .int .i64 amount, .int .i64 part, .bool false, .bool false, .bool true, .bool true, .bool true] := by simp [crArgs7, concL, conc, den, mkGh]
  exact (cr_split (-1,[(1,1)]) (0,[(1,-1)]) (by kernel_rfl) (fun hg => cru21 ⟨hI, hg, hnl⟩ hm hT hl w) (fun hg => cru22 ⟨hI, hg, hnl⟩ hm hT hl w))
set_option maxRecDepth 100000 in
theorem cr_in8 (qty amount part s : Int) (w : World) (hnl : nlOk (mkGh [] [qty, amount, part, s] rfl) []) (hT : HooksOk Tryz.prog (mkGh [] [qty, amount, part, s] rfl) (hkT crT)) (hI : bdOk (mkGh [] [qty, amount, part, s] rfl).σ crI 0) : geOk (mkGh [] [qty, amount, part, s] rfl).σ [(0,[(0,1),(2,-1)]), (0,[(1,1),(3,-1)])] → Calls Tryz.prog 4 #[.int .i64 qty, .int .i64 amount, .int .i64 part, .bool false, .bool true, .bool false, .bool false, .bool false] w (TrueBelow w) := by
  have hm : ¬ ((mkGh [] [qty, amount, part, s] rfl)).mono := fun h => h
  have hl : concL (mkGh [] [qty, amount, part, s] rfl) (fun _ => none) crArgs8 = some [.int .i64 qty, .int .i64 amount, .int .i64 part, .bool false, .bool true, .bool false, .bool false, .bool false] := by simp [crArgs8, concL, conc, den, mkGh]
  exact (cr_split (-1,[(1,1)]) (0,[(1,-1)]) (by kernel_rfl) (fun hg => cru23 ⟨hI, hg, hnl⟩ hm hT hl w) (fun hg => cru24 ⟨hI, hg, hnl⟩ hm hT hl w))
set_option maxRecDepth 100000 in
theorem cr_in9 (qty amount part s : Int) (w : World) (hnl : nlOk (mkGh [] [qty, amount, part, s] rfl) []) (hT : HooksOk Tryz.prog (mkGh [] [qty, amount, part, s] rfl) (hkT crT)) (hI : bdOk (mkGh [] [qty, amount, part, s] rfl).σ crI 0) : geOk (mkGh [] [qty, amount, part, s] rfl).σ [(0,[(0,1),(2,-1)]), (0,[(1,1),(3,-1)])] → Calls Tryz.prog 4 #[.int .i64 qty, .int .i64 amount, .int .i64 part, .bool false, .bool true, .bool false, .bool false, .bool true] w (TrueBelow w) := by
  have hm : ¬ ((mkGh [] [qty, amount, part, s] rfl)).mono := fun h => h
  have hl : concL (mkGh [] [qty, amount, part, s] rfl) (fun _ => none) crArgs9 = some [.int .i64 qty, .int .i64 amount, .int .i64 part, .bool false, .bool true, .bool false, .bool false, .bool true] := by simp [crArgs9, concL, conc, den, mkGh]
  exact (cr_split (-1,[(1,1)]) (0,[(1,-1)]) (by kernel_rfl) (fun hg => cru25 ⟨hI, hg, hnl⟩ hm hT hl w) (fun hg => cru26 ⟨hI, hg, hnl⟩ hm hT hl w))
set_option maxRecDepth 100000 in
theorem cr_in10 (qty amount part s : Int) (w : World) (hnl : nlOk (mkGh [] [qty, amount, part, s] rfl) []) (hT : HooksOk Tryz.prog (mkGh [] [qty, amount, part, s] rfl) (hkT crT)) (hI : bdOk (mkGh [] [qty, amount, part, s] rfl).σ crI 0) : geOk (mkGh [] [qty, amount, part, s] rfl).σ [(0,[(0,1),(2,-1)]), (0,[(1,1),(3,-1)])] → Calls Tryz.prog 4 #[.int .i64 qty, .int .i64 amount, .int .i64 part, .bool false, .bool true, .bool false, .bool true, .bool false] w (TrueBelow w) := by
  have hm : ¬ ((mkGh [] [qty, amount, part, s] rfl)).mono := fun h => h
  have hl : concL (mkGh [] [qty, amount, part, s] rfl) (fun _ => none) crArgs10 = some [.int .i64 qty, .int .i64 amount, .int .i64 part, .bool false, .bool true, .bool false, .bool true, .bool false] := by simp [crArgs10, concL, conc, den, mkGh]
  exact (cr_split (-1,[(1,1)]) (0,[(1,-1)]) (by kernel_rfl) (fun hg => cru27 ⟨hI, hg, hnl⟩ hm hT hl w) (fun hg => cru28 ⟨hI, hg, hnl⟩ hm hT hl w))
set_option maxRecDepth 100000 in
theorem cr_in11 (qty amount part s : Int) (w : World) (hnl : nlOk (mkGh [] [qty, amount, part, s] rfl) []) (hT : HooksOk Tryz.prog (mkGh [] [qty, amount, part, s] rfl) (hkT crT)) (hI : bdOk (mkGh [] [qty, amount, part, s] rfl).σ crI 0) : geOk (mkGh [] [qty, amount, part, s] rfl).σ [(0,[(0,1),(2,-1)]), (0,[(1,1),(3,-1)])] → Calls Tryz.prog 4 #[.int .i64 qty, .int .i64 amount, .int .i64 part, .bool false, .bool true, .bool false, .bool true, .bool true] w (TrueBelow w) := by
  have hm : ¬ ((mkGh [] [qty, amount, part, s] rfl)).mono := fun h => h
  have hl : concL (mkGh [] [qty, amount, part, s] rfl) (fun _ => none) crArgs11 = some [.int .i64 qty, .int .i64 amount, .int .i64 part, .bool false, .bool true, .bool false, .bool true, .bool true] := by simp [crArgs11, concL, conc, den, mkGh]
  exact (cr_split (-1,[(1,1)]) (0,[(1,-1)]) (by kernel_rfl) (fun hg => cru29 ⟨hI, hg, hnl⟩ hm hT hl w) (fun hg => cru30 ⟨hI, hg, hnl⟩ hm hT hl w))
set_option maxRecDepth 100000 in
theorem cr_in12 (qty amount part s : Int) (w : World) (hnl : nlOk (mkGh [] [qty, amount, part, s] rfl) []) (hT : HooksOk Tryz.prog (mkGh [] [qty, amount, part, s] rfl) (hkT crT)) (hI : bdOk (mkGh [] [qty, amount, part, s] rfl).σ crI 0) : geOk (mkGh [] [qty, amount, part, s] rfl).σ [(0,[(0,1),(2,-1)]), (0,[(1,1),(3,-1)])] → Calls Tryz.prog 4 #[.int .i64 qty, .int .i64 amount, .int .i64 part, .bool false, .bool true, .bool true, .bool false, .bool false] w (TrueBelow w) := by
  have hm : ¬ ((mkGh [] [qty, amount, part, s] rfl)).mono := fun h => h
  have hl : concL (mkGh [] [qty, amount, part, s] rfl) (fun _ => none) crArgs12 = some [.int .i64 qty, .int .i64 amount, .int .i64 part, .bool false, .bool true, .bool true, .bool false, .bool false] := by simp [crArgs12, concL, conc, den, mkGh]
  exact (cr_split (-1,[(1,1)]) (0,[(1,-1)]) (by kernel_rfl) (fun hg => cru31 ⟨hI, hg, hnl⟩ hm hT hl w) (fun hg => cru32 ⟨hI, hg, hnl⟩ hm hT hl w))
set_option maxRecDepth 100000 in
theorem cr_in13 (qty amount part s : Int) (w : World) (hnl : nlOk (mkGh [] [qty, amount, part, s] rfl) []) (hT : HooksOk Tryz.prog (mkGh [] [qty, amount, part, s] rfl) (hkT crT)) (hI : bdOk (mkGh [] [qty, amount, part, s] rfl).σ crI 0) : geOk (mkGh [] [qty, amount, part, s] rfl).σ [(0,[(0,1),(2,-1)]), (0,[(1,1),(3,-1)])] → Calls Tryz.prog 4 #[.int .i64 qty, .int .i64 amount, .int .i64 part, .bool false, .bool true, .bool true, .bool false, .bool true] w (TrueBelow w) := by
  have hm : ¬ ((mkGh [] [qty, amount, part, s] rfl)).mono := fun h => h
  have hl : concL (mkGh [] [qty, amount, part, s] rfl) (fun _ => none) crArgs13 = some [.int .i64 qty, .int .i64 amount, .int .i64 part, .bool false, .bool true, .bool true, .bool false, .bool true] := by simp [crArgs13, concL, conc, den, mkGh]
  exact (cr_split (-1,[(1,1)]) (0,[(1,-1)]) (by kernel_rfl) (fun hg => cru33 ⟨hI, hg, hnl⟩ hm hT hl w) (fun hg => cru34 ⟨hI, hg, hnl⟩ hm hT hl w))
set_option maxRecDepth 100000 in
theorem cr_in14 (qty amount part s : Int) (w : World) (hnl : nlOk (mkGh [] [qty, amount, part, s] rfl) []) (hT : HooksOk Tryz.prog (mkGh [] [qty, amount, part, s] rfl) (hkT crT)) (hI : bdOk (mkGh [] [qty, amount, part, s] rfl).σ crI 0) : geOk (mkGh [] [qty, amount, part, s] rfl).σ [(0,[(0,1),(2,-1)]), (0,[(1,1),(3,-1)])] → Calls Tryz.prog 4 #[.int .i64 qty, .int .i64 amount, .int .i64 part, .bool false, .bool true, .bool true, .bool true, .bool false] w (TrueBelow w) := by
  have hm : ¬ ((mkGh [] [qty, amount, part, s] rfl)).mono := fun h => h
  have hl : concL (mkGh [] [qty, amount, part, s] rfl) (fun _ => none) crArgs14 = some [.int .i64 qty, .int .i64 amount, .int .i64 part, .bool false, .bool true, .bool true, .bool true, .bool false] := by simp [crArgs14, concL, conc, den, mkGh]
  exact (cr_split (-1,[(1,1)]) (0,[(1,-1)]) (by kernel_rfl) (fun hg => cru35 ⟨hI, hg, hnl⟩ hm hT hl w) (fun hg => cru36 ⟨hI, hg, hnl⟩ hm hT hl w))
set_option maxRecDepth 100000 in
theorem cr_in15 (qty amount part s : Int) (w : World) (hnl : nlOk (mkGh [] [qty, amount, part, s] rfl) []) (hT : HooksOk Tryz.prog (mkGh [] [qty, amount, part, s] rfl) (hkT crT)) (hI : bdOk (mkGh [] [qty, amount, part, s] rfl).σ crI 0) : geOk (mkGh [] [qty, amount, part, s] rfl).σ [(0,[(0,1),(2,-1)]), (0,[(1,1),(3,-1)])] → Calls Tryz.prog 4 #[.int .i64 qty, .int .i64 amount, .int .i64 part, .bool false, .bool true, .bool true, .bool true, .bool true] w (TrueBelow w) := by
  have hm : ¬ ((mkGh [] [qty, amount, part, s] rfl)).mono := fun h => h
  have hl : concL (mkGh [] [qty, amount, part, s] rfl) (fun _ => none) crArgs15 = some [.int .i64 qty, .int .i64 amount, .int .i64 part, .bool false, .bool true, .bool true, .bool true, .bool true] := by simp [crArgs15, concL, conc, den, mkGh]
  exact (cr_split (-1,[(1,1)]) (0,[(1,-1)]) (by kernel_rfl) (fun hg => cru37 ⟨hI, hg, hnl⟩ hm hT hl w) (fun hg => cru38 ⟨hI, hg, hnl⟩ hm hT hl w))
set_option maxRecDepth 100000 in
theorem cr_in16 (qty amount part s : Int) (w : World) (hnl : nlOk (mkGh [] [qty, amount, part, s] rfl) []) (hT : HooksOk Tryz.prog (mkGh [] [qty, amount, part, s] rfl) (hkT crT)) (hI : bdOk (mkGh [] [qty, amount, part, s] rfl).σ crI 0) : geOk (mkGh [] [qty, amount, part, s] rfl).σ [(0,[(0,1),(2,-1)]), (0,[(1,1),(3,-1)])] → Calls Tryz.prog 4 #[.int .i64 qty, .int .i64 amount, .int .i64 part, .bool true, .bool false, .bool false, .bool false, .bool false] w (TrueBelow w) := by
  have hm : ¬ ((mkGh [] [qty, amount, part, s] rfl)).mono := fun h => h
  have hl : concL (mkGh [] [qty, amount, part, s] rfl) (fun _ => none) crArgs16 = some [.int .i64 qty, .int .i64 amount, .int .i64 part, .bool true, .bool false, .bool false, .bool false, .bool false] := by simp [crArgs16, concL, conc, den, mkGh]
  exact (cr_split (-1,[(1,1)]) (0,[(1,-1)]) (by kernel_rfl) (cr_split (0,[(2,1),(0,-1)]) (-1,[(2,-1),(0,1)]) (by kernel_rfl) (cr_split (-1,[(3,1)]) (0,[(3,-1)]) (by kernel_rfl) (cr_split (-1,[(3,-1),(1,1)]) (0,[(3,1),(1,-1)]) (by kernel_rfl) (fun hg => cru39 ⟨hI, hg, hnl⟩ hm hT hl w) (fun hg => cru40 ⟨hI, hg, hnl⟩ hm hT hl w)) (fun hg => cru41 ⟨hI, hg, hnl⟩ hm hT hl w)) (cr_split (-1,[(3,1)]) (0,[(3,-1)]) (by kernel_rfl) (cr_split (-1,[(3,-1),(1,1)]) (0,[(3,1),(1,-1)]) (by kernel_rfl) (fun hg => cru42 ⟨hI, hg, hnl⟩ hm hT hl w) (fun hg => cru43 ⟨hI, hg, hnl⟩ hm hT hl w)) (fun hg => cru44 ⟨hI, hg, hnl⟩ hm hT hl w))) (cr_split (0,[(2,1),(0,-1)]) (-1,[(2,-1),(0,1)]) (by kernel_rfl) (cr_split (-1,[(3,1)]) (0,[(3,-1)]) (by kernel_rfl) (dead_at [1, 0, 1, 0, 1] (by kernel_rfl) hI) (fun hg => cru45 ⟨hI, hg, hnl⟩ hm hT hl w)) (cr_split (-1,[(3,1)]) (0,[(3,-1)]) (by kernel_rfl) (dead_at [1, 0, 1, 0, 1] (by kernel_rfl) hI) (fun hg => cru46 ⟨hI, hg, hnl⟩ hm hT hl w))))
set_option maxRecDepth 100000 in
theorem cr_in17 (qty amount part s : Int) (w : World) (hnl : nlOk (mkGh [] [qty, amount, part, s] rfl) []) (hT : HooksOk Tryz.prog (mkGh [] [qty, amount, part, s] rfl) (hkT crT)) (hI : bdOk (mkGh [] [qty, amount, part, s] rfl).σ crI 0) : geOk (mkGh [] [qty, amount, part, s] rfl).σ [(0,[(0,1),(2,-1)]), (0,[(1,1),(3,-1)])] → Calls Tryz.prog 4 #[.int .i64 qty, .int .i64 amount, .int .i64 part, .bool true, .bool false, .bool false, .bool false, .bool true] w (TrueBelow w) := by
  have hm : ¬ ((mkGh [] [qty, amount, part, s] rfl)).mono := fun h => h
  have hl : concL (mkGh [] [qty, amount, part, s] rfl) (fun _ => none) crArgs17 = some [.int .i64 qty, .int .i64 amount, .int .i64 part, .bool true, .bool false, .bool false, .bool false, .bool true] := by simp [crArgs17, concL, conc, den, mkGh]
  exact (cr_split (-1,[(1,1)]) (0,[(1,-1)]) (by kernel_rfl) (cr_split (0,[(2,1),(0,-1)]) (-1,[(2,-1),(0,1)]) (by kernel_rfl) (cr_split (-1,[(3,1)]) (0,[(3,-1)]) (by kernel_rfl) (fun hg => cru47 ⟨hI, hg, hnl⟩ hm hT hl w) (fun hg => cru48 ⟨hI, hg, hnl⟩ hm hT hl w)) (cr_split (-1,[(3,1)]) (0,[(3,-1)]) (by kernel_rfl) (fun hg => cru49 ⟨hI, hg, hnl⟩ hm hT hl w) (fun hg => cru50 ⟨hI, hg, hnl⟩ hm hT hl w))) (cr_split (0,[(2,1),(0,-1)]) (-1,[(2,-1),(0,1)]) (by kernel_rfl) (cr_split (-1,[(3,1)]) (0,[(3,-1)]) (by kernel_rfl) (dead_at [1, 0, 1, 0, 1] (by kernel_rfl) hI) (fun hg => cru51 ⟨hI, hg, hnl⟩ hm hT hl w)) (cr_split (-1,[(3,1)]) (0,[(3,-1)]) (by kernel_rfl) (dead_at [1, 0, 1, 0, 1] (by kernel_rfl) hI) (fun hg => cru52 ⟨hI, hg, hnl⟩ hm hT hl w))))
set_option maxRecDepth 100000 in
theorem cr_in18 (qty amount part s : Int) (w : World) (hnl : nlOk (mkGh [] [qty, amount, part, s] rfl) []) (hT : HooksOk Tryz.prog (mkGh [] [qty, amount, part, s] rfl) (hkT crT)) (hI : bdOk (mkGh [] [qty, amount, part, s] rfl).σ crI 0) : geOk (mkGh [] [qty, amount, part, s] rfl).σ [(0,[(0,1),(2,-1)]), (0,[(1,1),(3,-1)])] → Calls Tryz.prog 4 #[.int .i64 qty, .int .i64 amount, .int .i64 part, .bool true, .bool false, .bool false, .bool true, .bool false] w (TrueBelow w) := by
  have hm : ¬ ((mkGh [] [qty, amount, part, s] rfl)).mono := fun h => h
  have hl : concL (mkGh [] [qty, amount, part, s] rfl) (fun _ => none) crArgs18 = some [.int .i64 qty, .int .i64 amount, .int .i64 part, .bool true, .bool false, .bool false, .bool true, .bool false] := by simp [crArgs18, concL, conc, den, mkGh]
  exact (cr_split (-1,[(1,1)]) (0,[(1,-1)]) (by kernel_rfl) (fun hg => cru53 ⟨hI, hg, hnl⟩ hm hT hl w) (fun hg => cru54 ⟨hI, hg, hnl⟩ hm hT hl w))
set_option maxRecDepth 100000 in
theorem cr_in19 (qty amount part s : Int) (w : World) (hnl : nlOk (mkGh [] [qty, amount, part, s] rfl) []) (hT : HooksOk Tryz.prog (mkGh [] [qty, amount, part, s] rfl) (hkT crT)) (hI : bdOk (mkGh [] [qty, amount, part, s] rfl).σ crI 0) : geOk (mkGh [] [qty, amount, part, s] rfl).σ [(0,[(0,1),(2,-1)]), (0,[(1,1),(3,-1)])] → Calls Tryz.prog 4 #[.int .i64 qty, .int .i64 amount, .int .i64 part, .bool true, .bool false, .bool false, .bool true, .bool true] w (TrueBelow w) := by
  have hm : ¬ ((mkGh [] [qty, amount, part, s] rfl)).mono := fun h => h
  have hl : concL (mkGh [] [qty, amount, part, s] rfl) (fun _ => none) crArgs19 = some [.int .i64 qty, .int .i64 amount, .int .i64 part, .bool true, .bool false, .bool false, .bool true, .bool true] := by simp [crArgs19, concL, conc, den, mkGh]
  exact (cr_split (-1,[(1,1)]) (0,[(1,-1)]) (by kernel_rfl) (fun hg => cru55 ⟨hI, hg, hnl⟩ hm hT hl w) (fun hg => cru56 ⟨hI, hg, hnl⟩ hm hT hl w))
set_option maxRecDepth 100000 in
theorem cr_in20 (qty amount part s : Int) (w : World) (hnl : nlOk (mkGh [] [qty, amount, part, s] rfl) []) (hT : HooksOk Tryz.prog (mkGh [] [qty, amount, part, s] rfl) (hkT crT)) (hI : bdOk (mkGh [] [qty, amount, part, s] rfl).σ crI 0) : geOk (mkGh [] [qty, amount, part, s] rfl).σ [(0,[(0,1),(2,-1)]), (0,[(1,1),(3,-1)])] → Calls Tryz.prog 4 #[.int .i64 qty, .int .i64 amount, .int .i64 part, .bool true, .bool false, .bool true, .bool false, .bool false] w (TrueBelow w) := by
  have hm : ¬ ((mkGh [] [qty, amount, part, s] rfl)).mono := fun h => h
  have hl : concL (mkGh [] [qty, amount, part, s] rfl) (fun _ => none) crArgs20 = some [.int .i64 qty, .int .i64 amount, .int .i64 part, .bool true, .bool false, .bool true, .bool false, .bool false] := by simp [crArgs20, concL, conc, den, mkGh]
  exact (cr_split (-1,[(1,1)]) (0,[(1,-1)]) (by kernel_rfl) (fun hg => cru57 ⟨hI, hg, hnl⟩ hm hT hl w) (fun hg => cru58 ⟨hI, hg, hnl⟩ hm hT hl w))
set_option maxRecDepth 100000 in
theorem cr_in21 (qty amount part s : Int) (w : World) (hnl : nlOk (mkGh [] [qty, amount, part, s] rfl) []) (hT : HooksOk Tryz.prog (mkGh [] [qty, amount, part, s] rfl) (hkT crT)) (hI : bdOk (mkGh [] [qty, amount, part, s] rfl).σ crI 0) : geOk (mkGh [] [qty, amount, part, s] rfl).σ [(0,[(0,1),(2,-1)]), (0,[(1,1),(3,-1)])] → Calls Tryz.prog 4 #[.int .i64 qty, .int .i64 amount, .int .i64 part, .bool true, .bool false, .bool true, .bool false, .bool true] w (TrueBelow w) := by
  have hm : ¬ ((mkGh [] [qty, amount, part, s] rfl)).mono := fun h => h
  have hl : concL (mkGh [] [qty, amount, part, s] rfl) (fun _ => none) crArgs21 = some [.int .i64 qty, .int .i64 amount, .int .i64 part, .bool true, .bool false, .bool true, .bool false, .bool true] := by simp [crArgs21, concL, conc, den, mkGh]
  exact (cr_split (-1,[(1,1)]) (0,[(1,-1)]) (by kernel_rfl) (fun hg => cru59 ⟨hI, hg, hnl⟩ hm hT hl w) (fun hg => cru60 ⟨hI, hg, hnl⟩ hm hT hl w))
set_option maxRecDepth 100000 in
theorem cr_in22 (qty amount part s : Int) (w : World) (hnl : nlOk (mkGh [] [qty, amount, part, s] rfl) []) (hT : HooksOk Tryz.prog (mkGh [] [qty, amount, part, s] rfl) (hkT crT)) (hI : bdOk (mkGh [] [qty, amount, part, s] rfl).σ crI 0) : geOk (mkGh [] [qty, amount, part, s] rfl).σ [(0,[(0,1),(2,-1)]), (0,[(1,1),(3,-1)])] → Calls Tryz.prog 4 #[.int .i64 qty, .int .i64 amount, .int .i64 part, .bool true, .bool false, .bool true, .bool true, .bool false] w (TrueBelow w) := by
  have hm : ¬ ((mkGh [] [qty, amount, part, s] rfl)).mono := fun h => h
  have hl : concL (mkGh [] [qty, amount, part, s] rfl) (fun _ => none) crArgs22 = some [.int .i64 qty, .int .i64 amount, .int .i64 part, .bool true, .bool false, .bool true, .bool true, .bool false] := by simp [crArgs22, concL, conc, den, mkGh]
  exact (cr_split (-1,[(1,1)]) (0,[(1,-1)]) (by kernel_rfl) (fun hg => cru61 ⟨hI, hg, hnl⟩ hm hT hl w) (fun hg => cru62 ⟨hI, hg, hnl⟩ hm hT hl w))
set_option maxRecDepth 100000 in
theorem cr_in23 (qty amount part s : Int) (w : World) (hnl : nlOk (mkGh [] [qty, amount, part, s] rfl) []) (hT : HooksOk Tryz.prog (mkGh [] [qty, amount, part, s] rfl) (hkT crT)) (hI : bdOk (mkGh [] [qty, amount, part, s] rfl).σ crI 0) : geOk (mkGh [] [qty, amount, part, s] rfl).σ [(0,[(0,1),(2,-1)]), (0,[(1,1),(3,-1)])] → Calls Tryz.prog 4 #[.int .i64 qty, .int .i64 amount, .int .i64 part, .bool true, .bool false, .bool true, .bool true, .bool true] w (TrueBelow w) := by
  have hm : ¬ ((mkGh [] [qty, amount, part, s] rfl)).mono := fun h => h
  have hl : concL (mkGh [] [qty, amount, part, s] rfl) (fun _ => none) crArgs23 = some [.int .i64 qty, .int .i64 amount, .int .i64 part, .bool true, .bool false, .bool true, .bool true, .bool true] := by simp [crArgs23, concL, conc, den, mkGh]
  exact (cr_split (-1,[(1,1)]) (0,[(1,-1)]) (by kernel_rfl) (fun hg => cru63 ⟨hI, hg, hnl⟩ hm hT hl w) (fun hg => cru64 ⟨hI, hg, hnl⟩ hm hT hl w))
set_option maxRecDepth 100000 in
theorem cr_in24 (qty amount part s : Int) (w : World) (hnl : nlOk (mkGh [] [qty, amount, part, s] rfl) []) (hT : HooksOk Tryz.prog (mkGh [] [qty, amount, part, s] rfl) (hkT crT)) (hI : bdOk (mkGh [] [qty, amount, part, s] rfl).σ crI 0) : geOk (mkGh [] [qty, amount, part, s] rfl).σ [(0,[(0,1),(2,-1)]), (0,[(1,1),(3,-1)])] → Calls Tryz.prog 4 #[.int .i64 qty, .int .i64 amount, .int .i64 part, .bool true, .bool true, .bool false, .bool false, .bool false] w (TrueBelow w) := by
  have hm : ¬ ((mkGh [] [qty, amount, part, s] rfl)).mono := fun h => h
  have hl : concL (mkGh [] [qty, amount, part, s] rfl) (fun _ => none) crArgs24 = some [.int .i64 qty, .int .i64 amount, .int .i64 part, .bool true, .bool true, .bool false, .bool false, .bool false] := by simp [crArgs24, concL, conc, den, mkGh]
  exact (cr_split (-1,[(1,1)]) (0,[(1,-1)]) (by kernel_rfl) (fun hg => cru65 ⟨hI, hg, hnl⟩ hm hT hl w) (fun hg => cru66 ⟨hI, hg, hnl⟩ hm hT hl w))
set_option maxRecDepth 100000 in
theorem cr_in25 (qty amount part s : Int) (w : World) (hnl : nlOk (mkGh [] [qty, amount, part, s] rfl) []) (hT : HooksOk Tryz.prog (mkGh [] [qty, amount, part, s] rfl) (hkT crT)) (hI : bdOk (mkGh [] [qty, amount, part, s] rfl).σ crI 0) : geOk (mkGh [] [qty, amount, part, s] rfl).σ [(0,[(0,1),(2,-1)]), (0,[(1,1),(3,-1)])] → Calls Tryz.prog 4 #[.int .i64 qty, .int .i64 amount, .int .i64 part, .bool true, .bool true, .bool false, .bool false, .bool true] w (TrueBelow w) := by
  have hm : ¬ ((mkGh [] [qty, amount, part, s] rfl)).mono := fun h => h
  have hl : concL (mkGh [] [qty, amount, part, s] rfl) (fun _ => none) crArgs25 = some [.int .i64 qty, .int .i64 amount, .int .i64 part, .bool true, .bool true, .bool false, .bool false, .bool true] := by simp [crArgs25, concL, conc, den, mkGh]
  exact (cr_split (-1,[(1,1)]) (0,[(1,-1)]) (by kernel_rfl) (fun hg => cru67 ⟨hI, hg, hnl⟩ hm hT hl w) (fun hg => cru68 ⟨hI, hg, hnl⟩ hm hT hl w))
set_option maxRecDepth 100000 in
theorem cr_in26 (qty amount part s : Int) (w : World) (hnl : nlOk (mkGh [] [qty, amount, part, s] rfl) []) (hT : HooksOk Tryz.prog (mkGh [] [qty, amount, part, s] rfl) (hkT crT)) (hI : bdOk (mkGh [] [qty, amount, part, s] rfl).σ crI 0) : geOk (mkGh [] [qty, amount, part, s] rfl).σ [(0,[(0,1),(2,-1)]), (0,[(1,1),(3,-1)])] → Calls Tryz.prog 4 #[.int .i64 qty, .int .i64 amount, .int .i64 part, .bool true, .bool true, .bool false, .bool true, .bool false] w (TrueBelow w) := by
  have hm : ¬ ((mkGh [] [qty, amount, part, s] rfl)).mono := fun h => h
  have hl : concL (mkGh [] [qty, amount, part, s] rfl) (fun _ => none) crArgs26 = some [.int .i64 qty, .int .i64 amount, .int .i64 part, .bool true, .bool true, .bool false, .bool true, .bool false] := by simp [crArgs26, concL, conc, den, mkGh]
  exact (cr_split (-1,[(1,1)]) (0,[(1,-1)]) (by kernel_rfl) (fun hg => cru69 ⟨hI, hg, hnl⟩ hm hT hl w) (fun hg => cru70 ⟨hI, hg, hnl⟩ hm hT hl w))
set_option maxRecDepth 100000 in
theorem cr_in27 (qty amount part s : Int) (w : World) (hnl : nlOk (mkGh [] [qty, amount, part, s] rfl) []) (hT : HooksOk Tryz.prog (mkGh [] [qty, amount, part, s] rfl) (hkT crT)) (hI : bdOk (mkGh [] [qty, amount, part, s] rfl).σ crI 0) : geOk (mkGh [] [qty, amount, part, s] rfl).σ [(0,[(0,1),(2,-1)]), (0,[(1,1),(3,-1)])] → Calls Tryz.prog 4 #[.int .i64 qty, .int .i64 amount, .int .i64 part, .bool true, .bool true, .bool false, .bool true, .bool true] w (TrueBelow w) := by
  have hm : ¬ ((mkGh [] [qty, amount, part, s] rfl)).mono := fun h => h
  have hl : concL (mkGh [] [qty, amount, part, s] rfl) (fun _ => none) crArgs27 = some [.int .i64 qty, .int .i64 amount, .int .i64 part, .bool true, .bool true, .bool false, .bool true, .bool true] := by simp [crArgs27, concL, conc, den, mkGh]
  exact (cr_split (-1,[(1,1)]) (0,[(1,-1)]) (by kernel_rfl) (fun hg => cru71 ⟨hI, hg, hnl⟩ hm hT hl w) (fun hg => cru72 ⟨hI, hg, hnl⟩ hm hT hl w))
set_option maxRecDepth 100000 in
theorem cr_in28 (qty amount part s : Int) (w : World) (hnl : nlOk (mkGh [] [qty, amount, part, s] rfl) []) (hT : HooksOk Tryz.prog (mkGh [] [qty, amount, part, s] rfl) (hkT crT)) (hI : bdOk (mkGh [] [qty, amount, part, s] rfl).σ crI 0) : geOk (mkGh [] [qty, amount, part, s] rfl).σ [(0,[(0,1),(2,-1)]), (0,[(1,1),(3,-1)])] → Calls Tryz.prog 4 #[.int .i64 qty, .int .i64 amount, .int .i64 part, .bool true, .bool true, .bool true, .bool false, .bool false] w (TrueBelow w) := by
  have hm : ¬ ((mkGh [] [qty, amount, part, s] rfl)).mono := fun h => h
  have hl : concL (mkGh [] [qty, amount, part, s] rfl) (fun _ => none) crArgs28 = some [.int .i64 qty, .int .i64 amount, .int .i64 part, .bool true, .bool true, .bool true, .bool false, .bool false] := by simp [crArgs28, concL, conc, den, mkGh]
  exact (cr_split (-1,[(1,1)]) (0,[(1,-1)]) (by kernel_rfl) (fun hg => cru73 ⟨hI, hg, hnl⟩ hm hT hl w) (fun hg => cru74 ⟨hI, hg, hnl⟩ hm hT hl w))
set_option maxRecDepth 100000 in
theorem cr_in29 (qty amount part s : Int) (w : World) (hnl : nlOk (mkGh [] [qty, amount, part, s] rfl) []) (hT : HooksOk Tryz.prog (mkGh [] [qty, amount, part, s] rfl) (hkT crT)) (hI : bdOk (mkGh [] [qty, amount, part, s] rfl).σ crI 0) : geOk (mkGh [] [qty, amount, part, s] rfl).σ [(0,[(0,1),(2,-1)]), (0,[(1,1),(3,-1)])] → Calls Tryz.prog 4 #[.int .i64 qty, .int .i64 amount, .int .i64 part, .bool true, .bool true, .bool true, .bool false, .bool true] w (TrueBelow w) := by
  have hm : ¬ ((mkGh [] [qty, amount, part, s] rfl)).mono := fun h => h
  have hl : concL (mkGh [] [qty, amount, part, s] rfl) (fun _ => none) crArgs29 = some [.int .i64 qty, .int .i64 amount, .int .i64 part, .bool true, .bool true, .bool true, .bool false, .bool true] := by simp [crArgs29, concL, conc, den, mkGh]
  exact (cr_split (-1,[(1,1)]) (0,[(1,-1)]) (by kernel_rfl) (fun hg => cru75 ⟨hI, hg, hnl⟩ hm hT hl w) (fun hg => cru76 ⟨hI, hg, hnl⟩ hm hT hl w))
set_option maxRecDepth 100000 in
theorem cr_in30 (qty amount part s : Int) (w : World) (hnl : nlOk (mkGh [] [qty, amount, part, s] rfl) []) (hT : HooksOk Tryz.prog (mkGh [] [qty, amount, part, s] rfl) (hkT crT)) (hI : bdOk (mkGh [] [qty, amount, part, s] rfl).σ crI 0) : geOk (mkGh [] [qty, amount, part, s] rfl).σ [(0,[(0,1),(2,-1)]), (0,[(1,1),(3,-1)])] → Calls Tryz.prog 4 #[.int .i64 qty, .int .i64 amount, .int .i64 part, .bool true, .bool true, .bool true, .bool true, .bool false] w (TrueBelow w) := by
  have hm : ¬ ((mkGh [] [qty, amount, part, s] rfl)).mono := fun h => h
  have hl : concL (mkGh [] [qty, amount, part, s] rfl) (fun _ => none) crArgs30 = some [.int .i64 qty, .int .i64 amount, .int .i64 part, .bool true, .bool true, .bool true, .bool true, .bool false] := by simp [crArgs30, concL, conc, den, mkGh]
  exact (cr_split (-1,[(1,1)]) (0,[(1,-1)]) (by kernel_rfl) (fun hg => cru77 ⟨hI, hg, hnl⟩ hm hT hl w) (fun hg => cru78 ⟨hI, hg, hnl⟩ hm hT hl w))
set_option maxRecDepth 100000 in
theorem cr_in31 (qty amount part s : Int) (w : World) (hnl : nlOk (mkGh [] [qty, amount, part, s] rfl) []) (hT : HooksOk Tryz.prog (mkGh [] [qty, amount, part, s] rfl) (hkT crT)) (hI : bdOk (mkGh [] [qty, amount, part, s] rfl).σ crI 0) : geOk (mkGh [] [qty, amount, part, s] rfl).σ [(0,[(0,1),(2,-1)]), (0,[(1,1),(3,-1)])] → Calls Tryz.prog 4 #[.int .i64 qty, .int .i64 amount, .int .i64 part, .bool true, .bool true, .bool true, .bool true, .bool true] w (TrueBelow w) := by
  have hm : ¬ ((mkGh [] [qty, amount, part, s] rfl)).mono := fun h => h
  have hl : concL (mkGh [] [qty, amount, part, s] rfl) (fun _ => none) crArgs31 = some [.int .i64 qty, .int .i64 amount, .int .i64 part, .bool true, .bool true, .bool true, .bool true, .bool true] := by simp [crArgs31, concL, conc, den, mkGh]
  exact (cr_split (-1,[(1,1)]) (0,[(1,-1)]) (by kernel_rfl) (fun hg => cru79 ⟨hI, hg, hnl⟩ hm hT hl w) (fun hg => cru80 ⟨hI, hg, hnl⟩ hm hT hl w))
end Go.Proofs.YtaajobcfbgpfoaaGreat
