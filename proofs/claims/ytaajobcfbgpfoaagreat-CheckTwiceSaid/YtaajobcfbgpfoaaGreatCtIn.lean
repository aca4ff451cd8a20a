/- complinelaw24.CheckTwice: within its bounds. -/
import Derived.Test.YtaajobcfbgpfoaaGreatCtR0
import Derived.Test.YtaajobcfbgpfoaaGreatCtR1
import Derived.Test.YtaajobcfbgpfoaaGreatCtR2
import Derived.Test.YtaajobcfbgpfoaaGreatCtR3
namespace Go.Proofs.YtaajobcfbgpfoaaGreat
open Go Go.RowKit Gv Gv.Lt
theorem ct_split {σ : Nat → Int} {ge : List LF} {C : Prop} (x y : LF) (e : LF.neg x = y) (ha : geOk σ (x :: ge) → C) (hb : geOk σ (y :: ge) → C) (h : geOk σ ge) : C := split_at x ha (by rw [e]; exact hb) h
set_option maxRecDepth 100000 in
theorem ct_in (qty amount part s : Int) (w : World) (hnl : nlOk (mkGh [] [qty, amount, part, s] rfl) []) (hT : HooksOk Tryz.prog (mkGh [] [qty, amount, part, s] rfl) (hkT ctT)) (hI : bdOk (mkGh [] [qty, amount, part, s] rfl).σ ctI 0) : geOk (mkGh [] [qty, amount, part, s] rfl).σ [(-1,[(0,1),(2,-1)]), (0,[(1,1),(3,-1)])] → Calls Tryz.prog 3 #[.int .i64 qty, .int .i64 amount, .int .i64 part] w (TrueBelow w) := by
  have hm : ¬ ((mkGh [] [qty, amount, part, s] rfl)).mono := fun h => h
  have hl : concL (mkGh [] [qty, amount, part, s] rfl) (fun _ => none) ctArgs = some [.int .i64 qty, .int .i64 amount, .int .i64 part] := by simp [ctArgs, concL, conc, den, mkGh]
  exact (ct_split (-1,[(1,1)]) (0,[(1,-1)]) (by kernel_rfl) (ct_split (-1,[(3,1)]) (0,[(3,-1)]) (by kernel_rfl) (ct_split (-1,[(3,-1),(1,1)]) (0,[(3,1),(1,-1)]) (by kernel_rfl) (fun hg => ctu0 ⟨hI, hg, hnl⟩ hm hT hl w) (fun hg => ctu1 ⟨hI, hg, hnl⟩ hm hT hl w)) (ct_split (-1,[(1,1),(3,-1)]) (0,[(1,-1),(3,1)]) (by kernel_rfl) (fun hg => ctu2 ⟨hI, hg, hnl⟩ hm hT hl w) (dead_at [1, 1, 1, 0, 0] (by kernel_rfl) hI))) (ct_split (-1,[(3,1)]) (0,[(3,-1)]) (by kernel_rfl) (dead_at [1, 1, 0, 1] (by kernel_rfl) hI) (fun hg => ctu3 ⟨hI, hg, hnl⟩ hm hT hl w)))
end Go.Proofs.YtaajobcfbgpfoaaGreat
