/- complinelaw27.alive: runs, part 1. -/
import Derived.Test.YtdfgedemolielaaGreatJ4
import Derived.Test.YtdfgedemolielaaGreatAlR0
namespace Go.Proofs.YtdfgedemolielaaGreat
open Go Go.RowKit Gv Gv.Lt
set_option maxRecDepth 100000
theorem alr9 : alC [] [] 82 alP9 := by unfold alC; kernel_rfl
theorem als9 : alS [] alP9 := al_piece Tryz.func82 rfl alr9 fun _ _ => alN
theorem alr10 : alC [alP0, alP1, alP2, alP3, alP4, alP5, alP6, alP7, alP8, alP9] [] 16 alP10 := by unfold alC; kernel_rfl
theorem als10 : alS [] alP10 := al_piece Tryz.func16 rfl alr10 fun F hm => (alK (als0 F hm) (alK (als1 F hm) (alK (als2 F hm) (alK (als3 F hm) (alK (als4 F hm) (alK (als5 F hm) (alK (als6 F hm) (alK (als7 F hm) (alK (als8 F hm) (alK (als9 F hm) alN))))))))))
theorem alt0 : (callN (alE [alP10] alI []) 100 15 alArgs H0).isTrue = true := by kernel_rfl
theorem alu0 {G : Gh} (F : Facts G alI [] alNL) (hm : ¬ G.mono) {ul : List Value} (hl : concL G (fun _ => none) alArgs = some ul) (w : World) : Calls Tryz.prog 15 ul.toArray w (TrueBelow w) := by exact run_true (nl := []) progOk F (alH F hm (alK (als10 F hm) alN)) Tryz.func15 rfl hl alt0 w
end Go.Proofs.YtdfgedemolielaaGreat
/- complinelaw27.alive: within its bounds. -/
namespace Go.Proofs.YtdfgedemolielaaGreat
open Go Go.RowKit Gv Gv.Lt
set_option maxRecDepth 100000
theorem al_split {σ : Nat → Int} {ge : List LF} {C : Prop} (x y : LF) (e : LF.neg x = y) (ha : geOk σ (x :: ge) → C) (hb : geOk σ (y :: ge) → C) (h : geOk σ ge) : C := split_at x ha (by rw [e]; exact hb) h
theorem al_in (w : World) (hnl : nlOk (mkGh [] [] rfl) []) (hI : bdOk (mkGh [] [] rfl).σ alI 0) : geOk (mkGh [] [] rfl).σ [] → Calls Tryz.prog 15 #[] w (TrueBelow w) := by
 have hm : ¬ ((mkGh [] [] rfl)).mono := fun h => h
 have hl : concL (mkGh [] [] rfl) (fun _ => none) alArgs = some [] := by unfold alArgs; exact concL_nil
 exact (fun hg => alu0 ⟨hI, hg, hnl⟩ hm hl w)
end Go.Proofs.YtdfgedemolielaaGreat
/- complinelaw27.alive returns true, and nothing that was there has changed. -/
namespace Go.Proofs.YtdfgedemolielaaGreat
open Go.RowKit Gv
set_option maxRecDepth 100000 in
theorem aliveAny27 (w : World) : Calls Tryz.prog 15 #[] w (TrueBelow w) := al_in w trivial trivial trivial
theorem aliveOk27 (G : Gh) : HTOk Tryz.prog G ⟨15, [], .bool true⟩ := by
 refine ⟨⟨_, _, Tryz.func15, rfl⟩, fun φ ul hl w => ?_⟩
 rw [concL_nil] at hl
 cases hl
 refine (aliveAny27 w).mono ?_
 rintro e w' ⟨rfl, hb⟩
 exact ⟨.bool true, fun ψ => by rw [conc], rfl, hb⟩
end Go.Proofs.YtdfgedemolielaaGreat
