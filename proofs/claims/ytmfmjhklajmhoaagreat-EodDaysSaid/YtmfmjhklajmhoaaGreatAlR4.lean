/- complinelaw27.alive: runs, part 4. -/
import Derived.Test.YtmfmjhklajmhoaaGreatAlA
import Derived.Test.YtmfmjhklajmhoaaGreatAlR0
import Derived.Test.YtmfmjhklajmhoaaGreatAlR1
import Derived.Test.YtmfmjhklajmhoaaGreatAlR2
import Derived.Test.YtmfmjhklajmhoaaGreatAlR3
namespace Go.Proofs.YtmfmjhklajmhoaaGreat
open Go Go.RowKit Gv Gv.Lt
set_option maxRecDepth 100000
theorem alr18 : alC [alP16, alP17] [] 137 alP18 := by unfold alC; kernel_rfl
theorem als18 : alS [] alP18 := al_piece Tryz.func137 rfl alr18 fun F hm => (alK (als16 F hm) (alK (als17 F hm) alN))
theorem alr19 : alC [] [] 286 alP19 := by unfold alC; kernel_rfl
theorem als19 : alS [] alP19 := al_piece Tryz.func286 rfl alr19 fun _ _ => alN
theorem alr20 : alC [] [] 471 alP20 := by unfold alC; kernel_rfl
theorem als20 : alS [] alP20 := al_piece Tryz.func471 rfl alr20 fun _ _ => alN
theorem alr21 : alC [alP20] [] 362 alP21 := by unfold alC; kernel_rfl
theorem als21 : alS [] alP21 := al_piece Tryz.func362 rfl alr21 fun F hm => (alK (als20 F hm) alN)
theorem alr22 : alC [alP21] [] 286 alP22 := by unfold alC; kernel_rfl
theorem als22 : alS [] alP22 := al_piece Tryz.func286 rfl alr22 fun F hm => (alK (als21 F hm) alN)
theorem alr23 : alC [] [] 286 alP23 := by unfold alC; kernel_rfl
theorem als23 : alS [] alP23 := al_piece Tryz.func286 rfl alr23 fun _ _ => alN
theorem alr24 : alC [] [] 286 alP24 := by unfold alC; kernel_rfl
theorem als24 : alS [] alP24 := al_piece Tryz.func286 rfl alr24 fun _ _ => alN
theorem alr25 : alC [] [] 471 alP25 := by unfold alC; kernel_rfl
theorem als25 : alS [] alP25 := al_piece Tryz.func471 rfl alr25 fun _ _ => alN
theorem alr26 : alC [alP25] [] 362 alP26 := by unfold alC; kernel_rfl
theorem als26 : alS [] alP26 := al_piece Tryz.func362 rfl alr26 fun F hm => (alK (als25 F hm) alN)
theorem alr27 : alC [alP26] [] 286 alP27 := by unfold alC; kernel_rfl
theorem als27 : alS [] alP27 := al_piece Tryz.func286 rfl alr27 fun F hm => (alK (als26 F hm) alN)
theorem alr28 : alC [] [] 286 alP28 := by unfold alC; kernel_rfl
theorem als28 : alS [] alP28 := al_piece Tryz.func286 rfl alr28 fun _ _ => alN
theorem alr29 : alC [alP19, alP22, alP23, alP24, alP27, alP28] [] 224 alP29 := by unfold alC; kernel_rfl
theorem als29 : alS [] alP29 := al_piece Tryz.func224 rfl alr29 fun F hm => (alK (als19 F hm) (alK (als22 F hm) (alK (als23 F hm) (alK (als24 F hm) (alK (als27 F hm) (alK (als28 F hm) alN))))))
theorem alr30 : alC [alP29] [] 137 alP30 := by unfold alC; kernel_rfl
theorem als30 : alS [] alP30 := al_piece Tryz.func137 rfl alr30 fun F hm => (alK (als29 F hm) alN)
theorem alr31 : alC [alP18, alP30] [] 44 alP31 := by unfold alC; kernel_rfl
theorem als31 : alS [] alP31 := al_piece Tryz.func44 rfl alr31 fun F hm => (alK (als18 F hm) (alK (als30 F hm) alN))
theorem alr32 : alC [alP0, alP1, alP2, alP3, alP4, alP5, alP6, alP7, alP10, alP31] [] 11 alP32 := by unfold alC; kernel_rfl
theorem als32 : alS [] alP32 := al_piece Tryz.func11 rfl alr32 fun F hm => (alK (als0 F hm) (alK (als1 F hm) (alK (als2 F hm) (alK (als3 F hm) (alK (als4 F hm) (alK (als5 F hm) (alK (als6 F hm) (alK (als7 F hm) (alK (als10 F hm) (alK (als31 F hm) alN))))))))))
theorem alr33 : alC [] [] 9 alP33 := by unfold alC; kernel_rfl
theorem als33 : alS [] alP33 := al_piece Tryz.func9 rfl alr33 fun _ _ => alN
theorem alt0 : (callN (alE [alP32, alP33] alI []) 100 4 alArgs H0).isTrue = true := by kernel_rfl
theorem alu0 {G : Gh} (F : Facts G alI [] alNL) (hm : ¬ G.mono) {ul : List Value} (hl : concL G (fun _ => none) alArgs = some ul) (w : World) : Calls Tryz.prog 4 ul.toArray w (TrueBelow w) := by exact run_true (nl := []) progOk F (alH F hm (alK (als32 F hm) (alK (als33 F hm) alN))) Tryz.func4 rfl hl alt0 w
end Go.Proofs.YtmfmjhklajmhoaaGreat
