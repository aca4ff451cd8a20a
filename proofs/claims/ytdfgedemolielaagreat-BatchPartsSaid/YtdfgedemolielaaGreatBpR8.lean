/- complinelaw26.BatchParts: runs, part 8. -/
import Derived.Test.YtdfgedemolielaaGreatBpQ
import Derived.Test.YtdfgedemolielaaGreatBpR0
namespace Go.Proofs.YtdfgedemolielaaGreat
open Go Go.RowKit Gv Gv.Lt
set_option maxRecDepth 100000
theorem bpr472 : bpC [] bpG38 185 bpP472 := by unfold bpC; kernel_rfl
theorem bps472 : bpS bpG38 bpP472 := bp_piece Tryz.func185 rfl bpr472 fun _ _ _ => bpN
theorem bpr487 : bpC [bpP472] bpG38 78 bpP487 := by unfold bpC; kernel_rfl
theorem bps487 : bpS bpG38 bpP487 := bp_piece Tryz.func78 rfl bpr487 fun F hm hT => (bpK (bps472 F hm hT) bpN)
theorem bpr672 : bpC [] bpG39 78 bpP672 := by unfold bpC; kernel_rfl
theorem bps672 : bpS bpG39 bpP672 := bp_piece Tryz.func78 rfl bpr672 fun _ _ _ => bpN
theorem bpr778 : bpC [bpP487, bpP672] bpG39 12 bpP778 := by unfold bpC; kernel_rfl
theorem bps778 : bpS bpG39 bpP778 := bp_piece Tryz.func12 rfl bpr778 fun F hm hT => (bpK (bps487 ⟨F.bd, F.ge.2, F.nl⟩ hm hT) (bpK (bps672 F hm hT) bpN))
theorem bpt31 : bpD [bpP0, bpP1, bpP2, bpP345, bpP350, bpP357, bpP778] bpG39 (bpL1 2) bpArgs7 := by unfold bpD; kernel_rfl
theorem bpu31 : bpLeaf bpG39 (bpL1 2) bpArgs7 := bp_leaf bpt31 (by kernel_rfl) fun F hm hT => (bpK (bps0 ⟨F.bd, trivial, F.nl⟩ hm hT) (bpK (bps1 ⟨F.bd, trivial, F.nl⟩ hm hT) (bpK (bps2 ⟨F.bd, trivial, F.nl⟩ hm hT) (bpK (bps345 ⟨F.bd, ⟨F.ge.2.2.2.2.2.2.1, trivial⟩, F.nl⟩ hm hT) (bpK (bps350 ⟨F.bd, ⟨F.ge.2.2.2.2.2.1, trivial⟩, F.nl⟩ hm hT) (bpK (bps357 ⟨F.bd, trivial, F.nl⟩ hm hT) (bpK (bps778 F hm hT) bpN)))))))
theorem bpr447 : bpC [] bpG28 185 bpP447 := by unfold bpC; kernel_rfl
theorem bps447 : bpS bpG28 bpP447 := bp_piece Tryz.func185 rfl bpr447 fun _ _ _ => bpN
theorem bpr457 : bpC [bpP447] bpG28 78 bpP457 := by unfold bpC; kernel_rfl
theorem bps457 : bpS bpG28 bpP457 := bp_piece Tryz.func78 rfl bpr457 fun F hm hT => (bpK (bps447 F hm hT) bpN)
theorem bpr571 : bpC [] bpG28 78 bpP571 := by unfold bpC; kernel_rfl
theorem bps571 : bpS bpG28 bpP571 := bp_piece Tryz.func78 rfl bpr571 fun _ _ _ => bpN
theorem bpr582 : bpC [bpP457, bpP571] bpG28 12 bpP582 := by unfold bpC; kernel_rfl
theorem bps582 : bpS bpG28 bpP582 := bp_piece Tryz.func12 rfl bpr582 fun F hm hT => (bpK (bps457 F hm hT) (bpK (bps571 F hm hT) bpN))
theorem bpt25 : bpD [bpP0, bpP1, bpP2, bpP345, bpP351, bpP356, bpP582] bpG28 (bpL1 2) bpArgs6 := by unfold bpD; kernel_rfl
theorem bpu25 : bpLeaf bpG28 (bpL1 2) bpArgs6 := bp_leaf bpt25 (by kernel_rfl) fun F hm hT => (bpK (bps0 ⟨F.bd, trivial, F.nl⟩ hm hT) (bpK (bps1 ⟨F.bd, trivial, F.nl⟩ hm hT) (bpK (bps2 ⟨F.bd, trivial, F.nl⟩ hm hT) (bpK (bps345 ⟨F.bd, ⟨F.ge.2.2.1, trivial⟩, F.nl⟩ hm hT) (bpK (bps351 ⟨F.bd, ⟨F.ge.2.1, trivial⟩, F.nl⟩ hm hT) (bpK (bps356 ⟨F.bd, trivial, F.nl⟩ hm hT) (bpK (bps582 F hm hT) bpN)))))))
theorem bpr62 : bpC [] bpG5 185 bpP62 := by unfold bpC; kernel_rfl
theorem bps62 : bpS bpG5 bpP62 := bp_piece Tryz.func185 rfl bpr62 fun _ _ _ => bpN
theorem bpr77 : bpC [bpP62] bpG5 78 bpP77 := by unfold bpC; kernel_rfl
theorem bps77 : bpS bpG5 bpP77 := bp_piece Tryz.func78 rfl bpr77 fun F hm hT => (bpK (bps62 F hm hT) bpN)
theorem bpr279 : bpC [] bpG5 78 bpP279 := by unfold bpC; kernel_rfl
theorem bps279 : bpS bpG5 bpP279 := bp_piece Tryz.func78 rfl bpr279 fun _ _ _ => bpN
theorem bpr295 : bpC [bpP77, bpP279] bpG5 12 bpP295 := by unfold bpC; kernel_rfl
theorem bps295 : bpS bpG5 bpP295 := bp_piece Tryz.func12 rfl bpr295 fun F hm hT => (bpK (bps77 F hm hT) (bpK (bps279 F hm hT) bpN))
theorem bpt11 : bpD [bpP0, bpP1, bpP2, bpP3, bpP4, bpP7, bpP295] bpG5 (bpL0 10) bpArgs1 := by unfold bpD; kernel_rfl
theorem bpu11 : bpLeaf bpG5 (bpL0 10) bpArgs1 := bp_leaf bpt11 (by kernel_rfl) fun F hm hT => (bpK (bps0 ⟨F.bd, trivial, F.nl⟩ hm hT) (bpK (bps1 ⟨F.bd, trivial, F.nl⟩ hm hT) (bpK (bps2 ⟨F.bd, trivial, F.nl⟩ hm hT) (bpK (bps3 ⟨F.bd, ⟨F.ge.2.2.2.2.1, trivial⟩, F.nl⟩ hm hT) (bpK (bps4 ⟨F.bd, ⟨F.ge.2.2.2.1, trivial⟩, F.nl⟩ hm hT) (bpK (bps7 ⟨F.bd, trivial, F.nl⟩ hm hT) (bpK (bps295 F hm hT) bpN)))))))
theorem bpr831 : bpC [] bpG66 78 bpP831 := by unfold bpC; kernel_rfl
theorem bps831 : bpS bpG66 bpP831 := bp_piece Tryz.func78 rfl bpr831 fun _ _ _ => bpN
theorem bpr834 : bpC [bpP831] bpG66 12 bpP834 := by unfold bpC; kernel_rfl
theorem bps834 : bpS bpG66 bpP834 := bp_piece Tryz.func12 rfl bpr834 fun F hm hT => (bpK (bps831 F hm hT) bpN)
theorem bpt56 : bpD [bpP0, bpP1, bpP2, bpP3, bpP5, bpP6, bpP834] bpG66 (bpL0 10) bpArgs13 := by unfold bpD; kernel_rfl
theorem bpu56 : bpLeaf bpG66 (bpL0 10) bpArgs13 := bp_leaf bpt56 (by kernel_rfl) fun F hm hT => (bpK (bps0 ⟨F.bd, trivial, F.nl⟩ hm hT) (bpK (bps1 ⟨F.bd, trivial, F.nl⟩ hm hT) (bpK (bps2 ⟨F.bd, trivial, F.nl⟩ hm hT) (bpK (bps3 ⟨F.bd, ⟨F.ge.2.1, trivial⟩, F.nl⟩ hm hT) (bpK (bps5 ⟨F.bd, ⟨F.ge.1, trivial⟩, F.nl⟩ hm hT) (bpK (bps6 ⟨F.bd, trivial, F.nl⟩ hm hT) (bpK (bps834 F hm hT) bpN)))))))
end Go.Proofs.YtdfgedemolielaaGreat
