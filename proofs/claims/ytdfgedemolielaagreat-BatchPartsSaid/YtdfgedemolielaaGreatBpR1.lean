/- complinelaw26.BatchParts: runs, part 1. -/
import Derived.Test.YtdfgedemolielaaGreatBpQ
import Derived.Test.YtdfgedemolielaaGreatBpR0
namespace Go.Proofs.YtdfgedemolielaaGreat
open Go Go.RowKit Gv Gv.Lt
set_option maxRecDepth 100000
theorem bpr471 : bpC [] bpG35 185 bpP471 := by unfold bpC; kernel_rfl
theorem bps471 : bpS bpG35 bpP471 := bp_piece Tryz.func185 rfl bpr471 fun _ _ _ => bpN
theorem bpr483 : bpC [bpP471] bpG35 78 bpP483 := by unfold bpC; kernel_rfl
theorem bps483 : bpS bpG35 bpP483 := bp_piece Tryz.func78 rfl bpr483 fun F hm hT => (bpK (bps471 F hm hT) bpN)
theorem bpr668 : bpC [] bpG36 78 bpP668 := by unfold bpC; kernel_rfl
theorem bps668 : bpS bpG36 bpP668 := bp_piece Tryz.func78 rfl bpr668 fun _ _ _ => bpN
theorem bpr772 : bpC [bpP483, bpP668] bpG36 12 bpP772 := by unfold bpC; kernel_rfl
theorem bps772 : bpS bpG36 bpP772 := bp_piece Tryz.func12 rfl bpr772 fun F hm hT => (bpK (bps483 ⟨F.bd, F.ge.2, F.nl⟩ hm hT) (bpK (bps668 F hm hT) bpN))
theorem bpr669 : bpC [] bpG37 78 bpP669 := by unfold bpC; kernel_rfl
theorem bps669 : bpS bpG37 bpP669 := bp_piece Tryz.func78 rfl bpr669 fun _ _ _ => bpN
theorem bpr773 : bpC [bpP483, bpP669] bpG37 12 bpP773 := by unfold bpC; kernel_rfl
theorem bps773 : bpS bpG37 bpP773 := bp_piece Tryz.func12 rfl bpr773 fun F hm hT => (bpK (bps483 ⟨F.bd, F.ge.2, F.nl⟩ hm hT) (bpK (bps669 F hm hT) bpN))
theorem bpt29 : bpD [bpP0, bpP1, bpP2, bpP345, bpP350, bpP357, bpP772] bpG36 (bpL1 2) bpArgs7 := by unfold bpD; kernel_rfl
theorem bpu29 : bpLeaf bpG36 (bpL1 2) bpArgs7 := bp_leaf bpt29 (by kernel_rfl) fun F hm hT => (bpK (bps0 ⟨F.bd, trivial, F.nl⟩ hm hT) (bpK (bps1 ⟨F.bd, trivial, F.nl⟩ hm hT) (bpK (bps2 ⟨F.bd, trivial, F.nl⟩ hm hT) (bpK (bps345 ⟨F.bd, ⟨F.ge.2.2.2.2.2.2.1, trivial⟩, F.nl⟩ hm hT) (bpK (bps350 ⟨F.bd, ⟨F.ge.2.2.2.2.2.1, trivial⟩, F.nl⟩ hm hT) (bpK (bps357 ⟨F.bd, trivial, F.nl⟩ hm hT) (bpK (bps772 F hm hT) bpN)))))))
theorem bpt30 : bpD [bpP0, bpP1, bpP2, bpP345, bpP350, bpP357, bpP773] bpG37 (bpL1 2) bpArgs7 := by unfold bpD; kernel_rfl
theorem bpu30 : bpLeaf bpG37 (bpL1 2) bpArgs7 := bp_leaf bpt30 (by kernel_rfl) fun F hm hT => (bpK (bps0 ⟨F.bd, trivial, F.nl⟩ hm hT) (bpK (bps1 ⟨F.bd, trivial, F.nl⟩ hm hT) (bpK (bps2 ⟨F.bd, trivial, F.nl⟩ hm hT) (bpK (bps345 ⟨F.bd, ⟨F.ge.2.2.2.2.2.2.1, trivial⟩, F.nl⟩ hm hT) (bpK (bps350 ⟨F.bd, ⟨F.ge.2.2.2.2.2.1, trivial⟩, F.nl⟩ hm hT) (bpK (bps357 ⟨F.bd, trivial, F.nl⟩ hm hT) (bpK (bps773 F hm hT) bpN)))))))
theorem bpr666 : bpC [] bpG47 78 bpP666 := by unfold bpC; kernel_rfl
theorem bps666 : bpS bpG47 bpP666 := bp_piece Tryz.func78 rfl bpr666 fun _ _ _ => bpN
theorem bpr670 : bpC [bpP666] bpG47 12 bpP670 := by unfold bpC; kernel_rfl
theorem bps670 : bpS bpG47 bpP670 := bp_piece Tryz.func12 rfl bpr670 fun F hm hT => (bpK (bps666 F hm hT) bpN)
theorem bpt37 : bpD [bpP0, bpP1, bpP2, bpP533, bpP541, bpP552, bpP670] bpG47 (bpL1 10) bpArgs9 := by unfold bpD; kernel_rfl
theorem bpu37 : bpLeaf bpG47 (bpL1 10) bpArgs9 := bp_leaf bpt37 (by kernel_rfl) fun F hm hT => (bpK (bps0 ⟨F.bd, trivial, F.nl⟩ hm hT) (bpK (bps1 ⟨F.bd, trivial, F.nl⟩ hm hT) (bpK (bps2 ⟨F.bd, trivial, F.nl⟩ hm hT) (bpK (bps533 ⟨F.bd, ⟨F.ge.2.2.1, trivial⟩, F.nl⟩ hm hT) (bpK (bps541 ⟨F.bd, ⟨F.ge.2.1, trivial⟩, F.nl⟩ hm hT) (bpK (bps552 ⟨F.bd, trivial, F.nl⟩ hm hT) (bpK (bps670 F hm hT) bpN)))))))
theorem bpr47 : bpC [] bpG7 185 bpP47 := by unfold bpC; kernel_rfl
theorem bps47 : bpS bpG7 bpP47 := bp_piece Tryz.func185 rfl bpr47 fun _ _ _ => bpN
theorem bpr73 : bpC [bpP47] bpG7 78 bpP73 := by unfold bpC; kernel_rfl
theorem bps73 : bpS bpG7 bpP73 := bp_piece Tryz.func78 rfl bpr73 fun F hm hT => (bpK (bps47 F hm hT) bpN)
theorem bpr271 : bpC [] bpG7 78 bpP271 := by unfold bpC; kernel_rfl
theorem bps271 : bpS bpG7 bpP271 := bp_piece Tryz.func78 rfl bpr271 fun _ _ _ => bpN
theorem bpr290 : bpC [bpP73, bpP271] bpG7 12 bpP290 := by unfold bpC; kernel_rfl
theorem bps290 : bpS bpG7 bpP290 := bp_piece Tryz.func12 rfl bpr290 fun F hm hT => (bpK (bps73 F hm hT) (bpK (bps271 F hm hT) bpN))
theorem bpt13 : bpD [bpP0, bpP1, bpP2, bpP3, bpP4, bpP7, bpP290] bpG7 (bpL0 10) bpArgs1 := by unfold bpD; kernel_rfl
theorem bpu13 : bpLeaf bpG7 (bpL0 10) bpArgs1 := bp_leaf bpt13 (by kernel_rfl) fun F hm hT => (bpK (bps0 ⟨F.bd, trivial, F.nl⟩ hm hT) (bpK (bps1 ⟨F.bd, trivial, F.nl⟩ hm hT) (bpK (bps2 ⟨F.bd, trivial, F.nl⟩ hm hT) (bpK (bps3 ⟨F.bd, ⟨F.ge.2.2.2.1, trivial⟩, F.nl⟩ hm hT) (bpK (bps4 ⟨F.bd, ⟨F.ge.2.2.1, trivial⟩, F.nl⟩ hm hT) (bpK (bps7 ⟨F.bd, trivial, F.nl⟩ hm hT) (bpK (bps290 F hm hT) bpN)))))))
theorem bpr795 : bpC [] bpG57 78 bpP795 := by unfold bpC; kernel_rfl
theorem bps795 : bpS bpG57 bpP795 := bp_piece Tryz.func78 rfl bpr795 fun _ _ _ => bpN
theorem bpr807 : bpC [bpP795] bpG57 12 bpP807 := by unfold bpC; kernel_rfl
theorem bps807 : bpS bpG57 bpP807 := bp_piece Tryz.func12 rfl bpr807 fun F hm hT => (bpK (bps795 F hm hT) bpN)
theorem bpt47 : bpD [bpP0, bpP1, bpP2, bpP3, bpP4, bpP7, bpP807] bpG57 (bpL0 10) bpArgs12 := by unfold bpD; kernel_rfl
theorem bpu47 : bpLeaf bpG57 (bpL0 10) bpArgs12 := bp_leaf bpt47 (by kernel_rfl) fun F hm hT => (bpK (bps0 ⟨F.bd, trivial, F.nl⟩ hm hT) (bpK (bps1 ⟨F.bd, trivial, F.nl⟩ hm hT) (bpK (bps2 ⟨F.bd, trivial, F.nl⟩ hm hT) (bpK (bps3 ⟨F.bd, ⟨F.ge.2.2.1, trivial⟩, F.nl⟩ hm hT) (bpK (bps4 ⟨F.bd, ⟨F.ge.2.1, trivial⟩, F.nl⟩ hm hT) (bpK (bps7 ⟨F.bd, trivial, F.nl⟩ hm hT) (bpK (bps807 F hm hT) bpN)))))))
end Go.Proofs.YtdfgedemolielaaGreat
