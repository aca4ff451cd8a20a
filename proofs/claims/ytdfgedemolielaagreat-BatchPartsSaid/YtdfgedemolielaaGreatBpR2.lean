/- complinelaw26.BatchParts: runs, part 2. -/
import Derived.Test.YtdfgedemolielaaGreatBpQ
import Derived.Test.YtdfgedemolielaaGreatBpR0
namespace Go.Proofs.YtdfgedemolielaaGreat
open Go Go.RowKit Gv Gv.Lt
set_option maxRecDepth 100000
theorem bpr165 : bpC [] bpG15 185 bpP165 := by unfold bpC; kernel_rfl
theorem bps165 : bpS bpG15 bpP165 := bp_piece Tryz.func185 rfl bpr165 fun _ _ _ => bpN
theorem bpr173 : bpC [bpP165] bpG15 78 bpP173 := by unfold bpC; kernel_rfl
theorem bps173 : bpS bpG15 bpP173 := bp_piece Tryz.func78 rfl bpr173 fun F hm hT => (bpK (bps165 F hm hT) bpN)
theorem bpr328 : bpC [] bpG16 78 bpP328 := by unfold bpC; kernel_rfl
theorem bps328 : bpS bpG16 bpP328 := bp_piece Tryz.func78 rfl bpr328 fun _ _ _ => bpN
theorem bpr332 : bpC [bpP173, bpP328] bpG16 12 bpP332 := by unfold bpC; kernel_rfl
theorem bps332 : bpS bpG16 bpP332 := bp_piece Tryz.func12 rfl bpr332 fun F hm hT => (bpK (bps173 ⟨F.bd, F.ge.2.2, F.nl⟩ hm hT) (bpK (bps328 F hm hT) bpN))
theorem bpt19 : bpD [bpP0, bpP1, bpP2, bpP3, bpP4, bpP8, bpP332] bpG16 (bpL1 10) bpArgs3 := by unfold bpD; kernel_rfl
theorem bpu19 : bpLeaf bpG16 (bpL1 10) bpArgs3 := bp_leaf bpt19 (by kernel_rfl) fun F hm hT => (bpK (bps0 ⟨F.bd, trivial, F.nl⟩ hm hT) (bpK (bps1 ⟨F.bd, trivial, F.nl⟩ hm hT) (bpK (bps2 ⟨F.bd, trivial, F.nl⟩ hm hT) (bpK (bps3 ⟨F.bd, ⟨F.ge.2.2.2.2.1, trivial⟩, F.nl⟩ hm hT) (bpK (bps4 ⟨F.bd, ⟨F.ge.2.2.2.1, trivial⟩, F.nl⟩ hm hT) (bpK (bps8 ⟨F.bd, trivial, F.nl⟩ hm hT) (bpK (bps332 F hm hT) bpN)))))))
theorem bpr700 : bpC [] bpG51 78 bpP700 := by unfold bpC; kernel_rfl
theorem bps700 : bpS bpG51 bpP700 := bp_piece Tryz.func78 rfl bpr700 fun _ _ _ => bpN
theorem bpr703 : bpC [bpP700] bpG51 12 bpP703 := by unfold bpC; kernel_rfl
theorem bps703 : bpS bpG51 bpP703 := bp_piece Tryz.func12 rfl bpr703 fun F hm hT => (bpK (bps700 F hm hT) bpN)
theorem bpt41 : bpD [bpP0, bpP1, bpP2, bpP533, bpP617, bpP636, bpP703] bpG51 (bpL1 10) bpArgs10 := by unfold bpD; kernel_rfl
theorem bpu41 : bpLeaf bpG51 (bpL1 10) bpArgs10 := bp_leaf bpt41 (by kernel_rfl) fun F hm hT => (bpK (bps0 ⟨F.bd, trivial, F.nl⟩ hm hT) (bpK (bps1 ⟨F.bd, trivial, F.nl⟩ hm hT) (bpK (bps2 ⟨F.bd, trivial, F.nl⟩ hm hT) (bpK (bps533 ⟨F.bd, ⟨F.ge.2.1, trivial⟩, F.nl⟩ hm hT) (bpK (bps617 ⟨F.bd, ⟨F.ge.1, trivial⟩, F.nl⟩ hm hT) (bpK (bps636 ⟨F.bd, trivial, F.nl⟩ hm hT) (bpK (bps703 F hm hT) bpN)))))))
theorem bpr813 : bpC [] bpG54 78 bpP813 := by unfold bpC; kernel_rfl
theorem bps813 : bpS bpG54 bpP813 := bp_piece Tryz.func78 rfl bpr813 fun _ _ _ => bpN
theorem bpr819 : bpC [bpP813] bpG54 12 bpP819 := by unfold bpC; kernel_rfl
theorem bps819 : bpS bpG54 bpP819 := bp_piece Tryz.func12 rfl bpr819 fun F hm hT => (bpK (bps813 F hm hT) bpN)
theorem bpt44 : bpD [bpP0, bpP1, bpP2, bpP533, bpP617, bpP636, bpP819] bpG54 (bpL1 10) bpArgs11 := by unfold bpD; kernel_rfl
theorem bpu44 : bpLeaf bpG54 (bpL1 10) bpArgs11 := bp_leaf bpt44 (by kernel_rfl) fun F hm hT => (bpK (bps0 ⟨F.bd, trivial, F.nl⟩ hm hT) (bpK (bps1 ⟨F.bd, trivial, F.nl⟩ hm hT) (bpK (bps2 ⟨F.bd, trivial, F.nl⟩ hm hT) (bpK (bps533 ⟨F.bd, ⟨F.ge.2.2.1, trivial⟩, F.nl⟩ hm hT) (bpK (bps617 ⟨F.bd, ⟨F.ge.2.1, trivial⟩, F.nl⟩ hm hT) (bpK (bps636 ⟨F.bd, trivial, F.nl⟩ hm hT) (bpK (bps819 F hm hT) bpN)))))))
theorem bpr52 : bpC [] bpG7 185 bpP52 := by unfold bpC; kernel_rfl
theorem bps52 : bpS bpG7 bpP52 := bp_piece Tryz.func185 rfl bpr52 fun _ _ _ => bpN
theorem bpr71 : bpC [bpP52] bpG7 78 bpP71 := by unfold bpC; kernel_rfl
theorem bps71 : bpS bpG7 bpP71 := bp_piece Tryz.func78 rfl bpr71 fun F hm hT => (bpK (bps52 F hm hT) bpN)
theorem bpr281 : bpC [] bpG7 78 bpP281 := by unfold bpC; kernel_rfl
theorem bps281 : bpS bpG7 bpP281 := bp_piece Tryz.func78 rfl bpr281 fun _ _ _ => bpN
theorem bpr291 : bpC [bpP71, bpP281] bpG7 12 bpP291 := by unfold bpC; kernel_rfl
theorem bps291 : bpS bpG7 bpP291 := bp_piece Tryz.func12 rfl bpr291 fun F hm hT => (bpK (bps71 F hm hT) (bpK (bps281 F hm hT) bpN))
theorem bpt5 : bpD [bpP0, bpP1, bpP2, bpP3, bpP4, bpP8, bpP291] bpG7 (bpL1 10) bpArgs0 := by unfold bpD; kernel_rfl
theorem bpu5 : bpLeaf bpG7 (bpL1 10) bpArgs0 := bp_leaf bpt5 (by kernel_rfl) fun F hm hT => (bpK (bps0 ⟨F.bd, trivial, F.nl⟩ hm hT) (bpK (bps1 ⟨F.bd, trivial, F.nl⟩ hm hT) (bpK (bps2 ⟨F.bd, trivial, F.nl⟩ hm hT) (bpK (bps3 ⟨F.bd, ⟨F.ge.2.2.2.1, trivial⟩, F.nl⟩ hm hT) (bpK (bps4 ⟨F.bd, ⟨F.ge.2.2.1, trivial⟩, F.nl⟩ hm hT) (bpK (bps8 ⟨F.bd, trivial, F.nl⟩ hm hT) (bpK (bps291 F hm hT) bpN)))))))
theorem bpr767 : bpC [] bpG59 78 bpP767 := by unfold bpC; kernel_rfl
theorem bps767 : bpS bpG59 bpP767 := bp_piece Tryz.func78 rfl bpr767 fun _ _ _ => bpN
theorem bpr788 : bpC [bpP767] bpG59 12 bpP788 := by unfold bpC; kernel_rfl
theorem bps788 : bpS bpG59 bpP788 := bp_piece Tryz.func12 rfl bpr788 fun F hm hT => (bpK (bps767 F hm hT) bpN)
theorem bpt49 : bpD [bpP0, bpP1, bpP2, bpP3, bpP5, bpP6, bpP788] bpG59 (bpL0 10) bpArgs12 := by unfold bpD; kernel_rfl
theorem bpu49 : bpLeaf bpG59 (bpL0 10) bpArgs12 := bp_leaf bpt49 (by kernel_rfl) fun F hm hT => (bpK (bps0 ⟨F.bd, trivial, F.nl⟩ hm hT) (bpK (bps1 ⟨F.bd, trivial, F.nl⟩ hm hT) (bpK (bps2 ⟨F.bd, trivial, F.nl⟩ hm hT) (bpK (bps3 ⟨F.bd, ⟨F.ge.2.2.1, trivial⟩, F.nl⟩ hm hT) (bpK (bps5 ⟨F.bd, ⟨F.ge.2.1, trivial⟩, F.nl⟩ hm hT) (bpK (bps6 ⟨F.bd, trivial, F.nl⟩ hm hT) (bpK (bps788 F hm hT) bpN)))))))
end Go.Proofs.YtdfgedemolielaaGreat
