/- complinelaw26.BatchParts: runs, part 7. -/
import Derived.Test.YtdfgedemolielaaGreatBpQ
import Derived.Test.YtdfgedemolielaaGreatBpR0
namespace Go.Proofs.YtdfgedemolielaaGreat
open Go Go.RowKit Gv Gv.Lt
set_option maxRecDepth 100000
theorem bpr474 : bpC [] bpG31 185 bpP474 := by unfold bpC; kernel_rfl
theorem bps474 : bpS bpG31 bpP474 := bp_piece Tryz.func185 rfl bpr474 fun _ _ _ => bpN
theorem bpr488 : bpC [bpP474] bpG31 78 bpP488 := by unfold bpC; kernel_rfl
theorem bps488 : bpS bpG31 bpP488 := bp_piece Tryz.func78 rfl bpr488 fun F hm hT => (bpK (bps474 F hm hT) bpN)
theorem bpr678 : bpC [] bpG32 78 bpP678 := by unfold bpC; kernel_rfl
theorem bps678 : bpS bpG32 bpP678 := bp_piece Tryz.func78 rfl bpr678 fun _ _ _ => bpN
theorem bpr776 : bpC [bpP488, bpP678] bpG32 12 bpP776 := by unfold bpC; kernel_rfl
theorem bps776 : bpS bpG32 bpP776 := bp_piece Tryz.func12 rfl bpr776 fun F hm hT => (bpK (bps488 ⟨F.bd, F.ge.2, F.nl⟩ hm hT) (bpK (bps678 F hm hT) bpN))
theorem bpt27 : bpD [bpP0, bpP1, bpP2, bpP345, bpP350, bpP357, bpP776] bpG32 (bpL1 2) bpArgs7 := by unfold bpD; kernel_rfl
theorem bpu27 : bpLeaf bpG32 (bpL1 2) bpArgs7 := bp_leaf bpt27 (by kernel_rfl) fun F hm hT => (bpK (bps0 ⟨F.bd, trivial, F.nl⟩ hm hT) (bpK (bps1 ⟨F.bd, trivial, F.nl⟩ hm hT) (bpK (bps2 ⟨F.bd, trivial, F.nl⟩ hm hT) (bpK (bps345 ⟨F.bd, ⟨F.ge.2.2.2.2.2.2.1, trivial⟩, F.nl⟩ hm hT) (bpK (bps350 ⟨F.bd, ⟨F.ge.2.2.2.2.2.1, trivial⟩, F.nl⟩ hm hT) (bpK (bps357 ⟨F.bd, trivial, F.nl⟩ hm hT) (bpK (bps776 F hm hT) bpN)))))))
theorem bpr651 : bpC [] bpG44 78 bpP651 := by unfold bpC; kernel_rfl
theorem bps651 : bpS bpG44 bpP651 := bp_piece Tryz.func78 rfl bpr651 fun _ _ _ => bpN
theorem bpr659 : bpC [bpP651] bpG44 12 bpP659 := by unfold bpC; kernel_rfl
theorem bps659 : bpS bpG44 bpP659 := bp_piece Tryz.func12 rfl bpr659 fun F hm hT => (bpK (bps651 F hm hT) bpN)
theorem bpt35 : bpD [bpP0, bpP1, bpP2, bpP3, bpP5, bpP9, bpP659] bpG44 (bpL1 10) bpArgs8 := by unfold bpD; kernel_rfl
theorem bpu35 : bpLeaf bpG44 (bpL1 10) bpArgs8 := bp_leaf bpt35 (by kernel_rfl) fun F hm hT => (bpK (bps0 ⟨F.bd, trivial, F.nl⟩ hm hT) (bpK (bps1 ⟨F.bd, trivial, F.nl⟩ hm hT) (bpK (bps2 ⟨F.bd, trivial, F.nl⟩ hm hT) (bpK (bps3 ⟨F.bd, ⟨F.ge.2.2.2.1, trivial⟩, F.nl⟩ hm hT) (bpK (bps5 ⟨F.bd, ⟨F.ge.2.2.1, trivial⟩, F.nl⟩ hm hT) (bpK (bps9 ⟨F.bd, trivial, F.nl⟩ hm hT) (bpK (bps659 F hm hT) bpN)))))))
theorem bpr55 : bpC [] bpG2 185 bpP55 := by unfold bpC; kernel_rfl
theorem bps55 : bpS bpG2 bpP55 := bp_piece Tryz.func185 rfl bpr55 fun _ _ _ => bpN
theorem bpr66 : bpC [bpP55] bpG2 78 bpP66 := by unfold bpC; kernel_rfl
theorem bps66 : bpS bpG2 bpP66 := bp_piece Tryz.func78 rfl bpr66 fun F hm hT => (bpK (bps55 F hm hT) bpN)
theorem bpr272 : bpC [] bpG2 78 bpP272 := by unfold bpC; kernel_rfl
theorem bps272 : bpS bpG2 bpP272 := bp_piece Tryz.func78 rfl bpr272 fun _ _ _ => bpN
theorem bpr287 : bpC [bpP66, bpP272] bpG2 12 bpP287 := by unfold bpC; kernel_rfl
theorem bps287 : bpS bpG2 bpP287 := bp_piece Tryz.func12 rfl bpr287 fun F hm hT => (bpK (bps66 F hm hT) (bpK (bps272 F hm hT) bpN))
theorem bpt0 : bpD [bpP0, bpP1, bpP2, bpP3, bpP4, bpP8, bpP287] bpG2 (bpL1 10) bpArgs0 := by unfold bpD; kernel_rfl
theorem bpu0 : bpLeaf bpG2 (bpL1 10) bpArgs0 := bp_leaf bpt0 (by kernel_rfl) fun F hm hT => (bpK (bps0 ⟨F.bd, trivial, F.nl⟩ hm hT) (bpK (bps1 ⟨F.bd, trivial, F.nl⟩ hm hT) (bpK (bps2 ⟨F.bd, trivial, F.nl⟩ hm hT) (bpK (bps3 ⟨F.bd, ⟨F.ge.2.2.2.2.1, trivial⟩, F.nl⟩ hm hT) (bpK (bps4 ⟨F.bd, ⟨F.ge.2.2.2.1, trivial⟩, F.nl⟩ hm hT) (bpK (bps8 ⟨F.bd, trivial, F.nl⟩ hm hT) (bpK (bps287 F hm hT) bpN)))))))
theorem bpr766 : bpC [] bpG58 78 bpP766 := by unfold bpC; kernel_rfl
theorem bps766 : bpS bpG58 bpP766 := bp_piece Tryz.func78 rfl bpr766 fun _ _ _ => bpN
theorem bpr787 : bpC [bpP766] bpG58 12 bpP787 := by unfold bpC; kernel_rfl
theorem bps787 : bpS bpG58 bpP787 := bp_piece Tryz.func12 rfl bpr787 fun F hm hT => (bpK (bps766 F hm hT) bpN)
theorem bpt48 : bpD [bpP0, bpP1, bpP2, bpP3, bpP5, bpP6, bpP787] bpG58 (bpL0 10) bpArgs12 := by unfold bpD; kernel_rfl
theorem bpu48 : bpLeaf bpG58 (bpL0 10) bpArgs12 := bp_leaf bpt48 (by kernel_rfl) fun F hm hT => (bpK (bps0 ⟨F.bd, trivial, F.nl⟩ hm hT) (bpK (bps1 ⟨F.bd, trivial, F.nl⟩ hm hT) (bpK (bps2 ⟨F.bd, trivial, F.nl⟩ hm hT) (bpK (bps3 ⟨F.bd, ⟨F.ge.2.2.1, trivial⟩, F.nl⟩ hm hT) (bpK (bps5 ⟨F.bd, ⟨F.ge.2.1, trivial⟩, F.nl⟩ hm hT) (bpK (bps6 ⟨F.bd, trivial, F.nl⟩ hm hT) (bpK (bps787 F hm hT) bpN)))))))
theorem bpr798 : bpC [] bpG63 78 bpP798 := by unfold bpC; kernel_rfl
theorem bps798 : bpS bpG63 bpP798 := bp_piece Tryz.func78 rfl bpr798 fun _ _ _ => bpN
theorem bpr809 : bpC [bpP798] bpG63 12 bpP809 := by unfold bpC; kernel_rfl
theorem bps809 : bpS bpG63 bpP809 := bp_piece Tryz.func12 rfl bpr809 fun F hm hT => (bpK (bps798 F hm hT) bpN)
theorem bpt53 : bpD [bpP0, bpP1, bpP2, bpP533, bpP541, bpP687, bpP809] bpG63 (bpL0 10) bpArgs12 := by unfold bpD; kernel_rfl
theorem bpu53 : bpLeaf bpG63 (bpL0 10) bpArgs12 := bp_leaf bpt53 (by kernel_rfl) fun F hm hT => (bpK (bps0 ⟨F.bd, trivial, F.nl⟩ hm hT) (bpK (bps1 ⟨F.bd, trivial, F.nl⟩ hm hT) (bpK (bps2 ⟨F.bd, trivial, F.nl⟩ hm hT) (bpK (bps533 ⟨F.bd, ⟨F.ge.2.2.1, trivial⟩, F.nl⟩ hm hT) (bpK (bps541 ⟨F.bd, ⟨F.ge.2.1, trivial⟩, F.nl⟩ hm hT) (bpK (bps687 ⟨F.bd, trivial, F.nl⟩ hm hT) (bpK (bps809 F hm hT) bpN)))))))
end Go.Proofs.YtdfgedemolielaaGreat
