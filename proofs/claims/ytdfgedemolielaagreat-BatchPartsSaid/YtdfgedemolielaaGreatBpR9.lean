/- complinelaw26.BatchParts: runs, part 9. -/
import Derived.Test.YtdfgedemolielaaGreatBpQ
import Derived.Test.YtdfgedemolielaaGreatBpR0
namespace Go.Proofs.YtdfgedemolielaaGreat
open Go Go.RowKit Gv Gv.Lt
set_option maxRecDepth 100000
theorem bpr450 : bpC [] bpG26 185 bpP450 := by unfold bpC; kernel_rfl
theorem bps450 : bpS bpG26 bpP450 := bp_piece Tryz.func185 rfl bpr450 fun _ _ _ => bpN
theorem bpr456 : bpC [bpP450] bpG26 78 bpP456 := by unfold bpC; kernel_rfl
theorem bps456 : bpS bpG26 bpP456 := bp_piece Tryz.func78 rfl bpr456 fun F hm hT => (bpK (bps450 F hm hT) bpN)
theorem bpr576 : bpC [] bpG27 78 bpP576 := by unfold bpC; kernel_rfl
theorem bps576 : bpS bpG27 bpP576 := bp_piece Tryz.func78 rfl bpr576 fun _ _ _ => bpN
theorem bpr581 : bpC [bpP456, bpP576] bpG27 12 bpP581 := by unfold bpC; kernel_rfl
theorem bps581 : bpS bpG27 bpP581 := bp_piece Tryz.func12 rfl bpr581 fun F hm hT => (bpK (bps456 ⟨F.bd, F.ge.2, F.nl⟩ hm hT) (bpK (bps576 F hm hT) bpN))
theorem bpt24 : bpD [bpP0, bpP1, bpP2, bpP345, bpP351, bpP356, bpP581] bpG27 (bpL1 2) bpArgs6 := by unfold bpD; kernel_rfl
theorem bpu24 : bpLeaf bpG27 (bpL1 2) bpArgs6 := bp_leaf bpt24 (by kernel_rfl) fun F hm hT => (bpK (bps0 ⟨F.bd, trivial, F.nl⟩ hm hT) (bpK (bps1 ⟨F.bd, trivial, F.nl⟩ hm hT) (bpK (bps2 ⟨F.bd, trivial, F.nl⟩ hm hT) (bpK (bps345 ⟨F.bd, ⟨F.ge.2.2.2.1, trivial⟩, F.nl⟩ hm hT) (bpK (bps351 ⟨F.bd, ⟨F.ge.2.2.1, trivial⟩, F.nl⟩ hm hT) (bpK (bps356 ⟨F.bd, trivial, F.nl⟩ hm hT) (bpK (bps581 F hm hT) bpN)))))))
theorem bpr374 : bpC [] bpG19 185 bpP374 := by unfold bpC; kernel_rfl
theorem bps374 : bpS bpG19 bpP374 := bp_piece Tryz.func185 rfl bpr374 fun _ _ _ => bpN
theorem bpr380 : bpC [bpP374] bpG19 78 bpP380 := by unfold bpC; kernel_rfl
theorem bps380 : bpS bpG19 bpP380 := bp_piece Tryz.func78 rfl bpr380 fun F hm hT => (bpK (bps374 F hm hT) bpN)
theorem bpr502 : bpC [] bpG20 78 bpP502 := by unfold bpC; kernel_rfl
theorem bps502 : bpS bpG20 bpP502 := bp_piece Tryz.func78 rfl bpr502 fun _ _ _ => bpN
theorem bpr525 : bpC [bpP380, bpP502] bpG20 12 bpP525 := by unfold bpC; kernel_rfl
theorem bps525 : bpS bpG20 bpP525 := bp_piece Tryz.func12 rfl bpr525 fun F hm hT => (bpK (bps380 ⟨F.bd, F.ge.2.2.2, F.nl⟩ hm hT) (bpK (bps502 F hm hT) bpN))
theorem bpt21 : bpD [bpP0, bpP1, bpP2, bpP3, bpP4, bpP8, bpP525] bpG20 (bpL1 10) bpArgs4 := by unfold bpD; kernel_rfl
theorem bpu21 : bpLeaf bpG20 (bpL1 10) bpArgs4 := bp_leaf bpt21 (by kernel_rfl) fun F hm hT => (bpK (bps0 ⟨F.bd, trivial, F.nl⟩ hm hT) (bpK (bps1 ⟨F.bd, trivial, F.nl⟩ hm hT) (bpK (bps2 ⟨F.bd, trivial, F.nl⟩ hm hT) (bpK (bps3 ⟨F.bd, ⟨F.ge.2.2.2.2.2.1, trivial⟩, F.nl⟩ hm hT) (bpK (bps4 ⟨F.bd, ⟨F.ge.2.2.2.2.1, trivial⟩, F.nl⟩ hm hT) (bpK (bps8 ⟨F.bd, trivial, F.nl⟩ hm hT) (bpK (bps525 F hm hT) bpN)))))))
theorem bpr60 : bpC [] bpG2 185 bpP60 := by unfold bpC; kernel_rfl
theorem bps60 : bpS bpG2 bpP60 := bp_piece Tryz.func185 rfl bpr60 fun _ _ _ => bpN
theorem bpr74 : bpC [bpP60] bpG2 78 bpP74 := by unfold bpC; kernel_rfl
theorem bps74 : bpS bpG2 bpP74 := bp_piece Tryz.func78 rfl bpr74 fun F hm hT => (bpK (bps60 F hm hT) bpN)
theorem bpr262 : bpC [] bpG2 78 bpP262 := by unfold bpC; kernel_rfl
theorem bps262 : bpS bpG2 bpP262 := bp_piece Tryz.func78 rfl bpr262 fun _ _ _ => bpN
theorem bpr285 : bpC [bpP74, bpP262] bpG2 12 bpP285 := by unfold bpC; kernel_rfl
theorem bps285 : bpS bpG2 bpP285 := bp_piece Tryz.func12 rfl bpr285 fun F hm hT => (bpK (bps74 F hm hT) (bpK (bps262 F hm hT) bpN))
theorem bpt8 : bpD [bpP0, bpP1, bpP2, bpP3, bpP4, bpP7, bpP285] bpG2 (bpL0 10) bpArgs1 := by unfold bpD; kernel_rfl
theorem bpu8 : bpLeaf bpG2 (bpL0 10) bpArgs1 := bp_leaf bpt8 (by kernel_rfl) fun F hm hT => (bpK (bps0 ⟨F.bd, trivial, F.nl⟩ hm hT) (bpK (bps1 ⟨F.bd, trivial, F.nl⟩ hm hT) (bpK (bps2 ⟨F.bd, trivial, F.nl⟩ hm hT) (bpK (bps3 ⟨F.bd, ⟨F.ge.2.2.2.2.1, trivial⟩, F.nl⟩ hm hT) (bpK (bps4 ⟨F.bd, ⟨F.ge.2.2.2.1, trivial⟩, F.nl⟩ hm hT) (bpK (bps7 ⟨F.bd, trivial, F.nl⟩ hm hT) (bpK (bps285 F hm hT) bpN)))))))
theorem bpr796 : bpC [] bpG55 78 bpP796 := by unfold bpC; kernel_rfl
theorem bps796 : bpS bpG55 bpP796 := bp_piece Tryz.func78 rfl bpr796 fun _ _ _ => bpN
theorem bpr806 : bpC [bpP796] bpG55 12 bpP806 := by unfold bpC; kernel_rfl
theorem bps806 : bpS bpG55 bpP806 := bp_piece Tryz.func12 rfl bpr806 fun F hm hT => (bpK (bps796 F hm hT) bpN)
theorem bpt45 : bpD [bpP0, bpP1, bpP2, bpP3, bpP4, bpP7, bpP806] bpG55 (bpL0 10) bpArgs12 := by unfold bpD; kernel_rfl
theorem bpu45 : bpLeaf bpG55 (bpL0 10) bpArgs12 := bp_leaf bpt45 (by kernel_rfl) fun F hm hT => (bpK (bps0 ⟨F.bd, trivial, F.nl⟩ hm hT) (bpK (bps1 ⟨F.bd, trivial, F.nl⟩ hm hT) (bpK (bps2 ⟨F.bd, trivial, F.nl⟩ hm hT) (bpK (bps3 ⟨F.bd, ⟨F.ge.2.2.2.1, trivial⟩, F.nl⟩ hm hT) (bpK (bps4 ⟨F.bd, ⟨F.ge.2.2.1, trivial⟩, F.nl⟩ hm hT) (bpK (bps7 ⟨F.bd, trivial, F.nl⟩ hm hT) (bpK (bps806 F hm hT) bpN)))))))
theorem bpr804 : bpC [] bpG62 78 bpP804 := by unfold bpC; kernel_rfl
theorem bps804 : bpS bpG62 bpP804 := bp_piece Tryz.func78 rfl bpr804 fun _ _ _ => bpN
theorem bpr816 : bpC [bpP804] bpG62 12 bpP816 := by unfold bpC; kernel_rfl
theorem bps816 : bpS bpG62 bpP816 := bp_piece Tryz.func12 rfl bpr816 fun F hm hT => (bpK (bps804 F hm hT) bpN)
theorem bpt52 : bpD [bpP0, bpP1, bpP2, bpP533, bpP617, bpP688, bpP816] bpG62 (bpL0 10) bpArgs12 := by unfold bpD; kernel_rfl
theorem bpu52 : bpLeaf bpG62 (bpL0 10) bpArgs12 := bp_leaf bpt52 (by kernel_rfl) fun F hm hT => (bpK (bps0 ⟨F.bd, trivial, F.nl⟩ hm hT) (bpK (bps1 ⟨F.bd, trivial, F.nl⟩ hm hT) (bpK (bps2 ⟨F.bd, trivial, F.nl⟩ hm hT) (bpK (bps533 ⟨F.bd, ⟨F.ge.2.2.1, trivial⟩, F.nl⟩ hm hT) (bpK (bps617 ⟨F.bd, ⟨F.ge.2.1, trivial⟩, F.nl⟩ hm hT) (bpK (bps688 ⟨F.bd, trivial, F.nl⟩ hm hT) (bpK (bps816 F hm hT) bpN)))))))
end Go.Proofs.YtdfgedemolielaaGreat
