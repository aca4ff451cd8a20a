/- complinelaw26.BatchParts: runs, part 11. -/
import Derived.Test.YtdfgedemolielaaGreatBpQ
import Derived.Test.YtdfgedemolielaaGreatBpR0
namespace Go.Proofs.YtdfgedemolielaaGreat
open Go Go.RowKit Gv Gv.Lt
set_option maxRecDepth 100000
theorem bpr376 : bpC [] bpG23 185 bpP376 := by unfold bpC; kernel_rfl
theorem bps376 : bpS bpG23 bpP376 := bp_piece Tryz.func185 rfl bpr376 fun _ _ _ => bpN
theorem bpr382 : bpC [bpP376] bpG23 78 bpP382 := by unfold bpC; kernel_rfl
theorem bps382 : bpS bpG23 bpP382 := bp_piece Tryz.func78 rfl bpr382 fun F hm hT => (bpK (bps376 F hm hT) bpN)
theorem bpr495 : bpC [] bpG24 78 bpP495 := by unfold bpC; kernel_rfl
theorem bps495 : bpS bpG24 bpP495 := bp_piece Tryz.func78 rfl bpr495 fun _ _ _ => bpN
theorem bpr500 : bpC [bpP382, bpP495] bpG24 12 bpP500 := by unfold bpC; kernel_rfl
theorem bps500 : bpS bpG24 bpP500 := bp_piece Tryz.func12 rfl bpr500 fun F hm hT => (bpK (bps382 ⟨F.bd, F.ge.2, F.nl⟩ hm hT) (bpK (bps495 F hm hT) bpN))
theorem bpt23 : bpD [bpP0, bpP1, bpP2, bpP3, bpP4, bpP8, bpP500] bpG24 (bpL1 10) bpArgs5 := by unfold bpD; kernel_rfl
theorem bpu23 : bpLeaf bpG24 (bpL1 10) bpArgs5 := bp_leaf bpt23 (by kernel_rfl) fun F hm hT => (bpK (bps0 ⟨F.bd, trivial, F.nl⟩ hm hT) (bpK (bps1 ⟨F.bd, trivial, F.nl⟩ hm hT) (bpK (bps2 ⟨F.bd, trivial, F.nl⟩ hm hT) (bpK (bps3 ⟨F.bd, ⟨F.ge.2.2.2.1, trivial⟩, F.nl⟩ hm hT) (bpK (bps4 ⟨F.bd, ⟨F.ge.2.2.1, trivial⟩, F.nl⟩ hm hT) (bpK (bps8 ⟨F.bd, trivial, F.nl⟩ hm hT) (bpK (bps500 F hm hT) bpN)))))))
theorem bpr373 : bpC [] bpG17 185 bpP373 := by unfold bpC; kernel_rfl
theorem bps373 : bpS bpG17 bpP373 := bp_piece Tryz.func185 rfl bpr373 fun _ _ _ => bpN
theorem bpr379 : bpC [bpP373] bpG17 78 bpP379 := by unfold bpC; kernel_rfl
theorem bps379 : bpS bpG17 bpP379 := bp_piece Tryz.func78 rfl bpr379 fun F hm hT => (bpK (bps373 F hm hT) bpN)
theorem bpr515 : bpC [] bpG18 78 bpP515 := by unfold bpC; kernel_rfl
theorem bps515 : bpS bpG18 bpP515 := bp_piece Tryz.func78 rfl bpr515 fun _ _ _ => bpN
theorem bpr524 : bpC [bpP379, bpP515] bpG18 12 bpP524 := by unfold bpC; kernel_rfl
theorem bps524 : bpS bpG18 bpP524 := bp_piece Tryz.func12 rfl bpr524 fun F hm hT => (bpK (bps379 ⟨F.bd, F.ge.2.2.2, F.nl⟩ hm hT) (bpK (bps515 F hm hT) bpN))
theorem bpt20 : bpD [bpP0, bpP1, bpP2, bpP3, bpP4, bpP8, bpP524] bpG18 (bpL1 10) bpArgs4 := by unfold bpD; kernel_rfl
theorem bpu20 : bpLeaf bpG18 (bpL1 10) bpArgs4 := bp_leaf bpt20 (by kernel_rfl) fun F hm hT => (bpK (bps0 ⟨F.bd, trivial, F.nl⟩ hm hT) (bpK (bps1 ⟨F.bd, trivial, F.nl⟩ hm hT) (bpK (bps2 ⟨F.bd, trivial, F.nl⟩ hm hT) (bpK (bps3 ⟨F.bd, ⟨F.ge.2.2.2.2.2.1, trivial⟩, F.nl⟩ hm hT) (bpK (bps4 ⟨F.bd, ⟨F.ge.2.2.2.2.1, trivial⟩, F.nl⟩ hm hT) (bpK (bps8 ⟨F.bd, trivial, F.nl⟩ hm hT) (bpK (bps524 F hm hT) bpN)))))))
theorem bpr63 : bpC [] bpG3 185 bpP63 := by unfold bpC; kernel_rfl
theorem bps63 : bpS bpG3 bpP63 := bp_piece Tryz.func185 rfl bpr63 fun _ _ _ => bpN
theorem bpr76 : bpC [bpP63] bpG3 78 bpP76 := by unfold bpC; kernel_rfl
theorem bps76 : bpS bpG3 bpP76 := bp_piece Tryz.func78 rfl bpr76 fun F hm hT => (bpK (bps63 F hm hT) bpN)
theorem bpr277 : bpC [] bpG3 78 bpP277 := by unfold bpC; kernel_rfl
theorem bps277 : bpS bpG3 bpP277 := bp_piece Tryz.func78 rfl bpr277 fun _ _ _ => bpN
theorem bpr288 : bpC [bpP76, bpP277] bpG3 12 bpP288 := by unfold bpC; kernel_rfl
theorem bps288 : bpS bpG3 bpP288 := bp_piece Tryz.func12 rfl bpr288 fun F hm hT => (bpK (bps76 F hm hT) (bpK (bps277 F hm hT) bpN))
theorem bpt9 : bpD [bpP0, bpP1, bpP2, bpP3, bpP4, bpP7, bpP288] bpG3 (bpL0 10) bpArgs1 := by unfold bpD; kernel_rfl
theorem bpu9 : bpLeaf bpG3 (bpL0 10) bpArgs1 := bp_leaf bpt9 (by kernel_rfl) fun F hm hT => (bpK (bps0 ⟨F.bd, trivial, F.nl⟩ hm hT) (bpK (bps1 ⟨F.bd, trivial, F.nl⟩ hm hT) (bpK (bps2 ⟨F.bd, trivial, F.nl⟩ hm hT) (bpK (bps3 ⟨F.bd, ⟨F.ge.2.2.2.2.1, trivial⟩, F.nl⟩ hm hT) (bpK (bps4 ⟨F.bd, ⟨F.ge.2.2.2.1, trivial⟩, F.nl⟩ hm hT) (bpK (bps7 ⟨F.bd, trivial, F.nl⟩ hm hT) (bpK (bps288 F hm hT) bpN)))))))
theorem bpr44 : bpC [] bpG10 185 bpP44 := by unfold bpC; kernel_rfl
theorem bps44 : bpS bpG10 bpP44 := bp_piece Tryz.func185 rfl bpr44 fun _ _ _ => bpN
theorem bpr54 : bpC [bpP44] bpG10 78 bpP54 := by unfold bpC; kernel_rfl
theorem bps54 : bpS bpG10 bpP54 := bp_piece Tryz.func78 rfl bpr54 fun F hm hT => (bpK (bps44 F hm hT) bpN)
theorem bpr239 : bpC [] bpG10 78 bpP239 := by unfold bpC; kernel_rfl
theorem bps239 : bpS bpG10 bpP239 := bp_piece Tryz.func78 rfl bpr239 fun _ _ _ => bpN
theorem bpr257 : bpC [bpP54, bpP239] bpG10 12 bpP257 := by unfold bpC; kernel_rfl
theorem bps257 : bpS bpG10 bpP257 := bp_piece Tryz.func12 rfl bpr257 fun F hm hT => (bpK (bps54 F hm hT) (bpK (bps239 F hm hT) bpN))
theorem bpt7 : bpD [bpP0, bpP1, bpP2, bpP3, bpP5, bpP9, bpP257] bpG10 (bpL1 10) bpArgs0 := by unfold bpD; kernel_rfl
theorem bpu7 : bpLeaf bpG10 (bpL1 10) bpArgs0 := bp_leaf bpt7 (by kernel_rfl) fun F hm hT => (bpK (bps0 ⟨F.bd, trivial, F.nl⟩ hm hT) (bpK (bps1 ⟨F.bd, trivial, F.nl⟩ hm hT) (bpK (bps2 ⟨F.bd, trivial, F.nl⟩ hm hT) (bpK (bps3 ⟨F.bd, ⟨F.ge.2.2.2.1, trivial⟩, F.nl⟩ hm hT) (bpK (bps5 ⟨F.bd, ⟨F.ge.2.2.1, trivial⟩, F.nl⟩ hm hT) (bpK (bps9 ⟨F.bd, trivial, F.nl⟩ hm hT) (bpK (bps257 F hm hT) bpN)))))))
theorem bpr799 : bpC [] bpG64 78 bpP799 := by unfold bpC; kernel_rfl
theorem bps799 : bpS bpG64 bpP799 := bp_piece Tryz.func78 rfl bpr799 fun _ _ _ => bpN
theorem bpr810 : bpC [bpP799] bpG64 12 bpP810 := by unfold bpC; kernel_rfl
theorem bps810 : bpS bpG64 bpP810 := bp_piece Tryz.func12 rfl bpr810 fun F hm hT => (bpK (bps799 F hm hT) bpN)
theorem bpt54 : bpD [bpP0, bpP1, bpP2, bpP533, bpP541, bpP687, bpP810] bpG64 (bpL0 10) bpArgs12 := by unfold bpD; kernel_rfl
theorem bpu54 : bpLeaf bpG64 (bpL0 10) bpArgs12 := bp_leaf bpt54 (by kernel_rfl) fun F hm hT => (bpK (bps0 ⟨F.bd, trivial, F.nl⟩ hm hT) (bpK (bps1 ⟨F.bd, trivial, F.nl⟩ hm hT) (bpK (bps2 ⟨F.bd, trivial, F.nl⟩ hm hT) (bpK (bps533 ⟨F.bd, ⟨F.ge.2.2.1, trivial⟩, F.nl⟩ hm hT) (bpK (bps541 ⟨F.bd, ⟨F.ge.2.1, trivial⟩, F.nl⟩ hm hT) (bpK (bps687 ⟨F.bd, trivial, F.nl⟩ hm hT) (bpK (bps810 F hm hT) bpN)))))))
end Go.Proofs.YtdfgedemolielaaGreat
