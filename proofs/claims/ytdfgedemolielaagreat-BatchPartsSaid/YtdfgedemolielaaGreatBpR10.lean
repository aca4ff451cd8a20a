/- complinelaw26.BatchParts: runs, part 10. -/
import Derived.Test.YtdfgedemolielaaGreatBpQ
import Derived.Test.YtdfgedemolielaaGreatBpR0
namespace Go.Proofs.YtdfgedemolielaaGreat
open Go Go.RowKit Gv Gv.Lt
set_option maxRecDepth 100000
theorem bpr375 : bpC [] bpG21 185 bpP375 := by unfold bpC; kernel_rfl
theorem bps375 : bpS bpG21 bpP375 := bp_piece Tryz.func185 rfl bpr375 fun _ _ _ => bpN
theorem bpr381 : bpC [bpP375] bpG21 78 bpP381 := by unfold bpC; kernel_rfl
theorem bps381 : bpS bpG21 bpP381 := bp_piece Tryz.func78 rfl bpr381 fun F hm hT => (bpK (bps375 F hm hT) bpN)
theorem bpr491 : bpC [] bpG22 78 bpP491 := by unfold bpC; kernel_rfl
theorem bps491 : bpS bpG22 bpP491 := bp_piece Tryz.func78 rfl bpr491 fun _ _ _ => bpN
theorem bpr499 : bpC [bpP381, bpP491] bpG22 12 bpP499 := by unfold bpC; kernel_rfl
theorem bps499 : bpS bpG22 bpP499 := bp_piece Tryz.func12 rfl bpr499 fun F hm hT => (bpK (bps381 ⟨F.bd, F.ge.2, F.nl⟩ hm hT) (bpK (bps491 F hm hT) bpN))
theorem bpt22 : bpD [bpP0, bpP1, bpP2, bpP3, bpP4, bpP8, bpP499] bpG22 (bpL1 10) bpArgs5 := by unfold bpD; kernel_rfl
theorem bpu22 : bpLeaf bpG22 (bpL1 10) bpArgs5 := bp_leaf bpt22 (by kernel_rfl) fun F hm hT => (bpK (bps0 ⟨F.bd, trivial, F.nl⟩ hm hT) (bpK (bps1 ⟨F.bd, trivial, F.nl⟩ hm hT) (bpK (bps2 ⟨F.bd, trivial, F.nl⟩ hm hT) (bpK (bps3 ⟨F.bd, ⟨F.ge.2.2.2.1, trivial⟩, F.nl⟩ hm hT) (bpK (bps4 ⟨F.bd, ⟨F.ge.2.2.1, trivial⟩, F.nl⟩ hm hT) (bpK (bps8 ⟨F.bd, trivial, F.nl⟩ hm hT) (bpK (bps499 F hm hT) bpN)))))))
theorem bpr468 : bpC [] bpG42 185 bpP468 := by unfold bpC; kernel_rfl
theorem bps468 : bpS bpG42 bpP468 := bp_piece Tryz.func185 rfl bpr468 fun _ _ _ => bpN
theorem bpr484 : bpC [bpP468] bpG42 78 bpP484 := by unfold bpC; kernel_rfl
theorem bps484 : bpS bpG42 bpP484 := bp_piece Tryz.func78 rfl bpr484 fun F hm hT => (bpK (bps468 F hm hT) bpN)
theorem bpr637 : bpC [] bpG42 78 bpP637 := by unfold bpC; kernel_rfl
theorem bps637 : bpS bpG42 bpP637 := bp_piece Tryz.func78 rfl bpr637 fun _ _ _ => bpN
theorem bpr779 : bpC [bpP484, bpP637] bpG42 12 bpP779 := by unfold bpC; kernel_rfl
theorem bps779 : bpS bpG42 bpP779 := bp_piece Tryz.func12 rfl bpr779 fun F hm hT => (bpK (bps484 F hm hT) (bpK (bps637 F hm hT) bpN))
theorem bpt33 : bpD [bpP0, bpP1, bpP2, bpP345, bpP350, bpP357, bpP779] bpG42 (bpL1 2) bpArgs7 := by unfold bpD; kernel_rfl
theorem bpu33 : bpLeaf bpG42 (bpL1 2) bpArgs7 := bp_leaf bpt33 (by kernel_rfl) fun F hm hT => (bpK (bps0 ⟨F.bd, trivial, F.nl⟩ hm hT) (bpK (bps1 ⟨F.bd, trivial, F.nl⟩ hm hT) (bpK (bps2 ⟨F.bd, trivial, F.nl⟩ hm hT) (bpK (bps345 ⟨F.bd, ⟨F.ge.2.2.2.1, trivial⟩, F.nl⟩ hm hT) (bpK (bps350 ⟨F.bd, ⟨F.ge.2.2.1, trivial⟩, F.nl⟩ hm hT) (bpK (bps357 ⟨F.bd, trivial, F.nl⟩ hm hT) (bpK (bps779 F hm hT) bpN)))))))
theorem bpr58 : bpC [] bpG3 185 bpP58 := by unfold bpC; kernel_rfl
theorem bps58 : bpS bpG3 bpP58 := bp_piece Tryz.func185 rfl bpr58 fun _ _ _ => bpN
theorem bpr68 : bpC [bpP58] bpG3 78 bpP68 := by unfold bpC; kernel_rfl
theorem bps68 : bpS bpG3 bpP68 := bp_piece Tryz.func78 rfl bpr68 fun F hm hT => (bpK (bps58 F hm hT) bpN)
theorem bpr276 : bpC [] bpG3 78 bpP276 := by unfold bpC; kernel_rfl
theorem bps276 : bpS bpG3 bpP276 := bp_piece Tryz.func78 rfl bpr276 fun _ _ _ => bpN
theorem bpr292 : bpC [bpP68, bpP276] bpG3 12 bpP292 := by unfold bpC; kernel_rfl
theorem bps292 : bpS bpG3 bpP292 := bp_piece Tryz.func12 rfl bpr292 fun F hm hT => (bpK (bps68 F hm hT) (bpK (bps276 F hm hT) bpN))
theorem bpt1 : bpD [bpP0, bpP1, bpP2, bpP3, bpP4, bpP8, bpP292] bpG3 (bpL1 10) bpArgs0 := by unfold bpD; kernel_rfl
theorem bpu1 : bpLeaf bpG3 (bpL1 10) bpArgs0 := bp_leaf bpt1 (by kernel_rfl) fun F hm hT => (bpK (bps0 ⟨F.bd, trivial, F.nl⟩ hm hT) (bpK (bps1 ⟨F.bd, trivial, F.nl⟩ hm hT) (bpK (bps2 ⟨F.bd, trivial, F.nl⟩ hm hT) (bpK (bps3 ⟨F.bd, ⟨F.ge.2.2.2.2.1, trivial⟩, F.nl⟩ hm hT) (bpK (bps4 ⟨F.bd, ⟨F.ge.2.2.2.1, trivial⟩, F.nl⟩ hm hT) (bpK (bps8 ⟨F.bd, trivial, F.nl⟩ hm hT) (bpK (bps292 F hm hT) bpN)))))))
theorem bpr833 : bpC [] bpG65 78 bpP833 := by unfold bpC; kernel_rfl
theorem bps833 : bpS bpG65 bpP833 := bp_piece Tryz.func78 rfl bpr833 fun _ _ _ => bpN
theorem bpr835 : bpC [bpP833] bpG65 12 bpP835 := by unfold bpC; kernel_rfl
theorem bps835 : bpS bpG65 bpP835 := bp_piece Tryz.func12 rfl bpr835 fun F hm hT => (bpK (bps833 F hm hT) bpN)
theorem bpt55 : bpD [bpP0, bpP1, bpP2, bpP3, bpP4, bpP7, bpP835] bpG65 (bpL0 10) bpArgs13 := by unfold bpD; kernel_rfl
theorem bpu55 : bpLeaf bpG65 (bpL0 10) bpArgs13 := bp_leaf bpt55 (by kernel_rfl) fun F hm hT => (bpK (bps0 ⟨F.bd, trivial, F.nl⟩ hm hT) (bpK (bps1 ⟨F.bd, trivial, F.nl⟩ hm hT) (bpK (bps2 ⟨F.bd, trivial, F.nl⟩ hm hT) (bpK (bps3 ⟨F.bd, ⟨F.ge.2.1, trivial⟩, F.nl⟩ hm hT) (bpK (bps4 ⟨F.bd, ⟨F.ge.1, trivial⟩, F.nl⟩ hm hT) (bpK (bps7 ⟨F.bd, trivial, F.nl⟩ hm hT) (bpK (bps835 F hm hT) bpN)))))))
end Go.Proofs.YtdfgedemolielaaGreat
