/- complinelaw26.BatchParts: runs, part 3. -/
import Derived.Test.YtdfgedemolielaaGreatBpQ
import Derived.Test.YtdfgedemolielaaGreatBpR0
namespace Go.Proofs.YtdfgedemolielaaGreat
open Go Go.RowKit Gv Gv.Lt
set_option maxRecDepth 100000
theorem bpr473 : bpC [] bpG29 185 bpP473 := by unfold bpC; kernel_rfl
theorem bps473 : bpS bpG29 bpP473 := bp_piece Tryz.func185 rfl bpr473 fun _ _ _ => bpN
theorem bpr481 : bpC [bpP473] bpG29 78 bpP481 := by unfold bpC; kernel_rfl
theorem bps481 : bpS bpG29 bpP481 := bp_piece Tryz.func78 rfl bpr481 fun F hm hT => (bpK (bps473 F hm hT) bpN)
theorem bpr656 : bpC [] bpG30 78 bpP656 := by unfold bpC; kernel_rfl
theorem bps656 : bpS bpG30 bpP656 := bp_piece Tryz.func78 rfl bpr656 fun _ _ _ => bpN
theorem bpr774 : bpC [bpP481, bpP656] bpG30 12 bpP774 := by unfold bpC; kernel_rfl
theorem bps774 : bpS bpG30 bpP774 := bp_piece Tryz.func12 rfl bpr774 fun F hm hT => (bpK (bps481 ⟨F.bd, F.ge.2, F.nl⟩ hm hT) (bpK (bps656 F hm hT) bpN))
theorem bpt26 : bpD [bpP0, bpP1, bpP2, bpP345, bpP350, bpP357, bpP774] bpG30 (bpL1 2) bpArgs7 := by unfold bpD; kernel_rfl
theorem bpu26 : bpLeaf bpG30 (bpL1 2) bpArgs7 := bp_leaf bpt26 (by kernel_rfl) fun F hm hT => (bpK (bps0 ⟨F.bd, trivial, F.nl⟩ hm hT) (bpK (bps1 ⟨F.bd, trivial, F.nl⟩ hm hT) (bpK (bps2 ⟨F.bd, trivial, F.nl⟩ hm hT) (bpK (bps345 ⟨F.bd, ⟨F.ge.2.2.2.2.2.2.1, trivial⟩, F.nl⟩ hm hT) (bpK (bps350 ⟨F.bd, ⟨F.ge.2.2.2.2.2.1, trivial⟩, F.nl⟩ hm hT) (bpK (bps357 ⟨F.bd, trivial, F.nl⟩ hm hT) (bpK (bps774 F hm hT) bpN)))))))
theorem bpr667 : bpC [] bpG48 78 bpP667 := by unfold bpC; kernel_rfl
theorem bps667 : bpS bpG48 bpP667 := bp_piece Tryz.func78 rfl bpr667 fun _ _ _ => bpN
theorem bpr671 : bpC [bpP667] bpG48 12 bpP671 := by unfold bpC; kernel_rfl
theorem bps671 : bpS bpG48 bpP671 := bp_piece Tryz.func12 rfl bpr671 fun F hm hT => (bpK (bps667 F hm hT) bpN)
theorem bpt38 : bpD [bpP0, bpP1, bpP2, bpP533, bpP541, bpP552, bpP671] bpG48 (bpL1 10) bpArgs9 := by unfold bpD; kernel_rfl
theorem bpu38 : bpLeaf bpG48 (bpL1 10) bpArgs9 := bp_leaf bpt38 (by kernel_rfl) fun F hm hT => (bpK (bps0 ⟨F.bd, trivial, F.nl⟩ hm hT) (bpK (bps1 ⟨F.bd, trivial, F.nl⟩ hm hT) (bpK (bps2 ⟨F.bd, trivial, F.nl⟩ hm hT) (bpK (bps533 ⟨F.bd, ⟨F.ge.2.2.1, trivial⟩, F.nl⟩ hm hT) (bpK (bps541 ⟨F.bd, ⟨F.ge.2.1, trivial⟩, F.nl⟩ hm hT) (bpK (bps552 ⟨F.bd, trivial, F.nl⟩ hm hT) (bpK (bps671 F hm hT) bpN)))))))
theorem bpr812 : bpC [] bpG53 78 bpP812 := by unfold bpC; kernel_rfl
theorem bps812 : bpS bpG53 bpP812 := bp_piece Tryz.func78 rfl bpr812 fun _ _ _ => bpN
theorem bpr818 : bpC [bpP812] bpG53 12 bpP818 := by unfold bpC; kernel_rfl
theorem bps818 : bpS bpG53 bpP818 := bp_piece Tryz.func12 rfl bpr818 fun F hm hT => (bpK (bps812 F hm hT) bpN)
theorem bpt43 : bpD [bpP0, bpP1, bpP2, bpP533, bpP617, bpP636, bpP818] bpG53 (bpL1 10) bpArgs11 := by unfold bpD; kernel_rfl
theorem bpu43 : bpLeaf bpG53 (bpL1 10) bpArgs11 := bp_leaf bpt43 (by kernel_rfl) fun F hm hT => (bpK (bps0 ⟨F.bd, trivial, F.nl⟩ hm hT) (bpK (bps1 ⟨F.bd, trivial, F.nl⟩ hm hT) (bpK (bps2 ⟨F.bd, trivial, F.nl⟩ hm hT) (bpK (bps533 ⟨F.bd, ⟨F.ge.2.2.2.1, trivial⟩, F.nl⟩ hm hT) (bpK (bps617 ⟨F.bd, ⟨F.ge.2.2.1, trivial⟩, F.nl⟩ hm hT) (bpK (bps636 ⟨F.bd, trivial, F.nl⟩ hm hT) (bpK (bps818 F hm hT) bpN)))))))
theorem bpr43 : bpC [] bpG9 185 bpP43 := by unfold bpC; kernel_rfl
theorem bps43 : bpS bpG9 bpP43 := bp_piece Tryz.func185 rfl bpr43 fun _ _ _ => bpN
theorem bpr53 : bpC [bpP43] bpG9 78 bpP53 := by unfold bpC; kernel_rfl
theorem bps53 : bpS bpG9 bpP53 := bp_piece Tryz.func78 rfl bpr53 fun F hm hT => (bpK (bps43 F hm hT) bpN)
theorem bpr238 : bpC [] bpG9 78 bpP238 := by unfold bpC; kernel_rfl
theorem bps238 : bpS bpG9 bpP238 := bp_piece Tryz.func78 rfl bpr238 fun _ _ _ => bpN
theorem bpr255 : bpC [bpP53, bpP238] bpG9 12 bpP255 := by unfold bpC; kernel_rfl
theorem bps255 : bpS bpG9 bpP255 := bp_piece Tryz.func12 rfl bpr255 fun F hm hT => (bpK (bps53 F hm hT) (bpK (bps238 F hm hT) bpN))
theorem bpt6 : bpD [bpP0, bpP1, bpP2, bpP3, bpP5, bpP9, bpP255] bpG9 (bpL1 10) bpArgs0 := by unfold bpD; kernel_rfl
theorem bpu6 : bpLeaf bpG9 (bpL1 10) bpArgs0 := bp_leaf bpt6 (by kernel_rfl) fun F hm hT => (bpK (bps0 ⟨F.bd, trivial, F.nl⟩ hm hT) (bpK (bps1 ⟨F.bd, trivial, F.nl⟩ hm hT) (bpK (bps2 ⟨F.bd, trivial, F.nl⟩ hm hT) (bpK (bps3 ⟨F.bd, ⟨F.ge.2.2.2.1, trivial⟩, F.nl⟩ hm hT) (bpK (bps5 ⟨F.bd, ⟨F.ge.2.2.1, trivial⟩, F.nl⟩ hm hT) (bpK (bps9 ⟨F.bd, trivial, F.nl⟩ hm hT) (bpK (bps255 F hm hT) bpN)))))))
theorem bpr41 : bpC [] bpG10 185 bpP41 := by unfold bpC; kernel_rfl
theorem bps41 : bpS bpG10 bpP41 := bp_piece Tryz.func185 rfl bpr41 fun _ _ _ => bpN
theorem bpr48 : bpC [bpP41] bpG10 78 bpP48 := by unfold bpC; kernel_rfl
theorem bps48 : bpS bpG10 bpP48 := bp_piece Tryz.func78 rfl bpr48 fun F hm hT => (bpK (bps41 F hm hT) bpN)
theorem bpr236 : bpC [] bpG10 78 bpP236 := by unfold bpC; kernel_rfl
theorem bps236 : bpS bpG10 bpP236 := bp_piece Tryz.func78 rfl bpr236 fun _ _ _ => bpN
theorem bpr247 : bpC [bpP48, bpP236] bpG10 12 bpP247 := by unfold bpC; kernel_rfl
theorem bps247 : bpS bpG10 bpP247 := bp_piece Tryz.func12 rfl bpr247 fun F hm hT => (bpK (bps48 F hm hT) (bpK (bps236 F hm hT) bpN))
theorem bpt15 : bpD [bpP0, bpP1, bpP2, bpP3, bpP5, bpP6, bpP247] bpG10 (bpL0 10) bpArgs1 := by unfold bpD; kernel_rfl
theorem bpu15 : bpLeaf bpG10 (bpL0 10) bpArgs1 := bp_leaf bpt15 (by kernel_rfl) fun F hm hT => (bpK (bps0 ⟨F.bd, trivial, F.nl⟩ hm hT) (bpK (bps1 ⟨F.bd, trivial, F.nl⟩ hm hT) (bpK (bps2 ⟨F.bd, trivial, F.nl⟩ hm hT) (bpK (bps3 ⟨F.bd, ⟨F.ge.2.2.2.1, trivial⟩, F.nl⟩ hm hT) (bpK (bps5 ⟨F.bd, ⟨F.ge.2.2.1, trivial⟩, F.nl⟩ hm hT) (bpK (bps6 ⟨F.bd, trivial, F.nl⟩ hm hT) (bpK (bps247 F hm hT) bpN)))))))
end Go.Proofs.YtdfgedemolielaaGreat
