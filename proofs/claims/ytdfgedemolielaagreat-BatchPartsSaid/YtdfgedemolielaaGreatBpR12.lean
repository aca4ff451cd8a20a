/- complinelaw26.BatchParts: runs, part 12. -/
import Derived.Test.YtdfgedemolielaaGreatBpQ
import Derived.Test.YtdfgedemolielaaGreatBpR0
namespace Go.Proofs.YtdfgedemolielaaGreat
open Go Go.RowKit Gv Gv.Lt
set_option maxRecDepth 100000
theorem bpr126 : bpC [] bpG12 185 bpP126 := by unfold bpC; kernel_rfl
theorem bps126 : bpS bpG12 bpP126 := bp_piece Tryz.func185 rfl bpr126 fun _ _ _ => bpN
theorem bpr148 : bpC [bpP126] bpG12 78 bpP148 := by unfold bpC; kernel_rfl
theorem bps148 : bpS bpG12 bpP148 := bp_piece Tryz.func78 rfl bpr148 fun F hm hT => (bpK (bps126 F hm hT) bpN)
theorem bpr319 : bpC [] bpG12 78 bpP319 := by unfold bpC; kernel_rfl
theorem bps319 : bpS bpG12 bpP319 := bp_piece Tryz.func78 rfl bpr319 fun _ _ _ => bpN
theorem bpr324 : bpC [bpP148, bpP319] bpG12 12 bpP324 := by unfold bpC; kernel_rfl
theorem bps324 : bpS bpG12 bpP324 := bp_piece Tryz.func12 rfl bpr324 fun F hm hT => (bpK (bps148 F hm hT) (bpK (bps319 F hm hT) bpN))
theorem bpt17 : bpD [bpP0, bpP1, bpP2, bpP3, bpP5, bpP9, bpP324] bpG68 (bpL1 10) bpArgs2 := by unfold bpD; kernel_rfl
theorem bpu17 : bpLeaf bpG68 (bpL1 10) bpArgs2 := bp_leaf bpt17 (by kernel_rfl) fun F hm hT => (bpK (bps0 ⟨F.bd, trivial, F.nl⟩ hm hT) (bpK (bps1 ⟨F.bd, trivial, F.nl⟩ hm hT) (bpK (bps2 ⟨F.bd, trivial, F.nl⟩ hm hT) (bpK (bps3 ⟨F.bd, ⟨F.ge.2.2.2.1, trivial⟩, F.nl⟩ hm hT) (bpK (bps5 ⟨F.bd, ⟨F.ge.2.2.1, trivial⟩, F.nl⟩ hm hT) (bpK (bps9 ⟨F.bd, trivial, F.nl⟩ hm hT) (bpK (bps324 ⟨F.bd, F.ge.2, F.nl⟩ hm hT) bpN)))))))
theorem bpr124 : bpC [] bpG11 185 bpP124 := by unfold bpC; kernel_rfl
theorem bps124 : bpS bpG11 bpP124 := bp_piece Tryz.func185 rfl bpr124 fun _ _ _ => bpN
theorem bpr147 : bpC [bpP124] bpG11 78 bpP147 := by unfold bpC; kernel_rfl
theorem bps147 : bpS bpG11 bpP147 := bp_piece Tryz.func78 rfl bpr147 fun F hm hT => (bpK (bps124 F hm hT) bpN)
theorem bpr320 : bpC [] bpG11 78 bpP320 := by unfold bpC; kernel_rfl
theorem bps320 : bpS bpG11 bpP320 := bp_piece Tryz.func78 rfl bpr320 fun _ _ _ => bpN
theorem bpr323 : bpC [bpP147, bpP320] bpG11 12 bpP323 := by unfold bpC; kernel_rfl
theorem bps323 : bpS bpG11 bpP323 := bp_piece Tryz.func12 rfl bpr323 fun F hm hT => (bpK (bps147 F hm hT) (bpK (bps320 F hm hT) bpN))
theorem bpt16 : bpD [bpP0, bpP1, bpP2, bpP3, bpP5, bpP9, bpP323] bpG67 (bpL1 10) bpArgs2 := by unfold bpD; kernel_rfl
theorem bpu16 : bpLeaf bpG67 (bpL1 10) bpArgs2 := bp_leaf bpt16 (by kernel_rfl) fun F hm hT => (bpK (bps0 ⟨F.bd, trivial, F.nl⟩ hm hT) (bpK (bps1 ⟨F.bd, trivial, F.nl⟩ hm hT) (bpK (bps2 ⟨F.bd, trivial, F.nl⟩ hm hT) (bpK (bps3 ⟨F.bd, ⟨F.ge.2.2.2.1, trivial⟩, F.nl⟩ hm hT) (bpK (bps5 ⟨F.bd, ⟨F.ge.2.2.1, trivial⟩, F.nl⟩ hm hT) (bpK (bps9 ⟨F.bd, trivial, F.nl⟩ hm hT) (bpK (bps323 ⟨F.bd, F.ge.2, F.nl⟩ hm hT) bpN)))))))
theorem bpr56 : bpC [] bpG4 185 bpP56 := by unfold bpC; kernel_rfl
theorem bps56 : bpS bpG4 bpP56 := bp_piece Tryz.func185 rfl bpr56 fun _ _ _ => bpN
theorem bpr69 : bpC [bpP56] bpG4 78 bpP69 := by unfold bpC; kernel_rfl
theorem bps69 : bpS bpG4 bpP69 := bp_piece Tryz.func78 rfl bpr69 fun F hm hT => (bpK (bps56 F hm hT) bpN)
theorem bpr274 : bpC [] bpG4 78 bpP274 := by unfold bpC; kernel_rfl
theorem bps274 : bpS bpG4 bpP274 := bp_piece Tryz.func78 rfl bpr274 fun _ _ _ => bpN
theorem bpr293 : bpC [bpP69, bpP274] bpG4 12 bpP293 := by unfold bpC; kernel_rfl
theorem bps293 : bpS bpG4 bpP293 := bp_piece Tryz.func12 rfl bpr293 fun F hm hT => (bpK (bps69 F hm hT) (bpK (bps274 F hm hT) bpN))
theorem bpt2 : bpD [bpP0, bpP1, bpP2, bpP3, bpP4, bpP8, bpP293] bpG4 (bpL1 10) bpArgs0 := by unfold bpD; kernel_rfl
theorem bpu2 : bpLeaf bpG4 (bpL1 10) bpArgs0 := bp_leaf bpt2 (by kernel_rfl) fun F hm hT => (bpK (bps0 ⟨F.bd, trivial, F.nl⟩ hm hT) (bpK (bps1 ⟨F.bd, trivial, F.nl⟩ hm hT) (bpK (bps2 ⟨F.bd, trivial, F.nl⟩ hm hT) (bpK (bps3 ⟨F.bd, ⟨F.ge.2.2.2.2.1, trivial⟩, F.nl⟩ hm hT) (bpK (bps4 ⟨F.bd, ⟨F.ge.2.2.2.1, trivial⟩, F.nl⟩ hm hT) (bpK (bps8 ⟨F.bd, trivial, F.nl⟩ hm hT) (bpK (bps293 F hm hT) bpN)))))))
theorem bpr797 : bpC [] bpG56 78 bpP797 := by unfold bpC; kernel_rfl
theorem bps797 : bpS bpG56 bpP797 := bp_piece Tryz.func78 rfl bpr797 fun _ _ _ => bpN
theorem bpr808 : bpC [bpP797] bpG56 12 bpP808 := by unfold bpC; kernel_rfl
theorem bps808 : bpS bpG56 bpP808 := bp_piece Tryz.func12 rfl bpr808 fun F hm hT => (bpK (bps797 F hm hT) bpN)
theorem bpt46 : bpD [bpP0, bpP1, bpP2, bpP3, bpP4, bpP7, bpP808] bpG56 (bpL0 10) bpArgs12 := by unfold bpD; kernel_rfl
theorem bpu46 : bpLeaf bpG56 (bpL0 10) bpArgs12 := bp_leaf bpt46 (by kernel_rfl) fun F hm hT => (bpK (bps0 ⟨F.bd, trivial, F.nl⟩ hm hT) (bpK (bps1 ⟨F.bd, trivial, F.nl⟩ hm hT) (bpK (bps2 ⟨F.bd, trivial, F.nl⟩ hm hT) (bpK (bps3 ⟨F.bd, ⟨F.ge.2.2.2.1, trivial⟩, F.nl⟩ hm hT) (bpK (bps4 ⟨F.bd, ⟨F.ge.2.2.1, trivial⟩, F.nl⟩ hm hT) (bpK (bps7 ⟨F.bd, trivial, F.nl⟩ hm hT) (bpK (bps808 F hm hT) bpN)))))))
end Go.Proofs.YtdfgedemolielaaGreat
