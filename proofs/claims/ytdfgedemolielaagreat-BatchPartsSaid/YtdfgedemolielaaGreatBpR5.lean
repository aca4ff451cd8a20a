/- complinelaw26.BatchParts: runs, part 5. -/
import Derived.Test.YtdfgedemolielaaGreatBpQ
import Derived.Test.YtdfgedemolielaaGreatBpR0
namespace Go.Proofs.YtdfgedemolielaaGreat
open Go Go.RowKit Gv Gv.Lt
set_option maxRecDepth 100000
theorem bpr467 : bpC [] bpG40 185 bpP467 := by unfold bpC; kernel_rfl
theorem bps467 : bpS bpG40 bpP467 := bp_piece Tryz.func185 rfl bpr467 fun _ _ _ => bpN
theorem bpr486 : bpC [bpP467] bpG40 78 bpP486 := by unfold bpC; kernel_rfl
theorem bps486 : bpS bpG40 bpP486 := bp_piece Tryz.func78 rfl bpr486 fun F hm hT => (bpK (bps467 F hm hT) bpN)
theorem bpr645 : bpC [] bpG41 78 bpP645 := by unfold bpC; kernel_rfl
theorem bps645 : bpS bpG41 bpP645 := bp_piece Tryz.func78 rfl bpr645 fun _ _ _ => bpN
theorem bpr775 : bpC [bpP486, bpP645] bpG41 12 bpP775 := by unfold bpC; kernel_rfl
theorem bps775 : bpS bpG41 bpP775 := bp_piece Tryz.func12 rfl bpr775 fun F hm hT => (bpK (bps486 ⟨F.bd, F.ge.2, F.nl⟩ hm hT) (bpK (bps645 F hm hT) bpN))
theorem bpt32 : bpD [bpP0, bpP1, bpP2, bpP345, bpP350, bpP357, bpP775] bpG41 (bpL1 2) bpArgs7 := by unfold bpD; kernel_rfl
theorem bpu32 : bpLeaf bpG41 (bpL1 2) bpArgs7 := bp_leaf bpt32 (by kernel_rfl) fun F hm hT => (bpK (bps0 ⟨F.bd, trivial, F.nl⟩ hm hT) (bpK (bps1 ⟨F.bd, trivial, F.nl⟩ hm hT) (bpK (bps2 ⟨F.bd, trivial, F.nl⟩ hm hT) (bpK (bps345 ⟨F.bd, ⟨F.ge.2.2.2.2.2.1, trivial⟩, F.nl⟩ hm hT) (bpK (bps350 ⟨F.bd, ⟨F.ge.2.2.2.2.1, trivial⟩, F.nl⟩ hm hT) (bpK (bps357 ⟨F.bd, trivial, F.nl⟩ hm hT) (bpK (bps775 F hm hT) bpN)))))))
theorem bpr658 : bpC [] bpG46 78 bpP658 := by unfold bpC; kernel_rfl
theorem bps658 : bpS bpG46 bpP658 := bp_piece Tryz.func78 rfl bpr658 fun _ _ _ => bpN
theorem bpr664 : bpC [bpP658] bpG46 12 bpP664 := by unfold bpC; kernel_rfl
theorem bps664 : bpS bpG46 bpP664 := bp_piece Tryz.func12 rfl bpr664 fun F hm hT => (bpK (bps658 F hm hT) bpN)
theorem bpt36 : bpD [bpP0, bpP1, bpP2, bpP533, bpP541, bpP552, bpP664] bpG46 (bpL1 10) bpArgs8 := by unfold bpD; kernel_rfl
theorem bpu36 : bpLeaf bpG46 (bpL1 10) bpArgs8 := bp_leaf bpt36 (by kernel_rfl) fun F hm hT => (bpK (bps0 ⟨F.bd, trivial, F.nl⟩ hm hT) (bpK (bps1 ⟨F.bd, trivial, F.nl⟩ hm hT) (bpK (bps2 ⟨F.bd, trivial, F.nl⟩ hm hT) (bpK (bps533 ⟨F.bd, ⟨F.ge.2.1, trivial⟩, F.nl⟩ hm hT) (bpK (bps541 ⟨F.bd, ⟨F.ge.1, trivial⟩, F.nl⟩ hm hT) (bpK (bps552 ⟨F.bd, trivial, F.nl⟩ hm hT) (bpK (bps664 F hm hT) bpN)))))))
theorem bpr721 : bpC [] bpG49 78 bpP721 := by unfold bpC; kernel_rfl
theorem bps721 : bpS bpG49 bpP721 := bp_piece Tryz.func78 rfl bpr721 fun _ _ _ => bpN
theorem bpr727 : bpC [bpP721] bpG49 12 bpP727 := by unfold bpC; kernel_rfl
theorem bps727 : bpS bpG49 bpP727 := bp_piece Tryz.func12 rfl bpr727 fun F hm hT => (bpK (bps721 F hm hT) bpN)
theorem bpt39 : bpD [bpP0, bpP1, bpP2, bpP3, bpP4, bpP8, bpP727] bpG49 (bpL1 10) bpArgs10 := by unfold bpD; kernel_rfl
theorem bpu39 : bpLeaf bpG49 (bpL1 10) bpArgs10 := bp_leaf bpt39 (by kernel_rfl) fun F hm hT => (bpK (bps0 ⟨F.bd, trivial, F.nl⟩ hm hT) (bpK (bps1 ⟨F.bd, trivial, F.nl⟩ hm hT) (bpK (bps2 ⟨F.bd, trivial, F.nl⟩ hm hT) (bpK (bps3 ⟨F.bd, ⟨F.ge.2.2.2.1, trivial⟩, F.nl⟩ hm hT) (bpK (bps4 ⟨F.bd, ⟨F.ge.2.2.1, trivial⟩, F.nl⟩ hm hT) (bpK (bps8 ⟨F.bd, trivial, F.nl⟩ hm hT) (bpK (bps727 F hm hT) bpN)))))))
theorem bpr51 : bpC [] bpG6 185 bpP51 := by unfold bpC; kernel_rfl
theorem bps51 : bpS bpG6 bpP51 := bp_piece Tryz.func185 rfl bpr51 fun _ _ _ => bpN
theorem bpr67 : bpC [bpP51] bpG6 78 bpP67 := by unfold bpC; kernel_rfl
theorem bps67 : bpS bpG6 bpP67 := bp_piece Tryz.func78 rfl bpr67 fun F hm hT => (bpK (bps51 F hm hT) bpN)
theorem bpr265 : bpC [] bpG6 78 bpP265 := by unfold bpC; kernel_rfl
theorem bps265 : bpS bpG6 bpP265 := bp_piece Tryz.func78 rfl bpr265 fun _ _ _ => bpN
theorem bpr284 : bpC [bpP67, bpP265] bpG6 12 bpP284 := by unfold bpC; kernel_rfl
theorem bps284 : bpS bpG6 bpP284 := bp_piece Tryz.func12 rfl bpr284 fun F hm hT => (bpK (bps67 F hm hT) (bpK (bps265 F hm hT) bpN))
theorem bpt4 : bpD [bpP0, bpP1, bpP2, bpP3, bpP4, bpP8, bpP284] bpG6 (bpL1 10) bpArgs0 := by unfold bpD; kernel_rfl
theorem bpu4 : bpLeaf bpG6 (bpL1 10) bpArgs0 := bp_leaf bpt4 (by kernel_rfl) fun F hm hT => (bpK (bps0 ⟨F.bd, trivial, F.nl⟩ hm hT) (bpK (bps1 ⟨F.bd, trivial, F.nl⟩ hm hT) (bpK (bps2 ⟨F.bd, trivial, F.nl⟩ hm hT) (bpK (bps3 ⟨F.bd, ⟨F.ge.2.2.2.1, trivial⟩, F.nl⟩ hm hT) (bpK (bps4 ⟨F.bd, ⟨F.ge.2.2.1, trivial⟩, F.nl⟩ hm hT) (bpK (bps8 ⟨F.bd, trivial, F.nl⟩ hm hT) (bpK (bps284 F hm hT) bpN)))))))
theorem bpr803 : bpC [] bpG60 78 bpP803 := by unfold bpC; kernel_rfl
theorem bps803 : bpS bpG60 bpP803 := bp_piece Tryz.func78 rfl bpr803 fun _ _ _ => bpN
theorem bpr814 : bpC [bpP803] bpG60 12 bpP814 := by unfold bpC; kernel_rfl
theorem bps814 : bpS bpG60 bpP814 := bp_piece Tryz.func12 rfl bpr814 fun F hm hT => (bpK (bps803 F hm hT) bpN)
theorem bpt50 : bpD [bpP0, bpP1, bpP2, bpP533, bpP617, bpP688, bpP814] bpG60 (bpL0 10) bpArgs12 := by unfold bpD; kernel_rfl
theorem bpu50 : bpLeaf bpG60 (bpL0 10) bpArgs12 := bp_leaf bpt50 (by kernel_rfl) fun F hm hT => (bpK (bps0 ⟨F.bd, trivial, F.nl⟩ hm hT) (bpK (bps1 ⟨F.bd, trivial, F.nl⟩ hm hT) (bpK (bps2 ⟨F.bd, trivial, F.nl⟩ hm hT) (bpK (bps533 ⟨F.bd, ⟨F.ge.2.2.2.1, trivial⟩, F.nl⟩ hm hT) (bpK (bps617 ⟨F.bd, ⟨F.ge.2.2.1, trivial⟩, F.nl⟩ hm hT) (bpK (bps688 ⟨F.bd, trivial, F.nl⟩ hm hT) (bpK (bps814 F hm hT) bpN)))))))
end Go.Proofs.YtdfgedemolielaaGreat
