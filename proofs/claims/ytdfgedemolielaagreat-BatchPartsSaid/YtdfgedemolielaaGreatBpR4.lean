/- complinelaw26.BatchParts: runs, part 4. -/
import Derived.Test.YtdfgedemolielaaGreatBpQ
import Derived.Test.YtdfgedemolielaaGreatBpR0
namespace Go.Proofs.YtdfgedemolielaaGreat
open Go Go.RowKit Gv Gv.Lt
set_option maxRecDepth 100000
theorem bpr466 : bpC [] bpG33 185 bpP466 := by unfold bpC; kernel_rfl
theorem bps466 : bpS bpG33 bpP466 := bp_piece Tryz.func185 rfl bpr466 fun _ _ _ => bpN
theorem bpr480 : bpC [bpP466] bpG33 78 bpP480 := by unfold bpC; kernel_rfl
theorem bps480 : bpS bpG33 bpP480 := bp_piece Tryz.func78 rfl bpr480 fun F hm hT => (bpK (bps466 F hm hT) bpN)
theorem bpr690 : bpC [] bpG34 78 bpP690 := by unfold bpC; kernel_rfl
theorem bps690 : bpS bpG34 bpP690 := bp_piece Tryz.func78 rfl bpr690 fun _ _ _ => bpN
theorem bpr777 : bpC [bpP480, bpP690] bpG34 12 bpP777 := by unfold bpC; kernel_rfl
theorem bps777 : bpS bpG34 bpP777 := bp_piece Tryz.func12 rfl bpr777 fun F hm hT => (bpK (bps480 ⟨F.bd, F.ge.2.2, F.nl⟩ hm hT) (bpK (bps690 F hm hT) bpN))
theorem bpt28 : bpD [bpP0, bpP1, bpP2, bpP345, bpP350, bpP357, bpP777] bpG34 (bpL1 2) bpArgs7 := by unfold bpD; kernel_rfl
theorem bpu28 : bpLeaf bpG34 (bpL1 2) bpArgs7 := bp_leaf bpt28 (by kernel_rfl) fun F hm hT => (bpK (bps0 ⟨F.bd, trivial, F.nl⟩ hm hT) (bpK (bps1 ⟨F.bd, trivial, F.nl⟩ hm hT) (bpK (bps2 ⟨F.bd, trivial, F.nl⟩ hm hT) (bpK (bps345 ⟨F.bd, ⟨F.ge.2.2.2.2.2.2.1, trivial⟩, F.nl⟩ hm hT) (bpK (bps350 ⟨F.bd, ⟨F.ge.2.2.2.2.2.1, trivial⟩, F.nl⟩ hm hT) (bpK (bps357 ⟨F.bd, trivial, F.nl⟩ hm hT) (bpK (bps777 F hm hT) bpN)))))))
theorem bpr811 : bpC [] bpG52 78 bpP811 := by unfold bpC; kernel_rfl
theorem bps811 : bpS bpG52 bpP811 := bp_piece Tryz.func78 rfl bpr811 fun _ _ _ => bpN
theorem bpr817 : bpC [bpP811] bpG52 12 bpP817 := by unfold bpC; kernel_rfl
theorem bps817 : bpS bpG52 bpP817 := bp_piece Tryz.func12 rfl bpr817 fun F hm hT => (bpK (bps811 F hm hT) bpN)
theorem bpt42 : bpD [bpP0, bpP1, bpP2, bpP533, bpP617, bpP636, bpP817] bpG52 (bpL1 10) bpArgs11 := by unfold bpD; kernel_rfl
theorem bpu42 : bpLeaf bpG52 (bpL1 10) bpArgs11 := bp_leaf bpt42 (by kernel_rfl) fun F hm hT => (bpK (bps0 ⟨F.bd, trivial, F.nl⟩ hm hT) (bpK (bps1 ⟨F.bd, trivial, F.nl⟩ hm hT) (bpK (bps2 ⟨F.bd, trivial, F.nl⟩ hm hT) (bpK (bps533 ⟨F.bd, ⟨F.ge.2.2.2.1, trivial⟩, F.nl⟩ hm hT) (bpK (bps617 ⟨F.bd, ⟨F.ge.2.2.1, trivial⟩, F.nl⟩ hm hT) (bpK (bps636 ⟨F.bd, trivial, F.nl⟩ hm hT) (bpK (bps817 F hm hT) bpN)))))))
theorem bpr720 : bpC [] bpG50 78 bpP720 := by unfold bpC; kernel_rfl
theorem bps720 : bpS bpG50 bpP720 := bp_piece Tryz.func78 rfl bpr720 fun _ _ _ => bpN
theorem bpr728 : bpC [bpP720] bpG50 12 bpP728 := by unfold bpC; kernel_rfl
theorem bps728 : bpS bpG50 bpP728 := bp_piece Tryz.func12 rfl bpr728 fun F hm hT => (bpK (bps720 F hm hT) bpN)
theorem bpt40 : bpD [bpP0, bpP1, bpP2, bpP3, bpP4, bpP8, bpP728] bpG50 (bpL1 10) bpArgs10 := by unfold bpD; kernel_rfl
theorem bpu40 : bpLeaf bpG50 (bpL1 10) bpArgs10 := bp_leaf bpt40 (by kernel_rfl) fun F hm hT => (bpK (bps0 ⟨F.bd, trivial, F.nl⟩ hm hT) (bpK (bps1 ⟨F.bd, trivial, F.nl⟩ hm hT) (bpK (bps2 ⟨F.bd, trivial, F.nl⟩ hm hT) (bpK (bps3 ⟨F.bd, ⟨F.ge.2.2.2.1, trivial⟩, F.nl⟩ hm hT) (bpK (bps4 ⟨F.bd, ⟨F.ge.2.2.1, trivial⟩, F.nl⟩ hm hT) (bpK (bps8 ⟨F.bd, trivial, F.nl⟩ hm hT) (bpK (bps728 F hm hT) bpN)))))))
theorem bpr45 : bpC [] bpG6 185 bpP45 := by unfold bpC; kernel_rfl
theorem bps45 : bpS bpG6 bpP45 := bp_piece Tryz.func185 rfl bpr45 fun _ _ _ => bpN
theorem bpr72 : bpC [bpP45] bpG6 78 bpP72 := by unfold bpC; kernel_rfl
theorem bps72 : bpS bpG6 bpP72 := bp_piece Tryz.func78 rfl bpr72 fun F hm hT => (bpK (bps45 F hm hT) bpN)
theorem bpr280 : bpC [] bpG6 78 bpP280 := by unfold bpC; kernel_rfl
theorem bps280 : bpS bpG6 bpP280 := bp_piece Tryz.func78 rfl bpr280 fun _ _ _ => bpN
theorem bpr286 : bpC [bpP72, bpP280] bpG6 12 bpP286 := by unfold bpC; kernel_rfl
theorem bps286 : bpS bpG6 bpP286 := bp_piece Tryz.func12 rfl bpr286 fun F hm hT => (bpK (bps72 F hm hT) (bpK (bps280 F hm hT) bpN))
theorem bpt12 : bpD [bpP0, bpP1, bpP2, bpP3, bpP4, bpP7, bpP286] bpG6 (bpL0 10) bpArgs1 := by unfold bpD; kernel_rfl
theorem bpu12 : bpLeaf bpG6 (bpL0 10) bpArgs1 := bp_leaf bpt12 (by kernel_rfl) fun F hm hT => (bpK (bps0 ⟨F.bd, trivial, F.nl⟩ hm hT) (bpK (bps1 ⟨F.bd, trivial, F.nl⟩ hm hT) (bpK (bps2 ⟨F.bd, trivial, F.nl⟩ hm hT) (bpK (bps3 ⟨F.bd, ⟨F.ge.2.2.2.1, trivial⟩, F.nl⟩ hm hT) (bpK (bps4 ⟨F.bd, ⟨F.ge.2.2.1, trivial⟩, F.nl⟩ hm hT) (bpK (bps7 ⟨F.bd, trivial, F.nl⟩ hm hT) (bpK (bps286 F hm hT) bpN)))))))
theorem bpr40 : bpC [] bpG9 185 bpP40 := by unfold bpC; kernel_rfl
theorem bps40 : bpS bpG9 bpP40 := bp_piece Tryz.func185 rfl bpr40 fun _ _ _ => bpN
theorem bpr46 : bpC [bpP40] bpG9 78 bpP46 := by unfold bpC; kernel_rfl
theorem bps46 : bpS bpG9 bpP46 := bp_piece Tryz.func78 rfl bpr46 fun F hm hT => (bpK (bps40 F hm hT) bpN)
theorem bpr222 : bpC [] bpG9 78 bpP222 := by unfold bpC; kernel_rfl
theorem bps222 : bpS bpG9 bpP222 := bp_piece Tryz.func78 rfl bpr222 fun _ _ _ => bpN
theorem bpr246 : bpC [bpP46, bpP222] bpG9 12 bpP246 := by unfold bpC; kernel_rfl
theorem bps246 : bpS bpG9 bpP246 := bp_piece Tryz.func12 rfl bpr246 fun F hm hT => (bpK (bps46 F hm hT) (bpK (bps222 F hm hT) bpN))
theorem bpt14 : bpD [bpP0, bpP1, bpP2, bpP3, bpP5, bpP6, bpP246] bpG9 (bpL0 10) bpArgs1 := by unfold bpD; kernel_rfl
theorem bpu14 : bpLeaf bpG9 (bpL0 10) bpArgs1 := bp_leaf bpt14 (by kernel_rfl) fun F hm hT => (bpK (bps0 ⟨F.bd, trivial, F.nl⟩ hm hT) (bpK (bps1 ⟨F.bd, trivial, F.nl⟩ hm hT) (bpK (bps2 ⟨F.bd, trivial, F.nl⟩ hm hT) (bpK (bps3 ⟨F.bd, ⟨F.ge.2.2.2.1, trivial⟩, F.nl⟩ hm hT) (bpK (bps5 ⟨F.bd, ⟨F.ge.2.2.1, trivial⟩, F.nl⟩ hm hT) (bpK (bps6 ⟨F.bd, trivial, F.nl⟩ hm hT) (bpK (bps246 F hm hT) bpN)))))))
end Go.Proofs.YtdfgedemolielaaGreat
