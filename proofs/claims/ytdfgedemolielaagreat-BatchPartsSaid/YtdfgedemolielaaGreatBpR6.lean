/- complinelaw26.BatchParts: runs, part 6. -/
import Derived.Test.YtdfgedemolielaaGreatBpQ
import Derived.Test.YtdfgedemolielaaGreatBpR0
namespace Go.Proofs.YtdfgedemolielaaGreat
open Go Go.RowKit Gv Gv.Lt
set_option maxRecDepth 100000
theorem bpr160 : bpC [] bpG13 185 bpP160 := by unfold bpC; kernel_rfl
theorem bps160 : bpS bpG13 bpP160 := bp_piece Tryz.func185 rfl bpr160 fun _ _ _ => bpN
theorem bpr172 : bpC [bpP160] bpG13 78 bpP172 := by unfold bpC; kernel_rfl
theorem bps172 : bpS bpG13 bpP172 := bp_piece Tryz.func78 rfl bpr172 fun F hm hT => (bpK (bps160 F hm hT) bpN)
theorem bpr329 : bpC [] bpG14 78 bpP329 := by unfold bpC; kernel_rfl
theorem bps329 : bpS bpG14 bpP329 := bp_piece Tryz.func78 rfl bpr329 fun _ _ _ => bpN
theorem bpr331 : bpC [bpP172, bpP329] bpG14 12 bpP331 := by unfold bpC; kernel_rfl
theorem bps331 : bpS bpG14 bpP331 := bp_piece Tryz.func12 rfl bpr331 fun F hm hT => (bpK (bps172 ⟨F.bd, F.ge.2.2, F.nl⟩ hm hT) (bpK (bps329 F hm hT) bpN))
theorem bpt18 : bpD [bpP0, bpP1, bpP2, bpP3, bpP4, bpP8, bpP331] bpG14 (bpL1 10) bpArgs3 := by unfold bpD; kernel_rfl
theorem bpu18 : bpLeaf bpG14 (bpL1 10) bpArgs3 := bp_leaf bpt18 (by kernel_rfl) fun F hm hT => (bpK (bps0 ⟨F.bd, trivial, F.nl⟩ hm hT) (bpK (bps1 ⟨F.bd, trivial, F.nl⟩ hm hT) (bpK (bps2 ⟨F.bd, trivial, F.nl⟩ hm hT) (bpK (bps3 ⟨F.bd, ⟨F.ge.2.2.2.2.1, trivial⟩, F.nl⟩ hm hT) (bpK (bps4 ⟨F.bd, ⟨F.ge.2.2.2.1, trivial⟩, F.nl⟩ hm hT) (bpK (bps8 ⟨F.bd, trivial, F.nl⟩ hm hT) (bpK (bps331 F hm hT) bpN)))))))
theorem bpr649 : bpC [] bpG43 78 bpP649 := by unfold bpC; kernel_rfl
theorem bps649 : bpS bpG43 bpP649 := bp_piece Tryz.func78 rfl bpr649 fun _ _ _ => bpN
theorem bpr657 : bpC [bpP649] bpG43 12 bpP657 := by unfold bpC; kernel_rfl
theorem bps657 : bpS bpG43 bpP657 := bp_piece Tryz.func12 rfl bpr657 fun F hm hT => (bpK (bps649 F hm hT) bpN)
theorem bpt34 : bpD [bpP0, bpP1, bpP2, bpP3, bpP5, bpP9, bpP657] bpG43 (bpL1 10) bpArgs8 := by unfold bpD; kernel_rfl
theorem bpu34 : bpLeaf bpG43 (bpL1 10) bpArgs8 := bp_leaf bpt34 (by kernel_rfl) fun F hm hT => (bpK (bps0 ⟨F.bd, trivial, F.nl⟩ hm hT) (bpK (bps1 ⟨F.bd, trivial, F.nl⟩ hm hT) (bpK (bps2 ⟨F.bd, trivial, F.nl⟩ hm hT) (bpK (bps3 ⟨F.bd, ⟨F.ge.2.2.2.1, trivial⟩, F.nl⟩ hm hT) (bpK (bps5 ⟨F.bd, ⟨F.ge.2.2.1, trivial⟩, F.nl⟩ hm hT) (bpK (bps9 ⟨F.bd, trivial, F.nl⟩ hm hT) (bpK (bps657 F hm hT) bpN)))))))
theorem bpr57 : bpC [] bpG5 185 bpP57 := by unfold bpC; kernel_rfl
theorem bps57 : bpS bpG5 bpP57 := bp_piece Tryz.func185 rfl bpr57 fun _ _ _ => bpN
theorem bpr70 : bpC [bpP57] bpG5 78 bpP70 := by unfold bpC; kernel_rfl
theorem bps70 : bpS bpG5 bpP70 := bp_piece Tryz.func78 rfl bpr70 fun F hm hT => (bpK (bps57 F hm hT) bpN)
theorem bpr275 : bpC [] bpG5 78 bpP275 := by unfold bpC; kernel_rfl
theorem bps275 : bpS bpG5 bpP275 := bp_piece Tryz.func78 rfl bpr275 fun _ _ _ => bpN
theorem bpr294 : bpC [bpP70, bpP275] bpG5 12 bpP294 := by unfold bpC; kernel_rfl
theorem bps294 : bpS bpG5 bpP294 := bp_piece Tryz.func12 rfl bpr294 fun F hm hT => (bpK (bps70 F hm hT) (bpK (bps275 F hm hT) bpN))
theorem bpt3 : bpD [bpP0, bpP1, bpP2, bpP3, bpP4, bpP8, bpP294] bpG5 (bpL1 10) bpArgs0 := by unfold bpD; kernel_rfl
theorem bpu3 : bpLeaf bpG5 (bpL1 10) bpArgs0 := bp_leaf bpt3 (by kernel_rfl) fun F hm hT => (bpK (bps0 ⟨F.bd, trivial, F.nl⟩ hm hT) (bpK (bps1 ⟨F.bd, trivial, F.nl⟩ hm hT) (bpK (bps2 ⟨F.bd, trivial, F.nl⟩ hm hT) (bpK (bps3 ⟨F.bd, ⟨F.ge.2.2.2.2.1, trivial⟩, F.nl⟩ hm hT) (bpK (bps4 ⟨F.bd, ⟨F.ge.2.2.2.1, trivial⟩, F.nl⟩ hm hT) (bpK (bps8 ⟨F.bd, trivial, F.nl⟩ hm hT) (bpK (bps294 F hm hT) bpN)))))))
theorem bpr61 : bpC [] bpG4 185 bpP61 := by unfold bpC; kernel_rfl
theorem bps61 : bpS bpG4 bpP61 := bp_piece Tryz.func185 rfl bpr61 fun _ _ _ => bpN
theorem bpr75 : bpC [bpP61] bpG4 78 bpP75 := by unfold bpC; kernel_rfl
theorem bps75 : bpS bpG4 bpP75 := bp_piece Tryz.func78 rfl bpr75 fun F hm hT => (bpK (bps61 F hm hT) bpN)
theorem bpr282 : bpC [] bpG4 78 bpP282 := by unfold bpC; kernel_rfl
theorem bps282 : bpS bpG4 bpP282 := bp_piece Tryz.func78 rfl bpr282 fun _ _ _ => bpN
theorem bpr289 : bpC [bpP75, bpP282] bpG4 12 bpP289 := by unfold bpC; kernel_rfl
theorem bps289 : bpS bpG4 bpP289 := bp_piece Tryz.func12 rfl bpr289 fun F hm hT => (bpK (bps75 F hm hT) (bpK (bps282 F hm hT) bpN))
theorem bpt10 : bpD [bpP0, bpP1, bpP2, bpP3, bpP4, bpP7, bpP289] bpG4 (bpL0 10) bpArgs1 := by unfold bpD; kernel_rfl
theorem bpu10 : bpLeaf bpG4 (bpL0 10) bpArgs1 := bp_leaf bpt10 (by kernel_rfl) fun F hm hT => (bpK (bps0 ⟨F.bd, trivial, F.nl⟩ hm hT) (bpK (bps1 ⟨F.bd, trivial, F.nl⟩ hm hT) (bpK (bps2 ⟨F.bd, trivial, F.nl⟩ hm hT) (bpK (bps3 ⟨F.bd, ⟨F.ge.2.2.2.2.1, trivial⟩, F.nl⟩ hm hT) (bpK (bps4 ⟨F.bd, ⟨F.ge.2.2.2.1, trivial⟩, F.nl⟩ hm hT) (bpK (bps7 ⟨F.bd, trivial, F.nl⟩ hm hT) (bpK (bps289 F hm hT) bpN)))))))
theorem bpr805 : bpC [] bpG61 78 bpP805 := by unfold bpC; kernel_rfl
theorem bps805 : bpS bpG61 bpP805 := bp_piece Tryz.func78 rfl bpr805 fun _ _ _ => bpN
theorem bpr815 : bpC [bpP805] bpG61 12 bpP815 := by unfold bpC; kernel_rfl
theorem bps815 : bpS bpG61 bpP815 := bp_piece Tryz.func12 rfl bpr815 fun F hm hT => (bpK (bps805 F hm hT) bpN)
theorem bpt51 : bpD [bpP0, bpP1, bpP2, bpP533, bpP617, bpP688, bpP815] bpG61 (bpL0 10) bpArgs12 := by unfold bpD; kernel_rfl
theorem bpu51 : bpLeaf bpG61 (bpL0 10) bpArgs12 := bp_leaf bpt51 (by kernel_rfl) fun F hm hT => (bpK (bps0 ⟨F.bd, trivial, F.nl⟩ hm hT) (bpK (bps1 ⟨F.bd, trivial, F.nl⟩ hm hT) (bpK (bps2 ⟨F.bd, trivial, F.nl⟩ hm hT) (bpK (bps533 ⟨F.bd, ⟨F.ge.2.2.2.1, trivial⟩, F.nl⟩ hm hT) (bpK (bps617 ⟨F.bd, ⟨F.ge.2.2.1, trivial⟩, F.nl⟩ hm hT) (bpK (bps688 ⟨F.bd, trivial, F.nl⟩ hm hT) (bpK (bps815 F hm hT) bpN)))))))
end Go.Proofs.YtdfgedemolielaaGreat
