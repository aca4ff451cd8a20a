/- complinelaw26.BatchParts: runs, part 0. -/
import Derived.Test.YtdfgedemolielaaGreatBpQ
namespace Go.Proofs.YtdfgedemolielaaGreat
open Go Go.RowKit Gv Gv.Lt
set_option maxRecDepth 100000
theorem bpr0 : bpC [] [] 6 bpP0 := by unfold bpC; kernel_rfl
theorem bps0 : bpS [] bpP0 := bp_piece Tryz.func6 rfl bpr0 fun _ _ _ => bpN
theorem bpr1 : bpC [] [] 8 bpP1 := by unfold bpC; kernel_rfl
theorem bps1 : bpS [] bpP1 := bp_piece Tryz.func8 rfl bpr1 fun _ _ _ => bpN
theorem bpr2 : bpC [] [] 9 bpP2 := by unfold bpC; kernel_rfl
theorem bps2 : bpS [] bpP2 := bp_piece Tryz.func9 rfl bpr2 fun _ _ _ => bpN
theorem bpr3 : bpC [] bpG0 10 bpP3 := by unfold bpC; kernel_rfl
theorem bps3 : bpS bpG0 bpP3 := bp_piece Tryz.func10 rfl bpr3 fun _ _ _ => bpN
theorem bpr4 : bpC [] bpG1 10 bpP4 := by unfold bpC; kernel_rfl
theorem bps4 : bpS bpG1 bpP4 := bp_piece Tryz.func10 rfl bpr4 fun _ _ _ => bpN
theorem bpr8 : bpC [] [] 11 bpP8 := by unfold bpC; kernel_rfl
theorem bps8 : bpS [] bpP8 := bp_piece Tryz.func11 rfl bpr8 fun _ _ _ => bpN
theorem bpr5 : bpC [] bpG8 10 bpP5 := by unfold bpC; kernel_rfl
theorem bps5 : bpS bpG8 bpP5 := bp_piece Tryz.func10 rfl bpr5 fun _ _ _ => bpN
theorem bpr9 : bpC [] [] 11 bpP9 := by unfold bpC; kernel_rfl
theorem bps9 : bpS [] bpP9 := bp_piece Tryz.func11 rfl bpr9 fun _ _ _ => bpN
theorem bpr7 : bpC [] [] 11 bpP7 := by unfold bpC; kernel_rfl
theorem bps7 : bpS [] bpP7 := bp_piece Tryz.func11 rfl bpr7 fun _ _ _ => bpN
theorem bpr6 : bpC [] [] 11 bpP6 := by unfold bpC; kernel_rfl
theorem bps6 : bpS [] bpP6 := bp_piece Tryz.func11 rfl bpr6 fun _ _ _ => bpN
theorem bpr345 : bpC [] bpG25 10 bpP345 := by unfold bpC; kernel_rfl
theorem bps345 : bpS bpG25 bpP345 := bp_piece Tryz.func10 rfl bpr345 fun _ _ _ => bpN
theorem bpr351 : bpC [] bpG8 10 bpP351 := by unfold bpC; kernel_rfl
theorem bps351 : bpS bpG8 bpP351 := bp_piece Tryz.func10 rfl bpr351 fun _ _ _ => bpN
theorem bpr356 : bpC [] [] 11 bpP356 := by unfold bpC; kernel_rfl
theorem bps356 : bpS [] bpP356 := bp_piece Tryz.func11 rfl bpr356 fun _ _ _ => bpN
theorem bpr350 : bpC [] bpG1 10 bpP350 := by unfold bpC; kernel_rfl
theorem bps350 : bpS bpG1 bpP350 := bp_piece Tryz.func10 rfl bpr350 fun _ _ _ => bpN
theorem bpr357 : bpC [] [] 11 bpP357 := by unfold bpC; kernel_rfl
theorem bps357 : bpS [] bpP357 := bp_piece Tryz.func11 rfl bpr357 fun _ _ _ => bpN
theorem bpr533 : bpC [] bpG45 10 bpP533 := by unfold bpC; kernel_rfl
theorem bps533 : bpS bpG45 bpP533 := bp_piece Tryz.func10 rfl bpr533 fun _ _ _ => bpN
theorem bpr541 : bpC [] bpG8 10 bpP541 := by unfold bpC; kernel_rfl
theorem bps541 : bpS bpG8 bpP541 := bp_piece Tryz.func10 rfl bpr541 fun _ _ _ => bpN
theorem bpr552 : bpC [] [] 11 bpP552 := by unfold bpC; kernel_rfl
theorem bps552 : bpS [] bpP552 := bp_piece Tryz.func11 rfl bpr552 fun _ _ _ => bpN
theorem bpr617 : bpC [] bpG1 10 bpP617 := by unfold bpC; kernel_rfl
theorem bps617 : bpS bpG1 bpP617 := bp_piece Tryz.func10 rfl bpr617 fun _ _ _ => bpN
theorem bpr636 : bpC [] [] 11 bpP636 := by unfold bpC; kernel_rfl
theorem bps636 : bpS [] bpP636 := bp_piece Tryz.func11 rfl bpr636 fun _ _ _ => bpN
theorem bpr688 : bpC [] [] 11 bpP688 := by unfold bpC; kernel_rfl
theorem bps688 : bpS [] bpP688 := bp_piece Tryz.func11 rfl bpr688 fun _ _ _ => bpN
theorem bpr687 : bpC [] [] 11 bpP687 := by unfold bpC; kernel_rfl
theorem bps687 : bpS [] bpP687 := bp_piece Tryz.func11 rfl bpr687 fun _ _ _ => bpN
end Go.Proofs.YtdfgedemolielaaGreat
