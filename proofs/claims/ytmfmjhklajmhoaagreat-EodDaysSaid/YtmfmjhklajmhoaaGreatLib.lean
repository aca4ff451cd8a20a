/- The library's hooks at this seat's program: bits.Add64, maps.clone, strings.Clone, slices.Sorted over a map's keys, slices.AppendSeq where nothing comes. -/
import Derived.Test.YtmfmjhklajmhoaaGreatGvPermw
import Derived.Test.YtmfmjhklajmhoaaGreatLay
import Derived.Maps.AppendAt
import Derived.Shelf.SlIter.Collect
namespace Go.Proofs.YtmfmjhklajmhoaaGreat
open Go.RowKit Go.Maps Go.Sort Go.Shelf Gv
theorem progOk : ProgOk Tryz.prog := ⟨of_decide_eq_true (by kernel_rfl), by kernel_rfl, by kernel_rfl⟩
theorem ext460 : ExtOk Tryz.prog 460 add64Entry := ExtOk.mk' progOk Tryz.func460 rfl (by kernel_rfl) (by kernel_rfl)
theorem ext78 : ExtOk Tryz.prog 78 Extern.MapsClone.clone := ExtOk.mk' progOk Tryz.func78 rfl (by kernel_rfl) (by kernel_rfl)
theorem mulOk : MulOk Tryz.prog 533 := fun x y hx hy w => Tryz.bits_Mul64 x y hx hy w
theorem sorts (m : Nat) : AnyZ.SortsIn Tryz.prog Tryz.sorted167_ren Fence.wide m :=
 ⟨fun blk off cap ss W hH hblk hsz => callsIn_wide.2 (AnyM.slices_Sort_string Tryz.sort241 blk off cap ss W hH hblk hsz),
  fun p cap W => callsIn_wide.2 (AnyM.slices_Sort_string_none Tryz.sort241 p cap W)⟩
theorem sorted242 : SortedOk Tryz.prog 167 242 9 where
 many := by
  intro w Bm b El c hcell hb hs hk hsz
  obtain ⟨D0, hown, hperm, hlen⟩ := owns_of Tryz.underlying9 hb hs hk hsz
  have hBm : Bm < w.heap.size := by
   cases hx : w.heap[Bm]? with
   | none => simp [World.cell?, hx] at hcell
   | some y => exact (Array.getElem?_eq_some_iff.1 hx).1
  have hseq : SeqGives Fence.wide 2 Tryz.prog 242 #[.pointer (some ⟨Bm, 0, none⟩)] encStr (fun ss => ss.Perm (strKeys D0)) (Maps.size D0) w :=
   AnyZ.keys_gives (ρ := Tryz.keys168_ren) { Tryz.keys168 with } Fence.wide _ trivial rfl (by omega) Bm b _ D0 w hBm hcell hown
  have h := AnyZ.sorted_in Tryz.sorted167 Fence.wide 5 trivial trivial trivial trivial rfl (by omega) (sorts _) (enters_of Tryz.func241 (by kernel_rfl) rfl) 242 #[.pointer (some ⟨Bm, 0, none⟩)] trivial (enters_of Tryz.func242 (by kernel_rfl) rfl) _ _ (by rw [hlen]; unfold maxLen; omega) (by rw [hlen]; omega) w hseq
  refine (callsIn_wide.1 h).mono ?_
  rintro e w' ⟨v, ss, rfl, hS, hrow, hnil, hB⟩
  refine ⟨v, ss.mergeSort (fun x y => decide (x ≤ y)), rfl, (List.mergeSort_perm _ _).trans (hS.trans hperm), sorted_le ss, ?_, ?_, hB⟩
  · rw [List.length_mergeSort]; exact hrow
  · rw [hnil, ← List.length_eq_zero_iff, ← List.length_eq_zero_iff, List.length_mergeSort]
 nil := by
  intro w Bm hcell
  have hBm : Bm < w.heap.size := by
   cases hx : w.heap[Bm]? with
   | none => simp [World.cell?, hx] at hcell
   | some y => exact (Array.getElem?_eq_some_iff.1 hx).1
  have hseq : SeqGives Fence.wide 2 Tryz.prog 242 #[.pointer (some ⟨Bm, 0, none⟩)] encStr (fun ss : List (List UInt8) => ss = []) 0 w :=
   AnyZ.keys_gives_nil (ρ := Tryz.keys168_ren) { Tryz.keys168 with } Fence.wide _ trivial rfl Bm _ hBm hcell
  have h := AnyZ.sorted_in Tryz.sorted167 Fence.wide 5 trivial trivial trivial trivial rfl (by omega) (sorts _) (enters_of Tryz.func241 (by kernel_rfl) rfl) 242 #[.pointer (some ⟨Bm, 0, none⟩)] trivial (enters_of Tryz.func242 (by kernel_rfl) rfl) _ 0 (Nat.zero_le _) (by omega) w hseq
  refine (callsIn_wide.1 h).mono ?_
  rintro e w' ⟨v, ss, rfl, hS, _, hnil, hB⟩
  exact ⟨by rw [hnil.2 hS], hB⟩
theorem sorted293 : SortedOk Tryz.prog 167 293 9 where
 many := by
  intro w Bm b El c hcell hb hs hk hsz
  obtain ⟨D0, hown, hperm, hlen⟩ := owns_of Tryz.underlying9 hb hs hk hsz
  have hBm : Bm < w.heap.size := by
   cases hx : w.heap[Bm]? with
   | none => simp [World.cell?, hx] at hcell
   | some y => exact (Array.getElem?_eq_some_iff.1 hx).1
  have hseq : SeqGives Fence.wide 2 Tryz.prog 293 #[.pointer (some ⟨Bm, 0, none⟩)] encStr (fun ss => ss.Perm (strKeys D0)) (Maps.size D0) w :=
   AnyZ.keys_gives (ρ := Tryz.keys231_ren) { Tryz.keys231 with } Fence.wide _ trivial rfl (by omega) Bm b _ D0 w hBm hcell hown
  have h := AnyZ.sorted_in Tryz.sorted167 Fence.wide 5 trivial trivial trivial trivial rfl (by omega) (sorts _) (enters_of Tryz.func241 (by kernel_rfl) rfl) 293 #[.pointer (some ⟨Bm, 0, none⟩)] trivial (enters_of Tryz.func293 (by kernel_rfl) rfl) _ _ (by rw [hlen]; unfold maxLen; omega) (by rw [hlen]; omega) w hseq
  refine (callsIn_wide.1 h).mono ?_
  rintro e w' ⟨v, ss, rfl, hS, hrow, hnil, hB⟩
  refine ⟨v, ss.mergeSort (fun x y => decide (x ≤ y)), rfl, (List.mergeSort_perm _ _).trans (hS.trans hperm), sorted_le ss, ?_, ?_, hB⟩
  · rw [List.length_mergeSort]; exact hrow
  · rw [hnil, ← List.length_eq_zero_iff, ← List.length_eq_zero_iff, List.length_mergeSort]
 nil := by
  intro w Bm hcell
  have hBm : Bm < w.heap.size := by
   cases hx : w.heap[Bm]? with
   | none => simp [World.cell?, hx] at hcell
   | some y => exact (Array.getElem?_eq_some_iff.1 hx).1
  have hseq : SeqGives Fence.wide 2 Tryz.prog 293 #[.pointer (some ⟨Bm, 0, none⟩)] encStr (fun ss : List (List UInt8) => ss = []) 0 w :=
   AnyZ.keys_gives_nil (ρ := Tryz.keys231_ren) { Tryz.keys231 with } Fence.wide _ trivial rfl Bm _ hBm hcell
  have h := AnyZ.sorted_in Tryz.sorted167 Fence.wide 5 trivial trivial trivial trivial rfl (by omega) (sorts _) (enters_of Tryz.func241 (by kernel_rfl) rfl) 293 #[.pointer (some ⟨Bm, 0, none⟩)] trivial (enters_of Tryz.func293 (by kernel_rfl) rfl) _ 0 (Nat.zero_le _) (by omega) w hseq
  refine (callsIn_wide.1 h).mono ?_
  rintro e w' ⟨v, ss, rfl, hS, _, hnil, hB⟩
  exact ⟨by rw [hnil.2 hS], hB⟩
theorem sorted294 : SortedOk Tryz.prog 167 294 9 where
 many := by
  intro w Bm b El c hcell hb hs hk hsz
  obtain ⟨D0, hown, hperm, hlen⟩ := owns_of Tryz.underlying9 hb hs hk hsz
  have hBm : Bm < w.heap.size := by
   cases hx : w.heap[Bm]? with
   | none => simp [World.cell?, hx] at hcell
   | some y => exact (Array.getElem?_eq_some_iff.1 hx).1
  have hseq : SeqGives Fence.wide 2 Tryz.prog 294 #[.pointer (some ⟨Bm, 0, none⟩)] encStr (fun ss => ss.Perm (strKeys D0)) (Maps.size D0) w :=
   AnyZ.keys_gives (ρ := Tryz.keys233_ren) { Tryz.keys233 with } Fence.wide _ trivial rfl (by omega) Bm b _ D0 w hBm hcell hown
  have h := AnyZ.sorted_in Tryz.sorted167 Fence.wide 5 trivial trivial trivial trivial rfl (by omega) (sorts _) (enters_of Tryz.func241 (by kernel_rfl) rfl) 294 #[.pointer (some ⟨Bm, 0, none⟩)] trivial (enters_of Tryz.func294 (by kernel_rfl) rfl) _ _ (by rw [hlen]; unfold maxLen; omega) (by rw [hlen]; omega) w hseq
  refine (callsIn_wide.1 h).mono ?_
  rintro e w' ⟨v, ss, rfl, hS, hrow, hnil, hB⟩
  refine ⟨v, ss.mergeSort (fun x y => decide (x ≤ y)), rfl, (List.mergeSort_perm _ _).trans (hS.trans hperm), sorted_le ss, ?_, ?_, hB⟩
  · rw [List.length_mergeSort]; exact hrow
  · rw [hnil, ← List.length_eq_zero_iff, ← List.length_eq_zero_iff, List.length_mergeSort]
 nil := by
  intro w Bm hcell
  have hBm : Bm < w.heap.size := by
   cases hx : w.heap[Bm]? with
   | none => simp [World.cell?, hx] at hcell
   | some y => exact (Array.getElem?_eq_some_iff.1 hx).1
  have hseq : SeqGives Fence.wide 2 Tryz.prog 294 #[.pointer (some ⟨Bm, 0, none⟩)] encStr (fun ss : List (List UInt8) => ss = []) 0 w :=
   AnyZ.keys_gives_nil (ρ := Tryz.keys233_ren) { Tryz.keys233 with } Fence.wide _ trivial rfl Bm _ hBm hcell
  have h := AnyZ.sorted_in Tryz.sorted167 Fence.wide 5 trivial trivial trivial trivial rfl (by omega) (sorts _) (enters_of Tryz.func241 (by kernel_rfl) rfl) 294 #[.pointer (some ⟨Bm, 0, none⟩)] trivial (enters_of Tryz.func294 (by kernel_rfl) rfl) _ 0 (Nat.zero_le _) (by omega) w hseq
  refine (callsIn_wide.1 h).mono ?_
  rintro e w' ⟨v, ss, rfl, hS, _, hnil, hB⟩
  exact ⟨by rw [hnil.2 hS], hB⟩
theorem sorted295 : SortedOk Tryz.prog 167 295 9 where
 many := by
  intro w Bm b El c hcell hb hs hk hsz
  obtain ⟨D0, hown, hperm, hlen⟩ := owns_of Tryz.underlying9 hb hs hk hsz
  have hBm : Bm < w.heap.size := by
   cases hx : w.heap[Bm]? with
   | none => simp [World.cell?, hx] at hcell
   | some y => exact (Array.getElem?_eq_some_iff.1 hx).1
  have hseq : SeqGives Fence.wide 2 Tryz.prog 295 #[.pointer (some ⟨Bm, 0, none⟩)] encStr (fun ss => ss.Perm (strKeys D0)) (Maps.size D0) w :=
   AnyZ.keys_gives (ρ := Tryz.keys234_ren) { Tryz.keys234 with } Fence.wide _ trivial rfl (by omega) Bm b _ D0 w hBm hcell hown
  have h := AnyZ.sorted_in Tryz.sorted167 Fence.wide 5 trivial trivial trivial trivial rfl (by omega) (sorts _) (enters_of Tryz.func241 (by kernel_rfl) rfl) 295 #[.pointer (some ⟨Bm, 0, none⟩)] trivial (enters_of Tryz.func295 (by kernel_rfl) rfl) _ _ (by rw [hlen]; unfold maxLen; omega) (by rw [hlen]; omega) w hseq
  refine (callsIn_wide.1 h).mono ?_
  rintro e w' ⟨v, ss, rfl, hS, hrow, hnil, hB⟩
  refine ⟨v, ss.mergeSort (fun x y => decide (x ≤ y)), rfl, (List.mergeSort_perm _ _).trans (hS.trans hperm), sorted_le ss, ?_, ?_, hB⟩
  · rw [List.length_mergeSort]; exact hrow
  · rw [hnil, ← List.length_eq_zero_iff, ← List.length_eq_zero_iff, List.length_mergeSort]
 nil := by
  intro w Bm hcell
  have hBm : Bm < w.heap.size := by
   cases hx : w.heap[Bm]? with
   | none => simp [World.cell?, hx] at hcell
   | some y => exact (Array.getElem?_eq_some_iff.1 hx).1
  have hseq : SeqGives Fence.wide 2 Tryz.prog 295 #[.pointer (some ⟨Bm, 0, none⟩)] encStr (fun ss : List (List UInt8) => ss = []) 0 w :=
   AnyZ.keys_gives_nil (ρ := Tryz.keys234_ren) { Tryz.keys234 with } Fence.wide _ trivial rfl Bm _ hBm hcell
  have h := AnyZ.sorted_in Tryz.sorted167 Fence.wide 5 trivial trivial trivial trivial rfl (by omega) (sorts _) (enters_of Tryz.func241 (by kernel_rfl) rfl) 295 #[.pointer (some ⟨Bm, 0, none⟩)] trivial (enters_of Tryz.func295 (by kernel_rfl) rfl) _ 0 (Nat.zero_le _) (by omega) w hseq
  refine (callsIn_wide.1 h).mono ?_
  rintro e w' ⟨v, ss, rfl, hS, _, hnil, hB⟩
  exact ⟨by rw [hnil.2 hS], hB⟩
theorem sorted536 : SortedOk Tryz.prog 167 536 9 where
 many := by
  intro w Bm b El c hcell hb hs hk hsz
  obtain ⟨D0, hown, hperm, hlen⟩ := owns_of Tryz.underlying9 hb hs hk hsz
  have hBm : Bm < w.heap.size := by
   cases hx : w.heap[Bm]? with
   | none => simp [World.cell?, hx] at hcell
   | some y => exact (Array.getElem?_eq_some_iff.1 hx).1
  have hseq : SeqGives Fence.wide 2 Tryz.prog 536 #[.pointer (some ⟨Bm, 0, none⟩)] encStr (fun ss => ss.Perm (strKeys D0)) (Maps.size D0) w :=
   AnyZ.keys_gives (ρ := Tryz.keys462_ren) { Tryz.keys462 with } Fence.wide _ trivial rfl (by omega) Bm b _ D0 w hBm hcell hown
  have h := AnyZ.sorted_in Tryz.sorted167 Fence.wide 5 trivial trivial trivial trivial rfl (by omega) (sorts _) (enters_of Tryz.func241 (by kernel_rfl) rfl) 536 #[.pointer (some ⟨Bm, 0, none⟩)] trivial (enters_of Tryz.func536 (by kernel_rfl) rfl) _ _ (by rw [hlen]; unfold maxLen; omega) (by rw [hlen]; omega) w hseq
  refine (callsIn_wide.1 h).mono ?_
  rintro e w' ⟨v, ss, rfl, hS, hrow, hnil, hB⟩
  refine ⟨v, ss.mergeSort (fun x y => decide (x ≤ y)), rfl, (List.mergeSort_perm _ _).trans (hS.trans hperm), sorted_le ss, ?_, ?_, hB⟩
  · rw [List.length_mergeSort]; exact hrow
  · rw [hnil, ← List.length_eq_zero_iff, ← List.length_eq_zero_iff, List.length_mergeSort]
 nil := by
  intro w Bm hcell
  have hBm : Bm < w.heap.size := by
   cases hx : w.heap[Bm]? with
   | none => simp [World.cell?, hx] at hcell
   | some y => exact (Array.getElem?_eq_some_iff.1 hx).1
  have hseq : SeqGives Fence.wide 2 Tryz.prog 536 #[.pointer (some ⟨Bm, 0, none⟩)] encStr (fun ss : List (List UInt8) => ss = []) 0 w :=
   AnyZ.keys_gives_nil (ρ := Tryz.keys462_ren) { Tryz.keys462 with } Fence.wide _ trivial rfl Bm _ hBm hcell
  have h := AnyZ.sorted_in Tryz.sorted167 Fence.wide 5 trivial trivial trivial trivial rfl (by omega) (sorts _) (enters_of Tryz.func241 (by kernel_rfl) rfl) 536 #[.pointer (some ⟨Bm, 0, none⟩)] trivial (enters_of Tryz.func536 (by kernel_rfl) rfl) _ 0 (Nat.zero_le _) (by omega) w hseq
  refine (callsIn_wide.1 h).mono ?_
  rintro e w' ⟨v, ss, rfl, hS, _, hnil, hB⟩
  exact ⟨by rw [hnil.2 hS], hB⟩
theorem sortedAll : ∀ g ∈ ([242, 293, 294, 295, 536] : List Nat), SortedOk Tryz.prog 167 g 9 := by
 intro g hg
 simp only [List.mem_cons, List.not_mem_nil, or_false] at hg
 rcases hg with rfl | rfl | rfl | rfl | rfl
 · exact sorted242
 · exact sorted293
 · exact sorted294
 · exact sorted295
 · exact sorted536
def iters : List Nat := [230, 242, 244, 247, 293, 294, 295, 536]
theorem iters_in : ∀ k ∈ iters, ∃ fn c, Tryz.prog.funcs[k]? = some fn ∧ fn.body = some c := by
 intro k hk
 simp only [iters, List.mem_cons, List.not_mem_nil, or_false] at hk
 rcases hk with rfl | rfl | rfl | rfl | rfl | rfl | rfl | rfl
 · exact ⟨_, _, Tryz.func230, rfl⟩
 · exact ⟨_, _, Tryz.func242, rfl⟩
 · exact ⟨_, _, Tryz.func244, rfl⟩
 · exact ⟨_, _, Tryz.func247, rfl⟩
 · exact ⟨_, _, Tryz.func293, rfl⟩
 · exact ⟨_, _, Tryz.func294, rfl⟩
 · exact ⟨_, _, Tryz.func295, rfl⟩
 · exact ⟨_, _, Tryz.func536, rfl⟩
set_option maxRecDepth 100000 in
set_option maxHeartbeats 2000000 in
theorem app291 : AppOk Tryz.prog 291 := by
 intro g lb w R eg hcall
 refine (callsIn_wide (n := 3)).1 ?_
 refine callsIn_of_wp_marks Tryz.func291 rfl trivial ?_ rfl
 simp only [Tryz.ntmps291, List.size_toArray, List.length_cons, List.length_nil, Nat.reduceAdd, Nat.reduceSub, Array.replicate_succ, Array.replicate_zero, List.push_toArray, List.append_toArray, List.nil_append, List.cons_append]
 gi_wp2
 obtain ⟨W0, hW0⟩ : ∃ W0, w.alloc (.cells #[.slice none 0 0] 22) = W0 := ⟨_, rfl⟩
 have hs0 : W0.heap.size = w.heap.size + 1 := by rw [← hW0]; simp
 have hv0 : W0.heap[w.heap.size]? = some (.cells #[.slice none 0 0] 22 (0, 0)) := by rw [← hW0]; exact World.alloc_heap_new w _
 have hb0 : Below w.heap.size w W0 := by rw [← hW0]; exact (Below.refl _ w).alloc (Nat.le_refl _) _
 rw [hW0]
 refine rangeFunc_nothing rfl eg fun W1 hb1 hs1 hdef => ?_
 refine (hcall (W0.heap.size + 1) W1 (by omega) (by omega) (hb0.trans (hb1.mono (by omega)))).mono ?_
 rintro e W2 ⟨⟨v0, rfl⟩, hk, hsz2, hR⟩
 refine ⟨⟨v0, rfl⟩, hk _ (by omega) (by omega), fun W3 h3 => ?_⟩
 have hd3 : W3.heap[W0.heap.size]? = some (.deferred (some [])) := (h3.block _ (by omega)).trans ((hk W0.heap.size (by omega) (by omega)).trans hdef)
 have hv3 : W3.heap[w.heap.size]? = some (.cells #[.slice none 0 0] 22 (0, 0)) := (h3.block _ (by omega)).trans ((hk w.heap.size (by omega) (by omega)).trans ((hb1.block w.heap.size (by omega)).trans hv0))
 obtain ⟨hc3, hf3⟩ := cell_of_box_a hv3
 have H3 := Lib.hid h3
 have HR := Lib.hid hR
 clear h3 hR
 gi_wp2
 refine ⟨by simp, .inl ⟨_, _, rfl, run_takeDeferred hd3, ?_⟩⟩
 refine ⟨_, results_tmp rfl _ _ _, rfl, W0.heap.size + 1, W1, W2, by omega, by omega, hb0.trans (hb1.mono (by omega)), HR.out, H3.out.os, H3.out.tape, H3.out.output, by simp [World.putObj, H3.out.size], fun k hk' => ?_⟩
 exact (World.putObj_heap_other (by omega)).trans (H3.out.block k (by omega))
set_option maxRecDepth 100000 in
set_option maxHeartbeats 2000000 in
theorem app307 : AppOk Tryz.prog 307 := by
 intro g lb w R eg hcall
 refine (callsIn_wide (n := 3)).1 ?_
 refine callsIn_of_wp_marks Tryz.func307 rfl trivial ?_ rfl
 simp only [Tryz.ntmps307, List.size_toArray, List.length_cons, List.length_nil, Nat.reduceAdd, Nat.reduceSub, Array.replicate_succ, Array.replicate_zero, List.push_toArray, List.append_toArray, List.nil_append, List.cons_append]
 gi_wp2
 obtain ⟨W0, hW0⟩ : ∃ W0, w.alloc (.cells #[.slice none 0 0] 148) = W0 := ⟨_, rfl⟩
 have hs0 : W0.heap.size = w.heap.size + 1 := by rw [← hW0]; simp
 have hv0 : W0.heap[w.heap.size]? = some (.cells #[.slice none 0 0] 148 (0, 0)) := by rw [← hW0]; exact World.alloc_heap_new w _
 have hb0 : Below w.heap.size w W0 := by rw [← hW0]; exact (Below.refl _ w).alloc (Nat.le_refl _) _
 rw [hW0]
 refine rangeFunc_nothing rfl eg fun W1 hb1 hs1 hdef => ?_
 refine (hcall (W0.heap.size + 1) W1 (by omega) (by omega) (hb0.trans (hb1.mono (by omega)))).mono ?_
 rintro e W2 ⟨⟨v0, rfl⟩, hk, hsz2, hR⟩
 refine ⟨⟨v0, rfl⟩, hk _ (by omega) (by omega), fun W3 h3 => ?_⟩
 have hd3 : W3.heap[W0.heap.size]? = some (.deferred (some [])) := (h3.block _ (by omega)).trans ((hk W0.heap.size (by omega) (by omega)).trans hdef)
 have hv3 : W3.heap[w.heap.size]? = some (.cells #[.slice none 0 0] 148 (0, 0)) := (h3.block _ (by omega)).trans ((hk w.heap.size (by omega) (by omega)).trans ((hb1.block w.heap.size (by omega)).trans hv0))
 obtain ⟨hc3, hf3⟩ := cell_of_box_a hv3
 have H3 := Lib.hid h3
 have HR := Lib.hid hR
 clear h3 hR
 gi_wp2
 refine ⟨by simp, .inl ⟨_, _, rfl, run_takeDeferred hd3, ?_⟩⟩
 refine ⟨_, results_tmp rfl _ _ _, rfl, W0.heap.size + 1, W1, W2, by omega, by omega, hb0.trans (hb1.mono (by omega)), HR.out, H3.out.os, H3.out.tape, H3.out.output, by simp [World.putObj, H3.out.size], fun k hk' => ?_⟩
 exact (World.putObj_heap_other (by omega)).trans (H3.out.block k (by omega))
set_option maxRecDepth 100000 in
set_option maxHeartbeats 2000000 in
theorem app309 : AppOk Tryz.prog 309 := by
 intro g lb w R eg hcall
 refine (callsIn_wide (n := 3)).1 ?_
 refine callsIn_of_wp_marks Tryz.func309 rfl trivial ?_ rfl
 simp only [Tryz.ntmps309, List.size_toArray, List.length_cons, List.length_nil, Nat.reduceAdd, Nat.reduceSub, Array.replicate_succ, Array.replicate_zero, List.push_toArray, List.append_toArray, List.nil_append, List.cons_append]
 gi_wp2
 obtain ⟨W0, hW0⟩ : ∃ W0, w.alloc (.cells #[.slice none 0 0] 147) = W0 := ⟨_, rfl⟩
 have hs0 : W0.heap.size = w.heap.size + 1 := by rw [← hW0]; simp
 have hv0 : W0.heap[w.heap.size]? = some (.cells #[.slice none 0 0] 147 (0, 0)) := by rw [← hW0]; exact World.alloc_heap_new w _
 have hb0 : Below w.heap.size w W0 := by rw [← hW0]; exact (Below.refl _ w).alloc (Nat.le_refl _) _
 rw [hW0]
 refine rangeFunc_nothing rfl eg fun W1 hb1 hs1 hdef => ?_
 refine (hcall (W0.heap.size + 1) W1 (by omega) (by omega) (hb0.trans (hb1.mono (by omega)))).mono ?_
 rintro e W2 ⟨⟨v0, rfl⟩, hk, hsz2, hR⟩
 refine ⟨⟨v0, rfl⟩, hk _ (by omega) (by omega), fun W3 h3 => ?_⟩
 have hd3 : W3.heap[W0.heap.size]? = some (.deferred (some [])) := (h3.block _ (by omega)).trans ((hk W0.heap.size (by omega) (by omega)).trans hdef)
 have hv3 : W3.heap[w.heap.size]? = some (.cells #[.slice none 0 0] 147 (0, 0)) := (h3.block _ (by omega)).trans ((hk w.heap.size (by omega) (by omega)).trans ((hb1.block w.heap.size (by omega)).trans hv0))
 obtain ⟨hc3, hf3⟩ := cell_of_box_a hv3
 have H3 := Lib.hid h3
 have HR := Lib.hid hR
 clear h3 hR
 gi_wp2
 refine ⟨by simp, .inl ⟨_, _, rfl, run_takeDeferred hd3, ?_⟩⟩
 refine ⟨_, results_tmp rfl _ _ _, rfl, W0.heap.size + 1, W1, W2, by omega, by omega, hb0.trans (hb1.mono (by omega)), HR.out, H3.out.os, H3.out.tape, H3.out.output, by simp [World.putObj, H3.out.size], fun k hk' => ?_⟩
 exact (World.putObj_heap_other (by omega)).trans (H3.out.block k (by omega))
set_option maxRecDepth 100000 in
set_option maxHeartbeats 2000000 in
theorem app310 : AppOk Tryz.prog 310 := by
 intro g lb w R eg hcall
 refine (callsIn_wide (n := 3)).1 ?_
 refine callsIn_of_wp_marks Tryz.func310 rfl trivial ?_ rfl
 simp only [Tryz.ntmps310, List.size_toArray, List.length_cons, List.length_nil, Nat.reduceAdd, Nat.reduceSub, Array.replicate_succ, Array.replicate_zero, List.push_toArray, List.append_toArray, List.nil_append, List.cons_append]
 gi_wp2
 obtain ⟨W0, hW0⟩ : ∃ W0, w.alloc (.cells #[.slice none 0 0] 312) = W0 := ⟨_, rfl⟩
 have hs0 : W0.heap.size = w.heap.size + 1 := by rw [← hW0]; simp
 have hv0 : W0.heap[w.heap.size]? = some (.cells #[.slice none 0 0] 312 (0, 0)) := by rw [← hW0]; exact World.alloc_heap_new w _
 have hb0 : Below w.heap.size w W0 := by rw [← hW0]; exact (Below.refl _ w).alloc (Nat.le_refl _) _
 rw [hW0]
 refine rangeFunc_nothing rfl eg fun W1 hb1 hs1 hdef => ?_
 refine (hcall (W0.heap.size + 1) W1 (by omega) (by omega) (hb0.trans (hb1.mono (by omega)))).mono ?_
 rintro e W2 ⟨⟨v0, rfl⟩, hk, hsz2, hR⟩
 refine ⟨⟨v0, rfl⟩, hk _ (by omega) (by omega), fun W3 h3 => ?_⟩
 have hd3 : W3.heap[W0.heap.size]? = some (.deferred (some [])) := (h3.block _ (by omega)).trans ((hk W0.heap.size (by omega) (by omega)).trans hdef)
 have hv3 : W3.heap[w.heap.size]? = some (.cells #[.slice none 0 0] 312 (0, 0)) := (h3.block _ (by omega)).trans ((hk w.heap.size (by omega) (by omega)).trans ((hb1.block w.heap.size (by omega)).trans hv0))
 obtain ⟨hc3, hf3⟩ := cell_of_box_a hv3
 have H3 := Lib.hid h3
 have HR := Lib.hid hR
 clear h3 hR
 gi_wp2
 refine ⟨by simp, .inl ⟨_, _, rfl, run_takeDeferred hd3, ?_⟩⟩
 refine ⟨_, results_tmp rfl _ _ _, rfl, W0.heap.size + 1, W1, W2, by omega, by omega, hb0.trans (hb1.mono (by omega)), HR.out, H3.out.os, H3.out.tape, H3.out.output, by simp [World.putObj, H3.out.size], fun k hk' => ?_⟩
 exact (World.putObj_heap_other (by omega)).trans (H3.out.block k (by omega))
set_option maxRecDepth 100000 in
set_option maxHeartbeats 1000000 in
theorem keysK244 (n : Nat) (hn : 1 ≤ n) (l Bm bm clk : Nat) (El : Array MapEntry) (hB : Born El.toList clk) (hkf : ∀ e ∈ El.toList, e.key = encK (keyK e)) (J : List (ByteArray × ByteArray) → World → Prop)
 (hY : ∀ pre x W, J pre W → pre.length < El.size → YieldAt Fence.wide (n - 1) Tryz.prog l #[encK x] W fun e W' => e = .returned (.bool true) ∧ J (pre ++ [x]) W' ∧ KeepsWalks W W')
 (W : World) (hJ : AbidesFrom W.heap.size J) (hm : W.cell? ⟨Bm, 0, none⟩ = some (.map (some bm))) (hw : W.heap[bm]? = some (.map El clk)) (h0 : J [] W) :
 CallsIn Fence.wide n Tryz.prog 244 #[.func (.yield l) #[] #[], .pointer (some ⟨Bm, 0, none⟩)] W fun e W' => (∃ v, e = .returned v) ∧ ∃ ss : List (ByteArray × ByteArray), ss.Perm (El.toList.map keyK) ∧ J ss W' := by
 refine callsIn_of_wp Tryz.func244 rfl trivial ?_ rfl
 simp only [Tryz.ntmps244, List.size_toArray, List.length_cons, List.length_nil, Nat.reduceAdd, Nat.reduceSub, Array.replicate_succ, Array.replicate_zero, List.push_toArray, List.append_toArray, List.nil_append, List.cons_append]
 gi_wp2_with (first
  | (gi_at_range; refine wpListIn_range_at _ rfl _ 132 rfl 61 87 Tryz.underlying132 bm clk El rfl hw ?_; intro hI0)
  | gi_in)
 go_frame
 gi_loopw [3] (fun _ wr => ∃ es : List MapEntry, ItA wr W.heap.size bm El clk (es.map (·.born)) ∧ (∀ e ∈ es, e ∈ El.toList) ∧ (es.map (·.born)).Nodup ∧ J (es.map keyK) wr ∧ W.heap.size < wr.heap.size)
  (fun _ wr => El.size - (wr.iterSeen W.heap.size).size)
 case atStart =>
  exact ⟨[], hI0, by simp, by simp, hJ [] W _ none h0 (World.grownBy_alloc W _ none) (fun r e => by cases e), by simp⟩
 case round =>
  obtain ⟨es, hI, hin, hnd, hJs, hsz⟩ := hrel
  have hseen : ∀ {w : World} {seen : List Nat}, ItA w W.heap.size bm El clk seen → (w.iterSeen W.heap.size).size = seen.length := fun h => by
   unfold World.iterSeen
   rw [h.2]
   simp
  gi_wp2_with (first
   | (gi_at_next; refine wpListIn_next_at _ rfl _ rfl W.heap.size bm clk El _ rfl hI hB ?_ ?_)
   | gi_in)
  · intro hall
    have hp := part_all hB hin hnd (fun e he => by simpa using hall.out e (by simpa using he))
    clear hall
    gi_wp2
    go_end0
    exact ⟨⟨_, rfl⟩, es.map keyK, hp.map keyK, hJs⟩
  · intro j e w2 Hh hen
    obtain ⟨hj, hnew, hI2, hg2, hs2⟩ := Hh.out
    have he : e ∈ El.toList := List.mem_of_getElem? (i := j) (by simpa using hj)
    have hnew : e.born ∉ es.map (·.born) := by simpa using hnew
    have hlen : es.length < El.size := part_less hB hin hnd he hnew
    have hnd2 : ((es ++ [e]).map (·.born)).Nodup := by
     rw [List.map_append, List.nodup_append]
     exact ⟨hnd, by simp, fun a ha b hb hab => by subst hab; rw [List.map_singleton, List.mem_singleton] at hb; subst hb; exact hnew ha⟩
    have hin2 : ∀ x ∈ es ++ [e], x ∈ El.toList := fun x hx => by
     rcases List.mem_append.1 hx with h | h
     · exact hin x h
     · rw [List.mem_singleton] at h; subst h; exact he
    have hI2' : ItA w2 W.heap.size bm El clk ((es ++ [e]).map (·.born)) := by rw [List.map_append]; exact hI2
    have hJ2 : J (es.map keyK) w2 := hJ _ wr w2 (some W.heap.size) hJs hg2 (fun r e => by cases e; exact ⟨Nat.le_refl _, _, hI.2, rfl⟩)
    have hJ3 : J (es.map keyK) (w2.alloc (.cells #[.string (keyK e).1, .string (keyK e).2] 61)) := hJ _ w2 _ none hJ2 (World.grownBy_alloc w2 _ none) (fun r e => by cases e)
    obtain ⟨fn, tmps, assign, body, hy, hR⟩ := hY (es.map keyK) (keyK e) _ hJ3 (by rw [List.length_map]; exact hlen)
    have hI3 : ItA (w2.alloc (.cells #[.string (keyK e).1, .string (keyK e).2] 61)) W.heap.size bm El clk ((es ++ [e]).map (·.born)) :=
     ⟨(Below.heap_alloc _ _ _ (Array.getElem?_eq_some_iff.1 hI2'.1).1).trans hI2'.1, (Below.heap_alloc _ _ _ (Array.getElem?_eq_some_iff.1 hI2'.2).1).trans hI2'.2⟩
    have hs3 : W.heap.size < (w2.alloc (.cells #[.string (keyK e).1, .string (keyK e).2] 61)).heap.size := by simp; omega
    have hm1 : (wr.iterSeen W.heap.size).size = es.length := by rw [hseen hI, List.length_map]
    have hk := hkf e he
    rw [hk] at hen ⊢
    have H1 := Lib.hid (And.intro hnd2 (And.intro hin2 (And.intro hI3 (And.intro hs3 hm1))))
    clear hs2 hj hnew hnd2 hin2 he hI2 hg2 hI2' hI3 hs3 hJ2 hJ3 hm1 Hh
    unfold encK at hen hy ⊢
    gi_wp2
    refine hR.mono ?_
    rintro e' W3 ⟨rfl, hJ4, hk3⟩
    gi_wp2
    obtain ⟨g1, g2, g3, g4, g5⟩ := H1.out
    have g6 : ItA W3 W.heap.size bm El clk ((es ++ [e]).map (·.born)) := ⟨hk3.same _ _ g3.1 rfl, hk3.same _ _ g3.2 rfl⟩
    go_roundw
    case rel => exact ⟨es ++ [e], g6, g2, g1, by rw [List.map_append]; exact hJ4, by have := hk3.size; omega⟩
    case measure => rw [hseen g6, List.length_map, List.length_append]; simp; omega
set_option maxRecDepth 100000 in
set_option maxHeartbeats 2000000 in
theorem apYieldK309 {A B : Code} (hAB : Tryz.f309.body.bind rfParts = some (A, B)) (m : Nat) (w0 : World) (fn : FuncId) (sv : Value) (Bs l D : Nat) (hBl : Bs ≠ l) (hDl : D ≠ l) (hDB : D ≠ Bs) (h0B : w0.heap.size ≤ Bs) (h0l : w0.heap.size ≤ l)
 (N : Nat) (hN : N ≤ maxLen) (hNb : N * 32 ≤ 140737488355328) (ss : List (ByteArray × ByteArray)) (x : ByteArray × ByteArray) (W : World) (h : ApAtK 147 61 A B w0 fn sv Bs l D ss W) (hlen : ss.length < N) :
 YieldAt Fence.wide m Tryz.prog l #[encK x] W fun e W' => e = .returned (.bool true) ∧ ApAtK 147 61 A B w0 fn sv Bs l D (ss ++ [x]) W' ∧ KeepsWalks W W' := by
 obtain ⟨v, hv, hrow, _⟩ := h.box
 obtain ⟨RR, hRR⟩ : ∃ RR : Ending → World → Prop, RR = (fun e W' => e = .returned (.bool true) ∧ ApAtK 147 61 A B w0 fn sv Bs l D (ss ++ [x]) W' ∧ KeepsWalks W W') := ⟨_, rfl⟩
 rw [← hRR]
 refine ⟨fn, #[.slice none 0 0, sv, .pointer (some ⟨Bs, 0, none⟩), undef, .slice none 0 0, undef, sv, encK x, undef, undef, undef, undef, undef], A, B, by simpa [apRecK] using run_yield (P := Tryz.prog) (args := #[encK x]) h.L rfl, roundIn_of_wpIn trivial ?_⟩
 have hRR' := Lib.hid hRR
 clear hRR
 have hl : l < W.heap.size := (Array.getElem?_eq_some_iff.1 h.L).1
 have hBlt0 : Bs < W.heap.size := (Array.getElem?_eq_some_iff.1 hv).1
 have hDlt0 : D < W.heap.size := (Array.getElem?_eq_some_iff.1 h.K).1
 obtain ⟨W1, hW1⟩ : ∃ W1, W.alloc (.cells #[.string x.1, .string x.2] 61) = W1 := ⟨_, rfl⟩
 have hL1 : W1.heap[l]? = some (.loop (apRecK A B fn sv Bs D .ready none)) := by rw [← hW1]; exact (Below.heap_alloc _ _ _ hl).trans h.L
 have hx1 : W1.heap[W.heap.size]? = some (.cells #[.string x.1, .string x.2] 61 (0, 0)) := by rw [← hW1]; exact World.alloc_heap_new W _
 have hbr := run_beginRound (P := Tryz.prog) hL1 rfl
 obtain ⟨W2, hW2⟩ : ∃ W2, W1.putObj l (.loop { apRecK A B fn sv Bs D .ready none with state := .busy }) = W2 := ⟨_, rfl⟩
 rw [hW2] at hbr
 have hg1 : W.grownBy W1 none := by rw [← hW1]; exact World.grownBy_alloc W _ none
 have hg2 : W1.grownBy W2 (some l) := by rw [← hW2]; exact grownBy_putObj_a _ _ _
 have hk2 : KeepsWalks W W2 := by rw [← hW2]; exact KeepsWalks.trans (by rw [← hW1]; exact KeepsWalks.alloc _ _) (KeepsWalks.putObj _ hL1 rfl)
 have hv1 : W1.heap[Bs]? = some (.cells #[v] 147 (0, 0)) := by rw [← hW1]; exact (Below.heap_alloc _ _ _ hBlt0).trans hv
 have hv2 : W2.heap[Bs]? = some (.cells #[v] 147 (0, 0)) := by rw [← hW2]; exact (World.putObj_heap_other hBl).trans hv1
 have hK1 : W1.heap[D]? = some (.deferred (some [])) := by rw [← hW1]; exact (Below.heap_alloc _ _ _ hDlt0).trans h.K
 have hK2 : W2.heap[D]? = some (.deferred (some [])) := by rw [← hW2]; exact (World.putObj_heap_other hDl).trans hK1
 have hL2 : W2.heap[l]? = some (.loop { apRecK A B fn sv Bs D .ready none with state := .busy }) := by rw [← hW2]; exact World.putObj_heap_same (by have := (Array.getElem?_eq_some_iff.1 hL1).1; exact this)
 have hx2 : W2.heap[W.heap.size]? = some (.cells #[.string x.1, .string x.2] 61 (0, 0)) := by rw [← hW2]; exact (World.putObj_heap_other (by omega)).trans hx1
 have hrow1 : W1.ownsRow w0.heap.size 61 2 v ss.length (ss.flatMap celK) := by rw [← hW1]; exact hrow.alloc _
 have hrow2 : W2.ownsRow w0.heap.size 61 2 v ss.length (ss.flatMap celK) := hrow1.kept hg2 (ownsRow_ne_a hrow1 hL1 (fun cur e => by cases e))
 have hb1 : Below w0.heap.size w0 W1 := h.below.grown hg1 h.below.size (fun k e => by cases e)
 have hb2 : Below w0.heap.size w0 W2 := hb1.grown hg2 hb1.size (fun k e => by cases e; exact h0l)
 obtain ⟨hc2, hf2⟩ := cell_of_box_a hv2
 have hcx0 : W2.cell? ⟨W.heap.size, 0, none⟩ = some (.string x.1) := by simp [World.cell?, hx2]
 have hcx1 : W2.cell? ⟨W.heap.size, 1, none⟩ = some (.string x.2) := by simp [World.cell?, hx2]
 have hBlt : Bs < W2.heap.size := (Array.getElem?_eq_some_iff.1 hv2).1
 have hl2 : l < W2.heap.size := (Array.getElem?_eq_some_iff.1 hL2).1
 have hDlt : D < W2.heap.size := (Array.getElem?_eq_some_iff.1 hK2).1
 have ne_of : ∀ {j : Nat} {o : Obj}, W2.heap[j]? = some o → (∀ cur, o ≠ .cells cur 61 (0, 0)) → some j ≠ v.ownBlock := fun hj hno => by
  rcases ownsRow_ne_a hrow2 hj hno with e | e
  · rw [e]; simp
  · exact fun e' => e e'.symm
 clear hW2
 simp [Tryz.f309, rfParts] at hAB
 rw [← hAB.1, ← hAB.2]
 have HL := Lib.hid (And.intro hL2 hL1)
 have HA := Lib.hid hAB
 have Hb := Lib.hid (And.intro h.below (And.intro h.L h.K))
 clear hL2 h hAB hL1 hx1 hx2 hv hv1 hrow hrow1
 unfold encK
 gi_wp2_with (first
  | (gi_at_builtin; refine wpListIn_append_own _ rfl _ _ 147 rfl w0.heap.size 61 Tryz.t61 (.agg #[.string ⟨#[]⟩, .string ⟨#[]⟩]) 2 32 Tryz.underlying147 Tryz.type61 rfl rfl rfl rfl (by decide) _ _ _ rfl (hrow2.alloc _) ⟨W2.heap.size, 0, none⟩ 1 1 [.string x.1, .string x.2] rfl rfl (cell_two_new _ _ _ _) (by simp [Value.oneCell']) (by omega) (by omega) (by have := hb2.size; simp; omega) ?_; intro v' w3 hown' hg3 hnil3
     have hv3 : w3.heap[Bs]? = some (.cells #[v] 147 (0, 0)) := (hg3.block Bs (by simp; omega) (ne_of hv2 (fun cur e => by cases e))).trans ((Below.heap_alloc _ _ Bs hBlt).trans hv2)
     obtain ⟨hc3, hf3⟩ := cell_of_box_a hv3
     obtain ⟨g', cap', cur', rfl, hbase', hgb', hr1, hr2, hr3, hr4⟩ : ∃ g' cap' cur', v' = .slice (some ⟨g', 0, none⟩) (ss.length + 1) cap' ∧ w0.heap.size ≤ g' ∧ w3.heap[g']? = some (.cells cur' 61 (0, 0)) ∧ ss.length + 1 ≤ cap' ∧ cap' ≤ maxLen ∧ cur'.size = cap' * 2 ∧ cur'.toList.take ((ss.length + 1) * 2) = ss.flatMap celK ++ [.string x.1, .string x.2] := by
      rcases hown'.2 with ⟨_, h0⟩ | h'
      · exact absurd h0 (by omega)
      · exact h'
     go_frame)
  | gi_round_op_a)
 obtain ⟨hL2, hL1⟩ := HL.out
 have hg3' : (W2.alloc (.cells #[.string x.1, .string x.2] 61)).grownBy w3 v.ownBlock := hg3
 have hL3 : w3.heap[l]? = some (.loop { apRecK A B fn sv Bs D .ready none with state := .busy }) := (hg3'.block l (by simp; omega) (ne_of hL2 (fun cur e => by cases e))).trans ((Below.heap_alloc _ _ l hl2).trans hL2)
 have hK3 : w3.heap[D]? = some (.deferred (some [])) := (hg3'.block D (by simp; omega) (ne_of hK2 (fun cur e => by cases e))).trans ((Below.heap_alloc _ _ D hDlt).trans hK2)
 obtain ⟨w4, hw4⟩ : ∃ w4, w3.setCell ⟨Bs, 0, none⟩ (.slice (some ⟨g', 0, none⟩) (ss.length + 1) cap') = w4 := ⟨_, rfl⟩
 rw [hw4]
 have hg4 : w3.grownBy w4 (some Bs) := by rw [← hw4]; exact grownBy_setCell0_a _ _ _
 have hv4 : w4.heap[Bs]? = some (.cells #[.slice (some ⟨g', 0, none⟩) (ss.length + 1) cap'] 147 (0, 0)) := by rw [← hw4]; exact heap_setCell_box_a _ hv3
 have hL4 : w4.heap[l]? = some (.loop { apRecK A B fn sv Bs D .ready none with state := .busy }) := (hg4.block l (Array.getElem?_eq_some_iff.1 hL3).1 (fun e => hBl (by cases e; rfl))).trans hL3
 have hK4 : w4.heap[D]? = some (.deferred (some [])) := (hg4.block D (Array.getElem?_eq_some_iff.1 hK3).1 (fun e => hDB (by cases e; rfl))).trans hK3
 have hrow4 := hown'.kept hg4 (ownsRow_ne_a hown' hv3 (fun cur e => by cases e))
 have hl4 : l < w4.heap.size := (Array.getElem?_eq_some_iff.1 hL4).1
 have hb3 : Below w0.heap.size w0 w3 := (hb2.alloc hb2.size _).grown hg3' (by have := hb2.size; simp; omega) (fun k e => (hrow2.lt k e).1)
 have hb4 : Below w0.heap.size w0 w4 := hb3.grown hg4 hb3.size (fun k e => by cases e; exact h0B)
 have hk4 : KeepsWalks W w4 := ((hk2.trans (KeepsWalks.alloc _ _)).trans (KeepsWalks.of_grownBy hg3' (ownsRow_not_walk_a (hrow2.alloc _)))).trans (by rw [← hw4]; exact KeepsWalks.setCell _ _ _)
 clear hw4
 rw [hRR'.out]
 refine ⟨_, _, run_endRound none hL4, rfl, ⟨⟨_, (World.putObj_heap_other hBl).trans hv4, ?_, by simp⟩, World.putObj_heap_same hl4, (World.putObj_heap_other hDl).trans hK4, hb4.grown (grownBy_putObj_a _ _ _) hb4.size (fun k e => by cases e; exact h0l)⟩, hk4.trans (KeepsWalks.putObj _ hL4 rfl)⟩
 have := hrow4.kept (grownBy_putObj_a w4 l (.loop { { apRecK A B fn sv Bs D .ready none with state := .busy } with state := if (none : Option Code).isNone then .ready else .done, pending := none })) (ownsRow_ne_a hrow4 hL4 (fun cur e => by cases e))
 simpa [celK] using this
set_option maxRecDepth 100000 in
set_option maxHeartbeats 2000000 in
theorem appendK309 (n : Nat) (hn : 2 ≤ n) (g : Nat) (lb : Array Value) (eg : ∀ args w, (callFunc g args).run Tryz.prog w = .ok (.enter g args) w)
 (S : List (ByteArray × ByteArray) → Prop) (N : Nat) (hN : N ≤ maxLen) (hNb : N * 32 ≤ 140737488355328) (w : World) (hseq : SeqGives Fence.wide (n - 1) Tryz.prog g lb encK S N w) :
 CallsIn Fence.wide n Tryz.prog 309 #[.slice none 0 0, .func (.func g) #[] lb] w fun e w' => ∃ (v : Value) (ss : List (ByteArray × ByteArray)), e = .returned v ∧ S ss ∧ w'.ownsRow w.heap.size 61 2 v ss.length (ss.flatMap celK) ∧ (v = .slice none 0 0 ↔ ss = []) ∧ Below w.heap.size w w' := by
 have h1 : 1 ≤ n := by omega
 obtain ⟨A, B, hAB⟩ : ∃ A B, Tryz.f309.body.bind rfParts = some (A, B) := ⟨_, _, rfl⟩
 refine callsIn_of_wp_marks Tryz.func309 rfl trivial ?_ rfl
 simp only [Tryz.ntmps309, List.size_toArray, List.length_cons, List.length_nil, Nat.reduceAdd, Nat.reduceSub, Array.replicate_succ, Array.replicate_zero, List.push_toArray, List.append_toArray, List.nil_append, List.cons_append]
 have hAB' := hAB
 simp [Tryz.f309, rfParts] at hAB'
 rw [hAB'.1, hAB'.2]
 have HAB := Lib.hid hAB
 clear hAB hAB'
 gi_wp2
 refine wpIn_rangeFunc ?_
 intro fn hfn
 obtain ⟨W0, hW0⟩ : ∃ W0, w.alloc (.cells #[.slice none 0 0] 147) = W0 := ⟨_, rfl⟩
 have hs0 : W0.heap.size = w.heap.size + 1 := by rw [← hW0]; simp
 have hv0 : W0.heap[w.heap.size]? = some (.cells #[.slice none 0 0] 147 (0, 0)) := by rw [← hW0]; exact World.alloc_heap_new w _
 have hb0 : Below w.heap.size w W0 := by rw [← hW0]; exact (Below.refl _ w).alloc (Nat.le_refl _) _
 rw [hW0]
 obtain ⟨W1, hW1⟩ : ∃ W1, (W0.alloc (.deferred (some []))).alloc (.loop (apRecK A B fn (.func (.func g) #[] lb) w.heap.size W0.heap.size .ready none)) = W1 := ⟨_, rfl⟩
 have hold : ∀ k, k < W0.heap.size → W1.heap[k]? = W0.heap[k]? := fun k hk => by
  rw [← hW1]; exact (Below.heap_alloc _ _ k (by simp; omega)).trans (Below.heap_alloc _ _ k hk)
 have hb1 : Below w.heap.size w W1 := by rw [← hW1]; exact (hb0.alloc hb0.size _).alloc (by have := hb0.size; simp; omega) _
 have hs1 : W1.heap.size = W0.heap.size + 2 := by rw [← hW1]; simp
 have hM : ApAtK 147 61 A B w fn (.func (.func g) #[] lb) w.heap.size (W0.heap.size + 1) W0.heap.size [] W1 :=
  ⟨⟨_, (hold w.heap.size (by omega)).trans hv0, ⟨rfl, .inl ⟨rfl, rfl⟩⟩, by simp⟩,
   by rw [← hW1]; have := World.alloc_heap_new (W0.alloc (.deferred (some []))) (.loop (apRecK A B fn (.func (.func g) #[] lb) w.heap.size W0.heap.size .ready none)); rwa [World.size_alloc] at this,
   by rw [← hW1]; exact (Below.heap_alloc _ _ _ (by simp)).trans (World.alloc_heap_new W0 _), hb1⟩
 refine ⟨W0.heap.size + 1, [{ target := .collected W0.heap.size, args := #[] }], W1, { target := .fn (.func g) lb, args := #[.func (.yield (W0.heap.size + 1)) #[] #[]] }, W1, g,
  #[.func (.yield (W0.heap.size + 1)) #[] #[]] ++ lb, W1, ?_, ?_, ?_, ?_, fun _ => h1, ?_⟩
 · rw [← hW1]; exact run_enterLoop_outer _ _ _ _ _
 · simp [resolve, go_sem]
 · intro f' hf'; trivial
 · simp [invoke, go_sem, eg]
 · refine (hseq (W0.heap.size + 1) (ApAtK 147 61 A B w fn (.func (.func g) #[] lb) w.heap.size (W0.heap.size + 1) W0.heap.size) W1 hb1 (apK_abides 147 61 A B _ _ _ _ _ _ _ hb1.size)
    (fun pre x W hJ hl => apYieldK309 HAB.out (n - 1 - 1) w fn _ w.heap.size (W0.heap.size + 1) W0.heap.size (by omega) (by omega) (by omega) (Nat.le_refl _) (by omega) N hN hNb pre x W hJ hl) hM).mono ?_
   rintro e W2 ⟨⟨v0, rfl⟩, ss, hS, h2⟩
   obtain ⟨v, hv, hrow, hnil⟩ := h2.box
   have hend := run_endLoop (P := Tryz.prog) h2.L (by simp [apRecK])
   obtain ⟨W3, hW3⟩ : ∃ W3, W2.putObj (W0.heap.size + 1) (.loop { apRecK A B fn (.func (.func g) #[] lb) w.heap.size W0.heap.size .ready none with state := .exhausted }) = W3 := ⟨_, rfl⟩
   rw [hW3] at hend
   have hg3 : W2.grownBy W3 (some (W0.heap.size + 1)) := by rw [← hW3]; exact grownBy_putObj_a _ _ _
   have hv3 : W3.heap[w.heap.size]? = some (.cells #[v] 147 (0, 0)) := by rw [← hW3]; exact (World.putObj_heap_other (by omega)).trans hv
   have hK3 : W3.heap[W0.heap.size]? = some (.deferred (some [])) := by rw [← hW3]; exact (World.putObj_heap_other (by omega)).trans h2.K
   have hrow3 := hrow.kept hg3 (ownsRow_ne_a hrow h2.L (fun cur e => by cases e))
   have hb3 : Below w.heap.size w W3 := h2.below.grown hg3 h2.below.size (fun k e => by cases e; omega)
   obtain ⟨hc3, hf3⟩ := cell_of_box_a hv3
   clear hW3
   refine ⟨none, W3, hend, ?_⟩
   gi_wp2
   rw [← hs0]
   refine ⟨by simp, .inl ⟨_, _, rfl, run_takeDeferred hK3, ?_⟩⟩
   exact ⟨_, results_tmp rfl _ _ _, v, ss, rfl, hS, hrow3.kept (grownBy_putObj_a _ _ _) (ownsRow_ne_a hrow3 hK3 (fun cur e => by cases e)), hnil, hb3.grown (grownBy_putObj_a _ _ _) hb3.size (fun k e => by cases e; omega)⟩
set_option maxHeartbeats 1000000 in
theorem collectK243 (n : Nat) (hn : 3 ≤ n) (g : Nat) (lb : Array Value) (eg : ∀ args w, (callFunc g args).run Tryz.prog w = .ok (.enter g args) w)
 (S : List (ByteArray × ByteArray) → Prop) (N : Nat) (hN : N ≤ maxLen) (hNb : N * 32 ≤ 140737488355328) (w : World) (hseq : SeqGives Fence.wide (n - 1 - 1) Tryz.prog g lb encK S N w) :
 CallsIn Fence.wide n Tryz.prog 243 #[.func (.func g) #[] lb] w fun e w' => ∃ (v : Value) (ss : List (ByteArray × ByteArray)), e = .returned v ∧ S ss ∧ w'.ownsRow w.heap.size 61 2 v ss.length (ss.flatMap celK) ∧ (v = .slice none 0 0 ↔ ss = []) ∧ Below w.heap.size w w' := by
 have h1 : 1 ≤ n := by omega
 refine callsIn_of_wp Tryz.func243 rfl trivial ?_ rfl
 simp only [Tryz.ntmps243, List.size_toArray, List.length_cons, List.length_nil, Nat.reduceAdd, Nat.reduceSub, Array.replicate_succ, Array.replicate_zero, List.push_toArray, List.append_toArray, List.nil_append, List.cons_append]
 have h11 : Fence.wide.fn 309 := trivial
 have e11 : ∀ args w, (callFunc 309 args).run Tryz.prog w = .ok (.enter 309 args) w := enters_of Tryz.func309 (by kernel_rfl) rfl
 gi_wp2_with (gi_at_fn 309; refine (appendK309 (n - 1) (by omega) g lb eg S N hN hNb _ hseq).mono ?_; rintro e w' ⟨v, ss, rfl, hS, hrow, hnil, hb⟩)
 go_ret
 exact ⟨v, ss, rfl, hS, hrow, hnil, hb⟩
set_option maxRecDepth 100000 in
theorem sf169 : SfOk Tryz.prog 169 243 165 := by
 intro w s c C D hC hD
 refine (callsIn_wide (n := 9)).1 ?_
 refine callsIn_of_wp Tryz.func169 rfl trivial ?_ rfl
 have h1 : Fence.wide.fn 243 := trivial
 have h2 : Fence.wide.fn 165 := trivial
 have e1 : ∀ args w, (callFunc 243 args).run Tryz.prog w = .ok (.enter 243 args) w := enters_of Tryz.func243 (by kernel_rfl) rfl
 have e2 : ∀ args w, (callFunc 165 args).run Tryz.prog w = .ok (.enter 165 args) w := enters_of Tryz.func165 (by kernel_rfl) rfl
 simp only [Tryz.ntmps169, List.size_toArray, List.length_cons, List.length_nil, Nat.reduceAdd, Nat.reduceSub, Array.replicate_succ, Array.replicate_zero, List.push_toArray, List.append_toArray, List.nil_append, List.cons_append]
 gi_wp2_with (gi_at_fn 243; refine (callsIn_wide.2 hC).mono ?_; rintro e W ⟨v, rfl, hc⟩)
 have hS := hD v W hc
 gi_wp2_with (gi_at_fn 165; refine (callsIn_wide.2 hS).mono ?_; rintro e W ⟨⟨u, rfl⟩, hd⟩)
 go_ret
 exact ⟨v, rfl, hd⟩
theorem coll243_244 : CollOk Tryz.prog 243 244 61 := by
 intro w Bm b El c hcell hb hBn hk hsz
 refine (callsIn_wide (n := 9)).1 ?_
 have hBm : Bm < w.heap.size := by
  cases hx : w.heap[Bm]? with
  | none => simp [World.cell?, hx] at hcell
  | some y => exact (Array.getElem?_eq_some_iff.1 hx).1
 have hbl : b < w.heap.size := (Array.getElem?_eq_some_iff.1 hb).1
 refine (collectK243 9 (by omega) 244 #[.pointer (some ⟨Bm, 0, none⟩)] (enters_of Tryz.func244 (by kernel_rfl) rfl) (fun ss => ss.Perm (El.toList.map keyK)) El.size (by unfold maxLen; omega) (by omega) w ?_).mono ?_
 · intro l J W hW hJ hY h0
   exact keysK244 (9 - 1 - 1) (by omega) l Bm b c El hBn hk J hY W hJ ((hW.cell (p := ⟨Bm, 0, none⟩) hBm).trans hcell) ((hW.block b hbl).trans hb) h0
 · rintro e w' ⟨v, ss, rfl, hS, hrow, hnil, hbel⟩
   exact ⟨v, rfl, ss, hS, hrow, hnil, hbel⟩
theorem colls243 : ∀ it ∈ ([244] : List Nat), CollOk Tryz.prog 243 it 61 := by
 intro it h
 simp only [List.mem_cons, List.not_mem_nil, or_false] at h
 rcases h with rfl
 · exact coll243_244
theorem cmps169 : ∀ g ∈ ([166, 176] : List Nat), ∃ gn gc, Tryz.prog.funcs[g]? = some gn ∧ gn.body = some gc := by
 intro g h
 simp only [List.mem_cons, List.not_mem_nil, or_false] at h
 rcases h with rfl | rfl
 · exact ⟨_, _, Tryz.func166, rfl⟩
 · exact ⟨_, _, Tryz.func176, rfl⟩
theorem srtOk165 : SortOk Tryz.prog 165 2 := fun enc hk h1 cf hO g cb blk off cap d w eg hcmp hH hblk hsz => AnyQ.slices_SortFunc Tryz.sf165 2 Tryz.isAgg61 Tryz.sizeOf61 enc hk h1 cf hO g cb blk off cap d w eg hcmp hH hblk hsz
set_option maxRecDepth 100000 in
set_option maxHeartbeats 1000000 in
theorem keysK247 (n : Nat) (hn : 1 ≤ n) (l Bm bm clk : Nat) (El : Array MapEntry) (hB : Born El.toList clk) (hkf : ∀ e ∈ El.toList, e.key = encK (keyK e)) (J : List (ByteArray × ByteArray) → World → Prop)
 (hY : ∀ pre x W, J pre W → pre.length < El.size → YieldAt Fence.wide (n - 1) Tryz.prog l #[encK x] W fun e W' => e = .returned (.bool true) ∧ J (pre ++ [x]) W' ∧ KeepsWalks W W')
 (W : World) (hJ : AbidesFrom W.heap.size J) (hm : W.cell? ⟨Bm, 0, none⟩ = some (.map (some bm))) (hw : W.heap[bm]? = some (.map El clk)) (h0 : J [] W) :
 CallsIn Fence.wide n Tryz.prog 247 #[.func (.yield l) #[] #[], .pointer (some ⟨Bm, 0, none⟩)] W fun e W' => (∃ v, e = .returned v) ∧ ∃ ss : List (ByteArray × ByteArray), ss.Perm (El.toList.map keyK) ∧ J ss W' := by
 refine callsIn_of_wp Tryz.func247 rfl trivial ?_ rfl
 simp only [Tryz.ntmps247, List.size_toArray, List.length_cons, List.length_nil, Nat.reduceAdd, Nat.reduceSub, Array.replicate_succ, Array.replicate_zero, List.push_toArray, List.append_toArray, List.nil_append, List.cons_append]
 gi_wp2_with (first
  | (gi_at_range; refine wpListIn_range_at _ rfl _ 123 rfl 127 56 Tryz.underlying123 bm clk El rfl hw ?_; intro hI0)
  | gi_in)
 go_frame
 gi_loopw [3] (fun _ wr => ∃ es : List MapEntry, ItA wr W.heap.size bm El clk (es.map (·.born)) ∧ (∀ e ∈ es, e ∈ El.toList) ∧ (es.map (·.born)).Nodup ∧ J (es.map keyK) wr ∧ W.heap.size < wr.heap.size)
  (fun _ wr => El.size - (wr.iterSeen W.heap.size).size)
 case atStart =>
  exact ⟨[], hI0, by simp, by simp, hJ [] W _ none h0 (World.grownBy_alloc W _ none) (fun r e => by cases e), by simp⟩
 case round =>
  obtain ⟨es, hI, hin, hnd, hJs, hsz⟩ := hrel
  have hseen : ∀ {w : World} {seen : List Nat}, ItA w W.heap.size bm El clk seen → (w.iterSeen W.heap.size).size = seen.length := fun h => by
   unfold World.iterSeen
   rw [h.2]
   simp
  gi_wp2_with (first
   | (gi_at_next; refine wpListIn_next_at _ rfl _ rfl W.heap.size bm clk El _ rfl hI hB ?_ ?_)
   | gi_in)
  · intro hall
    have hp := part_all hB hin hnd (fun e he => by simpa using hall.out e (by simpa using he))
    clear hall
    gi_wp2
    go_end0
    exact ⟨⟨_, rfl⟩, es.map keyK, hp.map keyK, hJs⟩
  · intro j e w2 Hh hen
    obtain ⟨hj, hnew, hI2, hg2, hs2⟩ := Hh.out
    have he : e ∈ El.toList := List.mem_of_getElem? (i := j) (by simpa using hj)
    have hnew : e.born ∉ es.map (·.born) := by simpa using hnew
    have hlen : es.length < El.size := part_less hB hin hnd he hnew
    have hnd2 : ((es ++ [e]).map (·.born)).Nodup := by
     rw [List.map_append, List.nodup_append]
     exact ⟨hnd, by simp, fun a ha b hb hab => by subst hab; rw [List.map_singleton, List.mem_singleton] at hb; subst hb; exact hnew ha⟩
    have hin2 : ∀ x ∈ es ++ [e], x ∈ El.toList := fun x hx => by
     rcases List.mem_append.1 hx with h | h
     · exact hin x h
     · rw [List.mem_singleton] at h; subst h; exact he
    have hI2' : ItA w2 W.heap.size bm El clk ((es ++ [e]).map (·.born)) := by rw [List.map_append]; exact hI2
    have hJ2 : J (es.map keyK) w2 := hJ _ wr w2 (some W.heap.size) hJs hg2 (fun r e => by cases e; exact ⟨Nat.le_refl _, _, hI.2, rfl⟩)
    have hJ3 : J (es.map keyK) (w2.alloc (.cells #[.string (keyK e).1, .string (keyK e).2] 127)) := hJ _ w2 _ none hJ2 (World.grownBy_alloc w2 _ none) (fun r e => by cases e)
    obtain ⟨fn, tmps, assign, body, hy, hR⟩ := hY (es.map keyK) (keyK e) _ hJ3 (by rw [List.length_map]; exact hlen)
    have hI3 : ItA (w2.alloc (.cells #[.string (keyK e).1, .string (keyK e).2] 127)) W.heap.size bm El clk ((es ++ [e]).map (·.born)) :=
     ⟨(Below.heap_alloc _ _ _ (Array.getElem?_eq_some_iff.1 hI2'.1).1).trans hI2'.1, (Below.heap_alloc _ _ _ (Array.getElem?_eq_some_iff.1 hI2'.2).1).trans hI2'.2⟩
    have hs3 : W.heap.size < (w2.alloc (.cells #[.string (keyK e).1, .string (keyK e).2] 127)).heap.size := by simp; omega
    have hm1 : (wr.iterSeen W.heap.size).size = es.length := by rw [hseen hI, List.length_map]
    have hk := hkf e he
    rw [hk] at hen ⊢
    have H1 := Lib.hid (And.intro hnd2 (And.intro hin2 (And.intro hI3 (And.intro hs3 hm1))))
    clear hs2 hj hnew hnd2 hin2 he hI2 hg2 hI2' hI3 hs3 hJ2 hJ3 hm1 Hh
    unfold encK at hen hy ⊢
    gi_wp2
    refine hR.mono ?_
    rintro e' W3 ⟨rfl, hJ4, hk3⟩
    gi_wp2
    obtain ⟨g1, g2, g3, g4, g5⟩ := H1.out
    have g6 : ItA W3 W.heap.size bm El clk ((es ++ [e]).map (·.born)) := ⟨hk3.same _ _ g3.1 rfl, hk3.same _ _ g3.2 rfl⟩
    go_roundw
    case rel => exact ⟨es ++ [e], g6, g2, g1, by rw [List.map_append]; exact hJ4, by have := hk3.size; omega⟩
    case measure => rw [hseen g6, List.length_map, List.length_append]; simp; omega
set_option maxRecDepth 100000 in
set_option maxHeartbeats 2000000 in
theorem apYieldK310 {A B : Code} (hAB : Tryz.f310.body.bind rfParts = some (A, B)) (m : Nat) (w0 : World) (fn : FuncId) (sv : Value) (Bs l D : Nat) (hBl : Bs ≠ l) (hDl : D ≠ l) (hDB : D ≠ Bs) (h0B : w0.heap.size ≤ Bs) (h0l : w0.heap.size ≤ l)
 (N : Nat) (hN : N ≤ maxLen) (hNb : N * 32 ≤ 140737488355328) (ss : List (ByteArray × ByteArray)) (x : ByteArray × ByteArray) (W : World) (h : ApAtK 312 127 A B w0 fn sv Bs l D ss W) (hlen : ss.length < N) :
 YieldAt Fence.wide m Tryz.prog l #[encK x] W fun e W' => e = .returned (.bool true) ∧ ApAtK 312 127 A B w0 fn sv Bs l D (ss ++ [x]) W' ∧ KeepsWalks W W' := by
 obtain ⟨v, hv, hrow, _⟩ := h.box
 obtain ⟨RR, hRR⟩ : ∃ RR : Ending → World → Prop, RR = (fun e W' => e = .returned (.bool true) ∧ ApAtK 312 127 A B w0 fn sv Bs l D (ss ++ [x]) W' ∧ KeepsWalks W W') := ⟨_, rfl⟩
 rw [← hRR]
 refine ⟨fn, #[.slice none 0 0, sv, .pointer (some ⟨Bs, 0, none⟩), undef, .slice none 0 0, undef, sv, encK x, undef, undef, undef, undef, undef], A, B, by simpa [apRecK] using run_yield (P := Tryz.prog) (args := #[encK x]) h.L rfl, roundIn_of_wpIn trivial ?_⟩
 have hRR' := Lib.hid hRR
 clear hRR
 have hl : l < W.heap.size := (Array.getElem?_eq_some_iff.1 h.L).1
 have hBlt0 : Bs < W.heap.size := (Array.getElem?_eq_some_iff.1 hv).1
 have hDlt0 : D < W.heap.size := (Array.getElem?_eq_some_iff.1 h.K).1
 obtain ⟨W1, hW1⟩ : ∃ W1, W.alloc (.cells #[.string x.1, .string x.2] 127) = W1 := ⟨_, rfl⟩
 have hL1 : W1.heap[l]? = some (.loop (apRecK A B fn sv Bs D .ready none)) := by rw [← hW1]; exact (Below.heap_alloc _ _ _ hl).trans h.L
 have hx1 : W1.heap[W.heap.size]? = some (.cells #[.string x.1, .string x.2] 127 (0, 0)) := by rw [← hW1]; exact World.alloc_heap_new W _
 have hbr := run_beginRound (P := Tryz.prog) hL1 rfl
 obtain ⟨W2, hW2⟩ : ∃ W2, W1.putObj l (.loop { apRecK A B fn sv Bs D .ready none with state := .busy }) = W2 := ⟨_, rfl⟩
 rw [hW2] at hbr
 have hg1 : W.grownBy W1 none := by rw [← hW1]; exact World.grownBy_alloc W _ none
 have hg2 : W1.grownBy W2 (some l) := by rw [← hW2]; exact grownBy_putObj_a _ _ _
 have hk2 : KeepsWalks W W2 := by rw [← hW2]; exact KeepsWalks.trans (by rw [← hW1]; exact KeepsWalks.alloc _ _) (KeepsWalks.putObj _ hL1 rfl)
 have hv1 : W1.heap[Bs]? = some (.cells #[v] 312 (0, 0)) := by rw [← hW1]; exact (Below.heap_alloc _ _ _ hBlt0).trans hv
 have hv2 : W2.heap[Bs]? = some (.cells #[v] 312 (0, 0)) := by rw [← hW2]; exact (World.putObj_heap_other hBl).trans hv1
 have hK1 : W1.heap[D]? = some (.deferred (some [])) := by rw [← hW1]; exact (Below.heap_alloc _ _ _ hDlt0).trans h.K
 have hK2 : W2.heap[D]? = some (.deferred (some [])) := by rw [← hW2]; exact (World.putObj_heap_other hDl).trans hK1
 have hL2 : W2.heap[l]? = some (.loop { apRecK A B fn sv Bs D .ready none with state := .busy }) := by rw [← hW2]; exact World.putObj_heap_same (by have := (Array.getElem?_eq_some_iff.1 hL1).1; exact this)
 have hx2 : W2.heap[W.heap.size]? = some (.cells #[.string x.1, .string x.2] 127 (0, 0)) := by rw [← hW2]; exact (World.putObj_heap_other (by omega)).trans hx1
 have hrow1 : W1.ownsRow w0.heap.size 127 2 v ss.length (ss.flatMap celK) := by rw [← hW1]; exact hrow.alloc _
 have hrow2 : W2.ownsRow w0.heap.size 127 2 v ss.length (ss.flatMap celK) := hrow1.kept hg2 (ownsRow_ne_a hrow1 hL1 (fun cur e => by cases e))
 have hb1 : Below w0.heap.size w0 W1 := h.below.grown hg1 h.below.size (fun k e => by cases e)
 have hb2 : Below w0.heap.size w0 W2 := hb1.grown hg2 hb1.size (fun k e => by cases e; exact h0l)
 obtain ⟨hc2, hf2⟩ := cell_of_box_a hv2
 have hcx0 : W2.cell? ⟨W.heap.size, 0, none⟩ = some (.string x.1) := by simp [World.cell?, hx2]
 have hcx1 : W2.cell? ⟨W.heap.size, 1, none⟩ = some (.string x.2) := by simp [World.cell?, hx2]
 have hBlt : Bs < W2.heap.size := (Array.getElem?_eq_some_iff.1 hv2).1
 have hl2 : l < W2.heap.size := (Array.getElem?_eq_some_iff.1 hL2).1
 have hDlt : D < W2.heap.size := (Array.getElem?_eq_some_iff.1 hK2).1
 have ne_of : ∀ {j : Nat} {o : Obj}, W2.heap[j]? = some o → (∀ cur, o ≠ .cells cur 127 (0, 0)) → some j ≠ v.ownBlock := fun hj hno => by
  rcases ownsRow_ne_a hrow2 hj hno with e | e
  · rw [e]; simp
  · exact fun e' => e e'.symm
 clear hW2
 simp [Tryz.f310, rfParts] at hAB
 rw [← hAB.1, ← hAB.2]
 have HL := Lib.hid (And.intro hL2 hL1)
 have HA := Lib.hid hAB
 have Hb := Lib.hid (And.intro h.below (And.intro h.L h.K))
 clear hL2 h hAB hL1 hx1 hx2 hv hv1 hrow hrow1
 unfold encK
 gi_wp2_with (first
  | (gi_at_builtin; refine wpListIn_append_own _ rfl _ _ 312 rfl w0.heap.size 127 Tryz.t127 (.agg #[.string ⟨#[]⟩, .string ⟨#[]⟩]) 2 32 Tryz.underlying312 Tryz.type127 rfl rfl rfl rfl (by decide) _ _ _ rfl (hrow2.alloc _) ⟨W2.heap.size, 0, none⟩ 1 1 [.string x.1, .string x.2] rfl rfl (cell_two_new _ _ _ _) (by simp [Value.oneCell']) (by omega) (by omega) (by have := hb2.size; simp; omega) ?_; intro v' w3 hown' hg3 hnil3
     have hv3 : w3.heap[Bs]? = some (.cells #[v] 312 (0, 0)) := (hg3.block Bs (by simp; omega) (ne_of hv2 (fun cur e => by cases e))).trans ((Below.heap_alloc _ _ Bs hBlt).trans hv2)
     obtain ⟨hc3, hf3⟩ := cell_of_box_a hv3
     obtain ⟨g', cap', cur', rfl, hbase', hgb', hr1, hr2, hr3, hr4⟩ : ∃ g' cap' cur', v' = .slice (some ⟨g', 0, none⟩) (ss.length + 1) cap' ∧ w0.heap.size ≤ g' ∧ w3.heap[g']? = some (.cells cur' 127 (0, 0)) ∧ ss.length + 1 ≤ cap' ∧ cap' ≤ maxLen ∧ cur'.size = cap' * 2 ∧ cur'.toList.take ((ss.length + 1) * 2) = ss.flatMap celK ++ [.string x.1, .string x.2] := by
      rcases hown'.2 with ⟨_, h0⟩ | h'
      · exact absurd h0 (by omega)
      · exact h'
     go_frame)
  | gi_round_op_a)
 obtain ⟨hL2, hL1⟩ := HL.out
 have hg3' : (W2.alloc (.cells #[.string x.1, .string x.2] 127)).grownBy w3 v.ownBlock := hg3
 have hL3 : w3.heap[l]? = some (.loop { apRecK A B fn sv Bs D .ready none with state := .busy }) := (hg3'.block l (by simp; omega) (ne_of hL2 (fun cur e => by cases e))).trans ((Below.heap_alloc _ _ l hl2).trans hL2)
 have hK3 : w3.heap[D]? = some (.deferred (some [])) := (hg3'.block D (by simp; omega) (ne_of hK2 (fun cur e => by cases e))).trans ((Below.heap_alloc _ _ D hDlt).trans hK2)
 obtain ⟨w4, hw4⟩ : ∃ w4, w3.setCell ⟨Bs, 0, none⟩ (.slice (some ⟨g', 0, none⟩) (ss.length + 1) cap') = w4 := ⟨_, rfl⟩
 rw [hw4]
 have hg4 : w3.grownBy w4 (some Bs) := by rw [← hw4]; exact grownBy_setCell0_a _ _ _
 have hv4 : w4.heap[Bs]? = some (.cells #[.slice (some ⟨g', 0, none⟩) (ss.length + 1) cap'] 312 (0, 0)) := by rw [← hw4]; exact heap_setCell_box_a _ hv3
 have hL4 : w4.heap[l]? = some (.loop { apRecK A B fn sv Bs D .ready none with state := .busy }) := (hg4.block l (Array.getElem?_eq_some_iff.1 hL3).1 (fun e => hBl (by cases e; rfl))).trans hL3
 have hK4 : w4.heap[D]? = some (.deferred (some [])) := (hg4.block D (Array.getElem?_eq_some_iff.1 hK3).1 (fun e => hDB (by cases e; rfl))).trans hK3
 have hrow4 := hown'.kept hg4 (ownsRow_ne_a hown' hv3 (fun cur e => by cases e))
 have hl4 : l < w4.heap.size := (Array.getElem?_eq_some_iff.1 hL4).1
 have hb3 : Below w0.heap.size w0 w3 := (hb2.alloc hb2.size _).grown hg3' (by have := hb2.size; simp; omega) (fun k e => (hrow2.lt k e).1)
 have hb4 : Below w0.heap.size w0 w4 := hb3.grown hg4 hb3.size (fun k e => by cases e; exact h0B)
 have hk4 : KeepsWalks W w4 := ((hk2.trans (KeepsWalks.alloc _ _)).trans (KeepsWalks.of_grownBy hg3' (ownsRow_not_walk_a (hrow2.alloc _)))).trans (by rw [← hw4]; exact KeepsWalks.setCell _ _ _)
 clear hw4
 rw [hRR'.out]
 refine ⟨_, _, run_endRound none hL4, rfl, ⟨⟨_, (World.putObj_heap_other hBl).trans hv4, ?_, by simp⟩, World.putObj_heap_same hl4, (World.putObj_heap_other hDl).trans hK4, hb4.grown (grownBy_putObj_a _ _ _) hb4.size (fun k e => by cases e; exact h0l)⟩, hk4.trans (KeepsWalks.putObj _ hL4 rfl)⟩
 have := hrow4.kept (grownBy_putObj_a w4 l (.loop { { apRecK A B fn sv Bs D .ready none with state := .busy } with state := if (none : Option Code).isNone then .ready else .done, pending := none })) (ownsRow_ne_a hrow4 hL4 (fun cur e => by cases e))
 simpa [celK] using this
set_option maxRecDepth 100000 in
set_option maxHeartbeats 2000000 in
theorem appendK310 (n : Nat) (hn : 2 ≤ n) (g : Nat) (lb : Array Value) (eg : ∀ args w, (callFunc g args).run Tryz.prog w = .ok (.enter g args) w)
 (S : List (ByteArray × ByteArray) → Prop) (N : Nat) (hN : N ≤ maxLen) (hNb : N * 32 ≤ 140737488355328) (w : World) (hseq : SeqGives Fence.wide (n - 1) Tryz.prog g lb encK S N w) :
 CallsIn Fence.wide n Tryz.prog 310 #[.slice none 0 0, .func (.func g) #[] lb] w fun e w' => ∃ (v : Value) (ss : List (ByteArray × ByteArray)), e = .returned v ∧ S ss ∧ w'.ownsRow w.heap.size 127 2 v ss.length (ss.flatMap celK) ∧ (v = .slice none 0 0 ↔ ss = []) ∧ Below w.heap.size w w' := by
 have h1 : 1 ≤ n := by omega
 obtain ⟨A, B, hAB⟩ : ∃ A B, Tryz.f310.body.bind rfParts = some (A, B) := ⟨_, _, rfl⟩
 refine callsIn_of_wp_marks Tryz.func310 rfl trivial ?_ rfl
 simp only [Tryz.ntmps310, List.size_toArray, List.length_cons, List.length_nil, Nat.reduceAdd, Nat.reduceSub, Array.replicate_succ, Array.replicate_zero, List.push_toArray, List.append_toArray, List.nil_append, List.cons_append]
 have hAB' := hAB
 simp [Tryz.f310, rfParts] at hAB'
 rw [hAB'.1, hAB'.2]
 have HAB := Lib.hid hAB
 clear hAB hAB'
 gi_wp2
 refine wpIn_rangeFunc ?_
 intro fn hfn
 obtain ⟨W0, hW0⟩ : ∃ W0, w.alloc (.cells #[.slice none 0 0] 312) = W0 := ⟨_, rfl⟩
 have hs0 : W0.heap.size = w.heap.size + 1 := by rw [← hW0]; simp
 have hv0 : W0.heap[w.heap.size]? = some (.cells #[.slice none 0 0] 312 (0, 0)) := by rw [← hW0]; exact World.alloc_heap_new w _
 have hb0 : Below w.heap.size w W0 := by rw [← hW0]; exact (Below.refl _ w).alloc (Nat.le_refl _) _
 rw [hW0]
 obtain ⟨W1, hW1⟩ : ∃ W1, (W0.alloc (.deferred (some []))).alloc (.loop (apRecK A B fn (.func (.func g) #[] lb) w.heap.size W0.heap.size .ready none)) = W1 := ⟨_, rfl⟩
 have hold : ∀ k, k < W0.heap.size → W1.heap[k]? = W0.heap[k]? := fun k hk => by
  rw [← hW1]; exact (Below.heap_alloc _ _ k (by simp; omega)).trans (Below.heap_alloc _ _ k hk)
 have hb1 : Below w.heap.size w W1 := by rw [← hW1]; exact (hb0.alloc hb0.size _).alloc (by have := hb0.size; simp; omega) _
 have hs1 : W1.heap.size = W0.heap.size + 2 := by rw [← hW1]; simp
 have hM : ApAtK 312 127 A B w fn (.func (.func g) #[] lb) w.heap.size (W0.heap.size + 1) W0.heap.size [] W1 :=
  ⟨⟨_, (hold w.heap.size (by omega)).trans hv0, ⟨rfl, .inl ⟨rfl, rfl⟩⟩, by simp⟩,
   by rw [← hW1]; have := World.alloc_heap_new (W0.alloc (.deferred (some []))) (.loop (apRecK A B fn (.func (.func g) #[] lb) w.heap.size W0.heap.size .ready none)); rwa [World.size_alloc] at this,
   by rw [← hW1]; exact (Below.heap_alloc _ _ _ (by simp)).trans (World.alloc_heap_new W0 _), hb1⟩
 refine ⟨W0.heap.size + 1, [{ target := .collected W0.heap.size, args := #[] }], W1, { target := .fn (.func g) lb, args := #[.func (.yield (W0.heap.size + 1)) #[] #[]] }, W1, g,
  #[.func (.yield (W0.heap.size + 1)) #[] #[]] ++ lb, W1, ?_, ?_, ?_, ?_, fun _ => h1, ?_⟩
 · rw [← hW1]; exact run_enterLoop_outer _ _ _ _ _
 · simp [resolve, go_sem]
 · intro f' hf'; trivial
 · simp [invoke, go_sem, eg]
 · refine (hseq (W0.heap.size + 1) (ApAtK 312 127 A B w fn (.func (.func g) #[] lb) w.heap.size (W0.heap.size + 1) W0.heap.size) W1 hb1 (apK_abides 312 127 A B _ _ _ _ _ _ _ hb1.size)
    (fun pre x W hJ hl => apYieldK310 HAB.out (n - 1 - 1) w fn _ w.heap.size (W0.heap.size + 1) W0.heap.size (by omega) (by omega) (by omega) (Nat.le_refl _) (by omega) N hN hNb pre x W hJ hl) hM).mono ?_
   rintro e W2 ⟨⟨v0, rfl⟩, ss, hS, h2⟩
   obtain ⟨v, hv, hrow, hnil⟩ := h2.box
   have hend := run_endLoop (P := Tryz.prog) h2.L (by simp [apRecK])
   obtain ⟨W3, hW3⟩ : ∃ W3, W2.putObj (W0.heap.size + 1) (.loop { apRecK A B fn (.func (.func g) #[] lb) w.heap.size W0.heap.size .ready none with state := .exhausted }) = W3 := ⟨_, rfl⟩
   rw [hW3] at hend
   have hg3 : W2.grownBy W3 (some (W0.heap.size + 1)) := by rw [← hW3]; exact grownBy_putObj_a _ _ _
   have hv3 : W3.heap[w.heap.size]? = some (.cells #[v] 312 (0, 0)) := by rw [← hW3]; exact (World.putObj_heap_other (by omega)).trans hv
   have hK3 : W3.heap[W0.heap.size]? = some (.deferred (some [])) := by rw [← hW3]; exact (World.putObj_heap_other (by omega)).trans h2.K
   have hrow3 := hrow.kept hg3 (ownsRow_ne_a hrow h2.L (fun cur e => by cases e))
   have hb3 : Below w.heap.size w W3 := h2.below.grown hg3 h2.below.size (fun k e => by cases e; omega)
   obtain ⟨hc3, hf3⟩ := cell_of_box_a hv3
   clear hW3
   refine ⟨none, W3, hend, ?_⟩
   gi_wp2
   rw [← hs0]
   refine ⟨by simp, .inl ⟨_, _, rfl, run_takeDeferred hK3, ?_⟩⟩
   exact ⟨_, results_tmp rfl _ _ _, v, ss, rfl, hS, hrow3.kept (grownBy_putObj_a _ _ _) (ownsRow_ne_a hrow3 hK3 (fun cur e => by cases e)), hnil, hb3.grown (grownBy_putObj_a _ _ _) hb3.size (fun k e => by cases e; omega)⟩
set_option maxHeartbeats 1000000 in
theorem collectK245 (n : Nat) (hn : 3 ≤ n) (g : Nat) (lb : Array Value) (eg : ∀ args w, (callFunc g args).run Tryz.prog w = .ok (.enter g args) w)
 (S : List (ByteArray × ByteArray) → Prop) (N : Nat) (hN : N ≤ maxLen) (hNb : N * 32 ≤ 140737488355328) (w : World) (hseq : SeqGives Fence.wide (n - 1 - 1) Tryz.prog g lb encK S N w) :
 CallsIn Fence.wide n Tryz.prog 245 #[.func (.func g) #[] lb] w fun e w' => ∃ (v : Value) (ss : List (ByteArray × ByteArray)), e = .returned v ∧ S ss ∧ w'.ownsRow w.heap.size 127 2 v ss.length (ss.flatMap celK) ∧ (v = .slice none 0 0 ↔ ss = []) ∧ Below w.heap.size w w' := by
 have h1 : 1 ≤ n := by omega
 refine callsIn_of_wp Tryz.func245 rfl trivial ?_ rfl
 simp only [Tryz.ntmps245, List.size_toArray, List.length_cons, List.length_nil, Nat.reduceAdd, Nat.reduceSub, Array.replicate_succ, Array.replicate_zero, List.push_toArray, List.append_toArray, List.nil_append, List.cons_append]
 have h11 : Fence.wide.fn 310 := trivial
 have e11 : ∀ args w, (callFunc 310 args).run Tryz.prog w = .ok (.enter 310 args) w := enters_of Tryz.func310 (by kernel_rfl) rfl
 gi_wp2_with (gi_at_fn 310; refine (appendK310 (n - 1) (by omega) g lb eg S N hN hNb _ hseq).mono ?_; rintro e w' ⟨v, ss, rfl, hS, hrow, hnil, hb⟩)
 go_ret
 exact ⟨v, ss, rfl, hS, hrow, hnil, hb⟩
set_option maxRecDepth 100000 in
theorem sf174 : SfOk Tryz.prog 174 245 246 := by
 intro w s c C D hC hD
 refine (callsIn_wide (n := 9)).1 ?_
 refine callsIn_of_wp Tryz.func174 rfl trivial ?_ rfl
 have h1 : Fence.wide.fn 245 := trivial
 have h2 : Fence.wide.fn 246 := trivial
 have e1 : ∀ args w, (callFunc 245 args).run Tryz.prog w = .ok (.enter 245 args) w := enters_of Tryz.func245 (by kernel_rfl) rfl
 have e2 : ∀ args w, (callFunc 246 args).run Tryz.prog w = .ok (.enter 246 args) w := enters_of Tryz.func246 (by kernel_rfl) rfl
 simp only [Tryz.ntmps174, List.size_toArray, List.length_cons, List.length_nil, Nat.reduceAdd, Nat.reduceSub, Array.replicate_succ, Array.replicate_zero, List.push_toArray, List.append_toArray, List.nil_append, List.cons_append]
 gi_wp2_with (gi_at_fn 245; refine (callsIn_wide.2 hC).mono ?_; rintro e W ⟨v, rfl, hc⟩)
 have hS := hD v W hc
 gi_wp2_with (gi_at_fn 246; refine (callsIn_wide.2 hS).mono ?_; rintro e W ⟨⟨u, rfl⟩, hd⟩)
 go_ret
 exact ⟨v, rfl, hd⟩
theorem coll245_247 : CollOk Tryz.prog 245 247 127 := by
 intro w Bm b El c hcell hb hBn hk hsz
 refine (callsIn_wide (n := 9)).1 ?_
 have hBm : Bm < w.heap.size := by
  cases hx : w.heap[Bm]? with
  | none => simp [World.cell?, hx] at hcell
  | some y => exact (Array.getElem?_eq_some_iff.1 hx).1
 have hbl : b < w.heap.size := (Array.getElem?_eq_some_iff.1 hb).1
 refine (collectK245 9 (by omega) 247 #[.pointer (some ⟨Bm, 0, none⟩)] (enters_of Tryz.func247 (by kernel_rfl) rfl) (fun ss => ss.Perm (El.toList.map keyK)) El.size (by unfold maxLen; omega) (by omega) w ?_).mono ?_
 · intro l J W hW hJ hY h0
   exact keysK247 (9 - 1 - 1) (by omega) l Bm b c El hBn hk J hY W hJ ((hW.cell (p := ⟨Bm, 0, none⟩) hBm).trans hcell) ((hW.block b hbl).trans hb) h0
 · rintro e w' ⟨v, ss, rfl, hS, hrow, hnil, hbel⟩
   exact ⟨v, rfl, ss, hS, hrow, hnil, hbel⟩
theorem colls245 : ∀ it ∈ ([247] : List Nat), CollOk Tryz.prog 245 it 127 := by
 intro it h
 simp only [List.mem_cons, List.not_mem_nil, or_false] at h
 rcases h with rfl
 · exact coll245_247
theorem cmps174 : ∀ g ∈ ([166, 176] : List Nat), ∃ gn gc, Tryz.prog.funcs[g]? = some gn ∧ gn.body = some gc := by
 intro g h
 simp only [List.mem_cons, List.not_mem_nil, or_false] at h
 rcases h with rfl | rfl
 · exact ⟨_, _, Tryz.func166, rfl⟩
 · exact ⟨_, _, Tryz.func176, rfl⟩
theorem srtOk246 : SortOk Tryz.prog 246 2 := fun enc hk h1 cf hO g cb blk off cap d w eg hcmp hH hblk hsz => AnyQ.slices_SortFunc Tryz.sf246 2 Tryz.isAgg127 Tryz.sizeOf127 enc hk h1 cf hO g cb blk off cap d w eg hcmp hH hblk hsz
def row315 : RowC := ⟨0, 1, 1, none, 0, .undef⟩
theorem sorts315 : ∀ o, (none : Option Nat) = some o → SortsOk Tryz.prog row315 := fun _ h => nomatch h
def row316 : RowC := ⟨378, 5, 56, none, 411, .func (.func 412) [] []⟩
theorem sorts316 : ∀ o, (some 7 : Option Nat) = some o → SortsOk Tryz.prog row316 := fun _ _ =>
 ⟨by decide, fun enc hk h1 cf hO g cb blk off cap d w eg hcmp hH hblk hsz => AnyQ.slices_SortFunc Tryz.sf411 5 Tryz.isAgg378 Tryz.sizeOf378 enc hk h1 cf hO g cb blk off cap d w eg hcmp hH hblk hsz,
  enters_of Tryz.func411 (by kernel_rfl) rfl, fun g h => by cases h; exact enters_of Tryz.func412 (by kernel_rfl) rfl⟩
def row86 : RowC := ⟨61, 2, 32, none, 165, .func (.func 166) [] []⟩
theorem sorts86 : ∀ o, (some 5 : Option Nat) = some o → SortsOk Tryz.prog row86 := fun _ _ =>
 ⟨by decide, fun enc hk h1 cf hO g cb blk off cap d w eg hcmp hH hblk hsz => AnyQ.slices_SortFunc Tryz.sf165 2 Tryz.isAgg61 Tryz.sizeOf61 enc hk h1 cf hO g cb blk off cap d w eg hcmp hH hblk hsz,
  enters_of Tryz.func165 (by kernel_rfl) rfl, fun g h => by cases h; exact enters_of Tryz.func166 (by kernel_rfl) rfl⟩
noncomputable def mapsH (bd : List (Int × Int)) (ge : List (Int × List (Nat × Int))) (nl : List NL) (x : Nat → Option (Gv.Call → List V → H → RV)) : Nat → Option (Gv.Call → List V → H → RV) := orHk (oneH 315 (mapH (evE Tryz.prog (fun _ => none) bd ge nl) (callN (evE Tryz.prog (fun _ => none) [] [] []) 100) row315 (none) Tryz.f315)) (orHk (oneH 316 (mapH (evE Tryz.prog (fun _ => none) bd ge nl) (callN (evE Tryz.prog (fun _ => none) [] [] []) 100) row316 (some 7) Tryz.f316)) (orHk (oneH 86 (mapH (evE Tryz.prog (fun _ => none) bd ge nl) (callN (evE Tryz.prog (fun _ => none) [] [] []) 100) row86 (some 5) Tryz.f86)) (orHk (oneH 502 (permG (evE Tryz.prog (fun _ => none) bd ge nl) Tryz.f502)) (orHk (oneH 566 (roH (evR Tryz.prog bd ge nl) 566)) (x)))))
set_option maxRecDepth 100000 in
theorem mapsH_ok {G : Gh} {bd : List (Int × Int)} {ge : List (Int × List (Nat × Int))} {nl : List NL} {x : Nat → Option (Gv.Call → List V → H → RV)} (F : Facts G bd ge nl) (hx : HooksOk Tryz.prog G x) (hm : ¬ G.mono := by exact fun h => h) : HooksOk Tryz.prog G (mapsH bd ge nl x) := by
 have _F := F
 have _h := hm
 unfold mapsH
 exact orHk_ok (oneH_ok (mapH_ok progOk F Tryz.func315 rfl rfl sorts315 hm)) (orHk_ok (oneH_ok (mapH_ok progOk F Tryz.func316 rfl rfl sorts316 hm)) (orHk_ok (oneH_ok (mapH_ok progOk F Tryz.func86 rfl rfl sorts86 hm)) (orHk_ok (oneH_ok (permG_ok (evE_ok progOk F.ends (geOk_at F.ge) (nlOk_at F.nl)) progOk Tryz.func502 rfl)) (orHk_ok (oneH_ok (roH_ok progOk F 566)) (hx)))))
def nilH : Nat → Option (Gv.Call → List V → H → RV) := fun _ => none
theorem nilH_ok {G : Gh} : HooksOk Tryz.prog G nilH := noHooks
noncomputable def lib0 : Nat → Option (Gv.Call → List V → H → RV) := orHk (oneH 174 (sfH (callN (evE Tryz.prog (fun _ => none) [] [] []) 100) [247] [166, 176] 245 246)) nilH
set_option maxRecDepth 100000 in
theorem lib0_ok {G : Gh} (hm : ¬ G.mono) : HooksOk Tryz.prog G lib0 := by
 have _h := hm
 unfold lib0
 refine orHk_ok ?_ nilH_ok
 exact oneH_ok (sfH_ok hm progOk Tryz.func174 rfl Tryz.func245 rfl Tryz.func246 rfl sf174 colls245 srtOk246 cmps174)
noncomputable def lib1 : Nat → Option (Gv.Call → List V → H → RV) := orHk (oneH 169 (sfH (callN (evE Tryz.prog (fun _ => none) [] [] []) 100) [244] [166, 176] 243 165)) lib0
set_option maxRecDepth 100000 in
theorem lib1_ok {G : Gh} (hm : ¬ G.mono) : HooksOk Tryz.prog G lib1 := by
 have _h := hm
 unfold lib1
 refine orHk_ok ?_ (lib0_ok hm)
 exact oneH_ok (sfH_ok hm progOk Tryz.func169 rfl Tryz.func243 rfl Tryz.func165 rfl sf169 colls243 srtOk165 cmps169)
noncomputable def lib2 : Nat → Option (Gv.Call → List V → H → RV) := orHk (oneH 310 (appH iters)) lib1
set_option maxRecDepth 100000 in
theorem lib2_ok {G : Gh} (hm : ¬ G.mono) : HooksOk Tryz.prog G lib2 := by
 have _h := hm
 unfold lib2
 refine orHk_ok ?_ (lib1_ok hm)
 exact oneH_ok (appH_ok hm progOk Tryz.func310 rfl iters_in app310)
noncomputable def lib3 : Nat → Option (Gv.Call → List V → H → RV) := orHk (oneH 309 (appH iters)) lib2
set_option maxRecDepth 100000 in
theorem lib3_ok {G : Gh} (hm : ¬ G.mono) : HooksOk Tryz.prog G lib3 := by
 have _h := hm
 unfold lib3
 refine orHk_ok ?_ (lib2_ok hm)
 exact oneH_ok (appH_ok hm progOk Tryz.func309 rfl iters_in app309)
noncomputable def lib4 : Nat → Option (Gv.Call → List V → H → RV) := orHk (oneH 307 (appH iters)) lib3
set_option maxRecDepth 100000 in
theorem lib4_ok {G : Gh} (hm : ¬ G.mono) : HooksOk Tryz.prog G lib4 := by
 have _h := hm
 unfold lib4
 refine orHk_ok ?_ (lib3_ok hm)
 exact oneH_ok (appH_ok hm progOk Tryz.func307 rfl iters_in app307)
noncomputable def lib5 : Nat → Option (Gv.Call → List V → H → RV) := orHk (oneH 291 (appH iters)) lib4
set_option maxRecDepth 100000 in
theorem lib5_ok {G : Gh} (hm : ¬ G.mono) : HooksOk Tryz.prog G lib5 := by
 have _h := hm
 unfold lib5
 refine orHk_ok ?_ (lib4_ok hm)
 exact oneH_ok (appH_ok hm progOk Tryz.func291 rfl iters_in app291)
noncomputable def lib6 : Nat → Option (Gv.Call → List V → H → RV) := orHk (oneH 167 (sortedH [242, 293, 294, 295, 536])) lib5
set_option maxRecDepth 100000 in
theorem lib6_ok {G : Gh} (hm : ¬ G.mono) : HooksOk Tryz.prog G lib6 := by
 have _h := hm
 unfold lib6
 refine orHk_ok ?_ (lib5_ok hm)
 exact oneH_ok (sortedH_ok hm progOk Tryz.func167 rfl sortedAll)
noncomputable def lib7 : Nat → Option (Gv.Call → List V → H → RV) := orHk (oneH 226 strH) lib6
set_option maxRecDepth 100000 in
theorem lib7_ok {G : Gh} (hm : ¬ G.mono) : HooksOk Tryz.prog G lib7 := by
 have _h := hm
 unfold lib7
 refine orHk_ok ?_ (lib6_ok hm)
 exact oneH_ok (strH_ok hm progOk Tryz.func226 rfl Tryz.stringslite_Clone)
noncomputable def lib8 : Nat → Option (Gv.Call → List V → H → RV) := orHk (oneH 533 (mulE (evE Tryz.prog (fun _ => none) [] [] []))) lib7
set_option maxRecDepth 100000 in
theorem lib8_ok {G : Gh} (hm : ¬ G.mono) : HooksOk Tryz.prog G lib8 := by
 have _h := hm
 unfold lib8
 refine orHk_ok ?_ (lib7_ok hm)
 exact oneH_ok (mulE_ok (evE_ok progOk (fun i lo hi e => by simp at e) (fun f hf => by cases hf) (fun n hn => by cases hn)) progOk Tryz.func533 rfl mulOk)
noncomputable def lib9 : Nat → Option (Gv.Call → List V → H → RV) := orHk (oneH 78 cloneH) lib8
set_option maxRecDepth 100000 in
theorem lib9_ok {G : Gh} (hm : ¬ G.mono) : HooksOk Tryz.prog G lib9 := by
 have _h := hm
 unfold lib9
 refine orHk_ok ?_ (lib8_ok hm)
 exact oneH_ok (@cloneH_ok Tryz.prog G 78 ext78)
noncomputable def lib10 : Nat → Option (Gv.Call → List V → H → RV) := orHk (oneH 460 addH) lib9
set_option maxRecDepth 100000 in
theorem lib10_ok {G : Gh} (hm : ¬ G.mono) : HooksOk Tryz.prog G lib10 := by
 have _h := hm
 unfold lib10
 refine orHk_ok ?_ (lib9_ok hm)
 exact oneH_ok (@addH_ok Tryz.prog G 460 ext460)
noncomputable def libH (x : Nat → Option (Gv.Call → List V → H → RV)) : Nat → Option (Gv.Call → List V → H → RV) := orHk x lib10
set_option maxRecDepth 100000 in
theorem libH_ok {G : Gh} {x : Nat → Option (Gv.Call → List V → H → RV)} (hx : HooksOk Tryz.prog G x) (hm : ¬ G.mono := by exact fun h => h) : HooksOk Tryz.prog G (libH x) := by
 unfold libH
 exact orHk_ok hx (lib10_ok hm)
noncomputable def libS (bd : List (Int × Int)) (ge : List (Int × List (Nat × Int))) (x : Nat → Option (Gv.Call → List V → H → RV)) : Nat → Option (Gv.Call → List V → H → RV) := orHk (oneH 460 (addE (evE Tryz.prog (fun _ => none) bd ge []))) (orHk (oneH 533 (mulE (evE Tryz.prog (fun _ => none) bd ge []))) (libH x))
set_option maxRecDepth 100000 in
theorem libS_ok {G : Gh} {bd : List (Int × Int)} {ge : List (Int × List (Nat × Int))} {nl : List NL} {x : Nat → Option (Gv.Call → List V → H → RV)} (F : Facts G bd ge nl) (hx : HooksOk Tryz.prog G x) (hm : ¬ G.mono := by exact fun h => h) : HooksOk Tryz.prog G (libS bd ge x) := by
 unfold libS
 exact orHk_ok (oneH_ok (@addE_ok Tryz.prog G _ (env_ok progOk F) 460 ext460)) (orHk_ok (oneH_ok (mulE_ok (env_ok progOk F) progOk Tryz.func533 rfl mulOk)) (libH_ok hx hm))
end Go.Proofs.YtmfmjhklajmhoaaGreat
