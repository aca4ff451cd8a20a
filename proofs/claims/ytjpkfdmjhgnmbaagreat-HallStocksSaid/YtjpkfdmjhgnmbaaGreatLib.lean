/- The library's hooks at this seat's program: bits.Add64, maps.clone, strings.Clone, slices.Sorted over a map's keys, slices.AppendSeq where nothing comes. -/
import Derived.Test.YtjpkfdmjhgnmbaaGreatGvNores
import Derived.Test.YtjpkfdmjhgnmbaaGreatLay
import Derived.Maps.AppendAt
import Derived.Shelf.SlIter.Collect
namespace Go.Proofs.YtjpkfdmjhgnmbaaGreat
open Go.RowKit Go.Maps Go.Sort Go.Shelf Gv
theorem progOk : ProgOk Tryz.prog := ⟨of_decide_eq_true (by kernel_rfl), by kernel_rfl, by kernel_rfl⟩
theorem ext123 : ExtOk Tryz.prog 123 add64Entry := ExtOk.mk' progOk Tryz.func123 rfl (by kernel_rfl) (by kernel_rfl)
theorem ext356 : ExtOk Tryz.prog 356 Extern.MapsClone.clone := ExtOk.mk' progOk Tryz.func356 rfl (by kernel_rfl) (by kernel_rfl)
theorem sorts (m : Nat) : AnyZ.SortsIn Tryz.prog Tryz.sorted241_ren Fence.wide m :=
  ⟨fun blk off cap ss W hH hblk hsz => callsIn_wide.2 (AnyM.slices_Sort_string Tryz.sort358 blk off cap ss W hH hblk hsz),
   fun p cap W => callsIn_wide.2 (AnyM.slices_Sort_string_none Tryz.sort358 p cap W)⟩
theorem sorted359 : SortedOk Tryz.prog 241 359 9 where
  many := by
    intro w Bm b El c hcell hb hs hk hsz
    obtain ⟨D0, hown, hperm, hlen⟩ := owns_of Tryz.underlying9 hb hs hk hsz
    have hBm : Bm < w.heap.size := by
      cases hx : w.heap[Bm]? with
      | none => simp [World.cell?, hx] at hcell
      | some y => exact (Array.getElem?_eq_some_iff.1 hx).1
    have hseq : SeqGives Fence.wide 2 Tryz.prog 359 #[.pointer (some ⟨Bm, 0, none⟩)] encStr (fun ss => ss.Perm (strKeys D0)) (Maps.size D0) w :=
      AnyZ.keys_gives (ρ := Tryz.keys242_ren) { Tryz.keys242 with } Fence.wide _ trivial rfl (by omega) Bm b _ D0 w hBm hcell hown
    have h := AnyZ.sorted_in Tryz.sorted241 Fence.wide 5 trivial trivial trivial trivial rfl (by omega) (sorts _) (enters_of Tryz.func358 (by kernel_rfl) rfl) 359 #[.pointer (some ⟨Bm, 0, none⟩)] trivial (enters_of Tryz.func359 (by kernel_rfl) rfl) _ _ (by rw [hlen]; unfold maxLen; omega) (by rw [hlen]; omega) w hseq
    refine (callsIn_wide.1 h).mono ?_
    rintro e w' ⟨v, ss, rfl, hS, hrow, hnil, hB⟩
    refine ⟨v, ss.mergeSort (fun x y => decide (x ≤ y)), rfl, (List.mergeSort_perm _ _).trans (hS.trans hperm), sorted_le ss, ?_, ?_, hB⟩
    · rw [List.length_mergeSort]; exact hrow
    · rw [hnil, ← List.length_eq_zero_iff, ← List.length_eq_zero_iff, List.length_mergeSort]
  nil := by
    intro w Bm hcell
    have hBm : Bm < w.heap.size := by
      cases hx : w.heap[Bm]? with
      | none => simp [World.cell?, hx] at hcell
      | some y => exact (Array.getElem?_eq_some_iff.1 hx).1
    have hseq : SeqGives Fence.wide 2 Tryz.prog 359 #[.pointer (some ⟨Bm, 0, none⟩)] encStr (fun ss : List (List UInt8) => ss = []) 0 w :=
      AnyZ.keys_gives_nil (ρ := Tryz.keys242_ren) { Tryz.keys242 with } Fence.wide _ trivial rfl Bm _ hBm hcell
    have h := AnyZ.sorted_in Tryz.sorted241 Fence.wide 5 trivial trivial trivial trivial rfl (by omega) (sorts _) (enters_of Tryz.func358 (by kernel_rfl) rfl) 359 #[.pointer (some ⟨Bm, 0, none⟩)] trivial (enters_of Tryz.func359 (by kernel_rfl) rfl) _ 0 (Nat.zero_le _) (by omega) w hseq
    refine (callsIn_wide.1 h).mono ?_
    rintro e w' ⟨v, ss, rfl, hS, _, hnil, hB⟩
    exact ⟨by rw [hnil.2 hS], hB⟩
theorem sorted469 : SortedOk Tryz.prog 241 469 9 where
  many := by
    intro w Bm b El c hcell hb hs hk hsz
    obtain ⟨D0, hown, hperm, hlen⟩ := owns_of Tryz.underlying9 hb hs hk hsz
    have hBm : Bm < w.heap.size := by
      cases hx : w.heap[Bm]? with
      | none => simp [World.cell?, hx] at hcell
      | some y => exact (Array.getElem?_eq_some_iff.1 hx).1
    have hseq : SeqGives Fence.wide 2 Tryz.prog 469 #[.pointer (some ⟨Bm, 0, none⟩)] encStr (fun ss => ss.Perm (strKeys D0)) (Maps.size D0) w :=
      AnyZ.keys_gives (ρ := Tryz.keys407_ren) { Tryz.keys407 with } Fence.wide _ trivial rfl (by omega) Bm b _ D0 w hBm hcell hown
    have h := AnyZ.sorted_in Tryz.sorted241 Fence.wide 5 trivial trivial trivial trivial rfl (by omega) (sorts _) (enters_of Tryz.func358 (by kernel_rfl) rfl) 469 #[.pointer (some ⟨Bm, 0, none⟩)] trivial (enters_of Tryz.func469 (by kernel_rfl) rfl) _ _ (by rw [hlen]; unfold maxLen; omega) (by rw [hlen]; omega) w hseq
    refine (callsIn_wide.1 h).mono ?_
    rintro e w' ⟨v, ss, rfl, hS, hrow, hnil, hB⟩
    refine ⟨v, ss.mergeSort (fun x y => decide (x ≤ y)), rfl, (List.mergeSort_perm _ _).trans (hS.trans hperm), sorted_le ss, ?_, ?_, hB⟩
    · rw [List.length_mergeSort]; exact hrow
    · rw [hnil, ← List.length_eq_zero_iff, ← List.length_eq_zero_iff, List.length_mergeSort]
  nil := by
    intro w Bm hcell
    have hBm : Bm < w.heap.size := by
      cases hx : w.heap[Bm]? with
      | none => simp [World.cell?, hx] at hcell
      | some y => exact (Array.getElem?_eq_some_iff.1 hx).1
    have hseq : SeqGives Fence.wide 2 Tryz.prog 469 #[.pointer (some ⟨Bm, 0, none⟩)] encStr (fun ss : List (List UInt8) => ss = []) 0 w :=
      AnyZ.keys_gives_nil (ρ := Tryz.keys407_ren) { Tryz.keys407 with } Fence.wide _ trivial rfl Bm _ hBm hcell
    have h := AnyZ.sorted_in Tryz.sorted241 Fence.wide 5 trivial trivial trivial trivial rfl (by omega) (sorts _) (enters_of Tryz.func358 (by kernel_rfl) rfl) 469 #[.pointer (some ⟨Bm, 0, none⟩)] trivial (enters_of Tryz.func469 (by kernel_rfl) rfl) _ 0 (Nat.zero_le _) (by omega) w hseq
    refine (callsIn_wide.1 h).mono ?_
    rintro e w' ⟨v, ss, rfl, hS, _, hnil, hB⟩
    exact ⟨by rw [hnil.2 hS], hB⟩
theorem sorted491 : SortedOk Tryz.prog 241 491 9 where
  many := by
    intro w Bm b El c hcell hb hs hk hsz
    obtain ⟨D0, hown, hperm, hlen⟩ := owns_of Tryz.underlying9 hb hs hk hsz
    have hBm : Bm < w.heap.size := by
      cases hx : w.heap[Bm]? with
      | none => simp [World.cell?, hx] at hcell
      | some y => exact (Array.getElem?_eq_some_iff.1 hx).1
    have hseq : SeqGives Fence.wide 2 Tryz.prog 491 #[.pointer (some ⟨Bm, 0, none⟩)] encStr (fun ss => ss.Perm (strKeys D0)) (Maps.size D0) w :=
      AnyZ.keys_gives (ρ := Tryz.keys437_ren) { Tryz.keys437 with } Fence.wide _ trivial rfl (by omega) Bm b _ D0 w hBm hcell hown
    have h := AnyZ.sorted_in Tryz.sorted241 Fence.wide 5 trivial trivial trivial trivial rfl (by omega) (sorts _) (enters_of Tryz.func358 (by kernel_rfl) rfl) 491 #[.pointer (some ⟨Bm, 0, none⟩)] trivial (enters_of Tryz.func491 (by kernel_rfl) rfl) _ _ (by rw [hlen]; unfold maxLen; omega) (by rw [hlen]; omega) w hseq
    refine (callsIn_wide.1 h).mono ?_
    rintro e w' ⟨v, ss, rfl, hS, hrow, hnil, hB⟩
    refine ⟨v, ss.mergeSort (fun x y => decide (x ≤ y)), rfl, (List.mergeSort_perm _ _).trans (hS.trans hperm), sorted_le ss, ?_, ?_, hB⟩
    · rw [List.length_mergeSort]; exact hrow
    · rw [hnil, ← List.length_eq_zero_iff, ← List.length_eq_zero_iff, List.length_mergeSort]
  nil := by
    intro w Bm hcell
    have hBm : Bm < w.heap.size := by
      cases hx : w.heap[Bm]? with
      | none => simp [World.cell?, hx] at hcell
      | some y => exact (Array.getElem?_eq_some_iff.1 hx).1
    have hseq : SeqGives Fence.wide 2 Tryz.prog 491 #[.pointer (some ⟨Bm, 0, none⟩)] encStr (fun ss : List (List UInt8) => ss = []) 0 w :=
      AnyZ.keys_gives_nil (ρ := Tryz.keys437_ren) { Tryz.keys437 with } Fence.wide _ trivial rfl Bm _ hBm hcell
    have h := AnyZ.sorted_in Tryz.sorted241 Fence.wide 5 trivial trivial trivial trivial rfl (by omega) (sorts _) (enters_of Tryz.func358 (by kernel_rfl) rfl) 491 #[.pointer (some ⟨Bm, 0, none⟩)] trivial (enters_of Tryz.func491 (by kernel_rfl) rfl) _ 0 (Nat.zero_le _) (by omega) w hseq
    refine (callsIn_wide.1 h).mono ?_
    rintro e w' ⟨v, ss, rfl, hS, _, hnil, hB⟩
    exact ⟨by rw [hnil.2 hS], hB⟩
theorem sorted543 : SortedOk Tryz.prog 241 543 9 where
  many := by
    intro w Bm b El c hcell hb hs hk hsz
    obtain ⟨D0, hown, hperm, hlen⟩ := owns_of Tryz.underlying9 hb hs hk hsz
    have hBm : Bm < w.heap.size := by
      cases hx : w.heap[Bm]? with
      | none => simp [World.cell?, hx] at hcell
      | some y => exact (Array.getElem?_eq_some_iff.1 hx).1
    have hseq : SeqGives Fence.wide 2 Tryz.prog 543 #[.pointer (some ⟨Bm, 0, none⟩)] encStr (fun ss => ss.Perm (strKeys D0)) (Maps.size D0) w :=
      AnyZ.keys_gives (ρ := Tryz.keys488_ren) { Tryz.keys488 with } Fence.wide _ trivial rfl (by omega) Bm b _ D0 w hBm hcell hown
    have h := AnyZ.sorted_in Tryz.sorted241 Fence.wide 5 trivial trivial trivial trivial rfl (by omega) (sorts _) (enters_of Tryz.func358 (by kernel_rfl) rfl) 543 #[.pointer (some ⟨Bm, 0, none⟩)] trivial (enters_of Tryz.func543 (by kernel_rfl) rfl) _ _ (by rw [hlen]; unfold maxLen; omega) (by rw [hlen]; omega) w hseq
    refine (callsIn_wide.1 h).mono ?_
    rintro e w' ⟨v, ss, rfl, hS, hrow, hnil, hB⟩
    refine ⟨v, ss.mergeSort (fun x y => decide (x ≤ y)), rfl, (List.mergeSort_perm _ _).trans (hS.trans hperm), sorted_le ss, ?_, ?_, hB⟩
    · rw [List.length_mergeSort]; exact hrow
    · rw [hnil, ← List.length_eq_zero_iff, ← List.length_eq_zero_iff, List.length_mergeSort]
  nil := by
    intro w Bm hcell
    have hBm : Bm < w.heap.size := by
      cases hx : w.heap[Bm]? with
      | none => simp [World.cell?, hx] at hcell
      | some y => exact (Array.getElem?_eq_some_iff.1 hx).1
    have hseq : SeqGives Fence.wide 2 Tryz.prog 543 #[.pointer (some ⟨Bm, 0, none⟩)] encStr (fun ss : List (List UInt8) => ss = []) 0 w :=
      AnyZ.keys_gives_nil (ρ := Tryz.keys488_ren) { Tryz.keys488 with } Fence.wide _ trivial rfl Bm _ hBm hcell
    have h := AnyZ.sorted_in Tryz.sorted241 Fence.wide 5 trivial trivial trivial trivial rfl (by omega) (sorts _) (enters_of Tryz.func358 (by kernel_rfl) rfl) 543 #[.pointer (some ⟨Bm, 0, none⟩)] trivial (enters_of Tryz.func543 (by kernel_rfl) rfl) _ 0 (Nat.zero_le _) (by omega) w hseq
    refine (callsIn_wide.1 h).mono ?_
    rintro e w' ⟨v, ss, rfl, hS, _, hnil, hB⟩
    exact ⟨by rw [hnil.2 hS], hB⟩
theorem sorted544 : SortedOk Tryz.prog 241 544 9 where
  many := by
    intro w Bm b El c hcell hb hs hk hsz
    obtain ⟨D0, hown, hperm, hlen⟩ := owns_of Tryz.underlying9 hb hs hk hsz
    have hBm : Bm < w.heap.size := by
      cases hx : w.heap[Bm]? with
      | none => simp [World.cell?, hx] at hcell
      | some y => exact (Array.getElem?_eq_some_iff.1 hx).1
    have hseq : SeqGives Fence.wide 2 Tryz.prog 544 #[.pointer (some ⟨Bm, 0, none⟩)] encStr (fun ss => ss.Perm (strKeys D0)) (Maps.size D0) w :=
      AnyZ.keys_gives (ρ := Tryz.keys490_ren) { Tryz.keys490 with } Fence.wide _ trivial rfl (by omega) Bm b _ D0 w hBm hcell hown
    have h := AnyZ.sorted_in Tryz.sorted241 Fence.wide 5 trivial trivial trivial trivial rfl (by omega) (sorts _) (enters_of Tryz.func358 (by kernel_rfl) rfl) 544 #[.pointer (some ⟨Bm, 0, none⟩)] trivial (enters_of Tryz.func544 (by kernel_rfl) rfl) _ _ (by rw [hlen]; unfold maxLen; omega) (by rw [hlen]; omega) w hseq
    refine (callsIn_wide.1 h).mono ?_
    rintro e w' ⟨v, ss, rfl, hS, hrow, hnil, hB⟩
    refine ⟨v, ss.mergeSort (fun x y => decide (x ≤ y)), rfl, (List.mergeSort_perm _ _).trans (hS.trans hperm), sorted_le ss, ?_, ?_, hB⟩
    · rw [List.length_mergeSort]; exact hrow
    · rw [hnil, ← List.length_eq_zero_iff, ← List.length_eq_zero_iff, List.length_mergeSort]
  nil := by
    intro w Bm hcell
    have hBm : Bm < w.heap.size := by
      cases hx : w.heap[Bm]? with
      | none => simp [World.cell?, hx] at hcell
      | some y => exact (Array.getElem?_eq_some_iff.1 hx).1
    have hseq : SeqGives Fence.wide 2 Tryz.prog 544 #[.pointer (some ⟨Bm, 0, none⟩)] encStr (fun ss : List (List UInt8) => ss = []) 0 w :=
      AnyZ.keys_gives_nil (ρ := Tryz.keys490_ren) { Tryz.keys490 with } Fence.wide _ trivial rfl Bm _ hBm hcell
    have h := AnyZ.sorted_in Tryz.sorted241 Fence.wide 5 trivial trivial trivial trivial rfl (by omega) (sorts _) (enters_of Tryz.func358 (by kernel_rfl) rfl) 544 #[.pointer (some ⟨Bm, 0, none⟩)] trivial (enters_of Tryz.func544 (by kernel_rfl) rfl) _ 0 (Nat.zero_le _) (by omega) w hseq
    refine (callsIn_wide.1 h).mono ?_
    rintro e w' ⟨v, ss, rfl, hS, _, hnil, hB⟩
    exact ⟨by rw [hnil.2 hS], hB⟩
theorem sortedAll : ∀ g ∈ ([359, 469, 491, 543, 544] : List Nat), SortedOk Tryz.prog 241 g 9 := by
  intro g hg
  simp only [List.mem_cons, List.not_mem_nil, or_false] at hg
  rcases hg with rfl | rfl | rfl | rfl | rfl
  · exact sorted359
  · exact sorted469
  · exact sorted491
  · exact sorted543
  · exact sorted544
def iters : List Nat := [159, 321, 359, 469, 487, 491, 543, 544]
theorem iters_in : ∀ k ∈ iters, ∃ fn c, Tryz.prog.funcs[k]? = some fn ∧ fn.body = some c := by
  intro k hk
  simp only [iters, List.mem_cons, List.not_mem_nil, or_false] at hk
  rcases hk with rfl | rfl | rfl | rfl | rfl | rfl | rfl | rfl
  · exact ⟨_, _, Tryz.func159, rfl⟩
  · exact ⟨_, _, Tryz.func321, rfl⟩
  · exact ⟨_, _, Tryz.func359, rfl⟩
  · exact ⟨_, _, Tryz.func469, rfl⟩
  · exact ⟨_, _, Tryz.func487, rfl⟩
  · exact ⟨_, _, Tryz.func491, rfl⟩
  · exact ⟨_, _, Tryz.func543, rfl⟩
  · exact ⟨_, _, Tryz.func544, rfl⟩
set_option maxRecDepth 100000 in
set_option maxHeartbeats 2000000 in
theorem app285 : AppOk Tryz.prog 285 := by
  intro g lb w R eg hcall
  refine (callsIn_wide (n := 3)).1 ?_
  refine callsIn_of_wp_marks Tryz.func285 rfl trivial ?_ rfl
  simp only [Tryz.ntmps285, List.size_toArray, List.length_cons, List.length_nil, Nat.reduceAdd, Nat.reduceSub, Array.replicate_succ, Array.replicate_zero, List.push_toArray, List.append_toArray, List.nil_append, List.cons_append]
  gi_wp2
  obtain ⟨W0, hW0⟩ : ∃ W0, w.alloc (.cells #[.slice none 0 0] 129) = W0 := ⟨_, rfl⟩
  have hs0 : W0.heap.size = w.heap.size + 1 := by rw [← hW0]; simp
  have hv0 : W0.heap[w.heap.size]? = some (.cells #[.slice none 0 0] 129 (0, 0)) := by rw [← hW0]; exact World.alloc_heap_new w _
  have hb0 : Below w.heap.size w W0 := by rw [← hW0]; exact (Below.refl _ w).alloc (Nat.le_refl _) _
  rw [hW0]
  refine rangeFunc_nothing rfl eg fun W1 hb1 hs1 hdef => ?_
  refine (hcall (W0.heap.size + 1) W1 (by omega) (by omega) (hb0.trans (hb1.mono (by omega)))).mono ?_
  rintro e W2 ⟨⟨v0, rfl⟩, hk, hsz2, hR⟩
  refine ⟨⟨v0, rfl⟩, hk _ (by omega) (by omega), fun W3 h3 => ?_⟩
  have hd3 : W3.heap[W0.heap.size]? = some (.deferred (some [])) := (h3.block _ (by omega)).trans ((hk W0.heap.size (by omega) (by omega)).trans hdef)
  have hv3 : W3.heap[w.heap.size]? = some (.cells #[.slice none 0 0] 129 (0, 0)) := (h3.block _ (by omega)).trans ((hk w.heap.size (by omega) (by omega)).trans ((hb1.block w.heap.size (by omega)).trans hv0))
  obtain ⟨hc3, hf3⟩ := cell_of_box_a hv3
  have H3 := Lib.hid h3
  have HR := Lib.hid hR
  clear h3 hR
  gi_wp2
  refine ⟨by simp, .inl ⟨_, _, rfl, run_takeDeferred hd3, ?_⟩⟩
  refine ⟨_, results_tmp rfl _ _ _, rfl, W0.heap.size + 1, W1, W2, by omega, by omega, hb0.trans (hb1.mono (by omega)), HR.out, H3.out.os, H3.out.tape, H3.out.output, by simp [World.putObj, H3.out.size], fun k hk' => ?_⟩
  exact (World.putObj_heap_other (by omega)).trans (H3.out.block k (by omega))
set_option maxRecDepth 100000 in
set_option maxHeartbeats 2000000 in
theorem app418 : AppOk Tryz.prog 418 := by
  intro g lb w R eg hcall
  refine (callsIn_wide (n := 3)).1 ?_
  refine callsIn_of_wp_marks Tryz.func418 rfl trivial ?_ rfl
  simp only [Tryz.ntmps418, List.size_toArray, List.length_cons, List.length_nil, Nat.reduceAdd, Nat.reduceSub, Array.replicate_succ, Array.replicate_zero, List.push_toArray, List.append_toArray, List.nil_append, List.cons_append]
  gi_wp2
  obtain ⟨W0, hW0⟩ : ∃ W0, w.alloc (.cells #[.slice none 0 0] 289) = W0 := ⟨_, rfl⟩
  have hs0 : W0.heap.size = w.heap.size + 1 := by rw [← hW0]; simp
  have hv0 : W0.heap[w.heap.size]? = some (.cells #[.slice none 0 0] 289 (0, 0)) := by rw [← hW0]; exact World.alloc_heap_new w _
  have hb0 : Below w.heap.size w W0 := by rw [← hW0]; exact (Below.refl _ w).alloc (Nat.le_refl _) _
  rw [hW0]
  refine rangeFunc_nothing rfl eg fun W1 hb1 hs1 hdef => ?_
  refine (hcall (W0.heap.size + 1) W1 (by omega) (by omega) (hb0.trans (hb1.mono (by omega)))).mono ?_
  rintro e W2 ⟨⟨v0, rfl⟩, hk, hsz2, hR⟩
  refine ⟨⟨v0, rfl⟩, hk _ (by omega) (by omega), fun W3 h3 => ?_⟩
  have hd3 : W3.heap[W0.heap.size]? = some (.deferred (some [])) := (h3.block _ (by omega)).trans ((hk W0.heap.size (by omega) (by omega)).trans hdef)
  have hv3 : W3.heap[w.heap.size]? = some (.cells #[.slice none 0 0] 289 (0, 0)) := (h3.block _ (by omega)).trans ((hk w.heap.size (by omega) (by omega)).trans ((hb1.block w.heap.size (by omega)).trans hv0))
  obtain ⟨hc3, hf3⟩ := cell_of_box_a hv3
  have H3 := Lib.hid h3
  have HR := Lib.hid hR
  clear h3 hR
  gi_wp2
  refine ⟨by simp, .inl ⟨_, _, rfl, run_takeDeferred hd3, ?_⟩⟩
  refine ⟨_, results_tmp rfl _ _ _, rfl, W0.heap.size + 1, W1, W2, by omega, by omega, hb0.trans (hb1.mono (by omega)), HR.out, H3.out.os, H3.out.tape, H3.out.output, by simp [World.putObj, H3.out.size], fun k hk' => ?_⟩
  exact (World.putObj_heap_other (by omega)).trans (H3.out.block k (by omega))
set_option maxRecDepth 100000 in
set_option maxHeartbeats 2000000 in
theorem app440 : AppOk Tryz.prog 440 := by
  intro g lb w R eg hcall
  refine (callsIn_wide (n := 3)).1 ?_
  refine callsIn_of_wp_marks Tryz.func440 rfl trivial ?_ rfl
  simp only [Tryz.ntmps440, List.size_toArray, List.length_cons, List.length_nil, Nat.reduceAdd, Nat.reduceSub, Array.replicate_succ, Array.replicate_zero, List.push_toArray, List.append_toArray, List.nil_append, List.cons_append]
  gi_wp2
  obtain ⟨W0, hW0⟩ : ∃ W0, w.alloc (.cells #[.slice none 0 0] 194) = W0 := ⟨_, rfl⟩
  have hs0 : W0.heap.size = w.heap.size + 1 := by rw [← hW0]; simp
  have hv0 : W0.heap[w.heap.size]? = some (.cells #[.slice none 0 0] 194 (0, 0)) := by rw [← hW0]; exact World.alloc_heap_new w _
  have hb0 : Below w.heap.size w W0 := by rw [← hW0]; exact (Below.refl _ w).alloc (Nat.le_refl _) _
  rw [hW0]
  refine rangeFunc_nothing rfl eg fun W1 hb1 hs1 hdef => ?_
  refine (hcall (W0.heap.size + 1) W1 (by omega) (by omega) (hb0.trans (hb1.mono (by omega)))).mono ?_
  rintro e W2 ⟨⟨v0, rfl⟩, hk, hsz2, hR⟩
  refine ⟨⟨v0, rfl⟩, hk _ (by omega) (by omega), fun W3 h3 => ?_⟩
  have hd3 : W3.heap[W0.heap.size]? = some (.deferred (some [])) := (h3.block _ (by omega)).trans ((hk W0.heap.size (by omega) (by omega)).trans hdef)
  have hv3 : W3.heap[w.heap.size]? = some (.cells #[.slice none 0 0] 194 (0, 0)) := (h3.block _ (by omega)).trans ((hk w.heap.size (by omega) (by omega)).trans ((hb1.block w.heap.size (by omega)).trans hv0))
  obtain ⟨hc3, hf3⟩ := cell_of_box_a hv3
  have H3 := Lib.hid h3
  have HR := Lib.hid hR
  clear h3 hR
  gi_wp2
  refine ⟨by simp, .inl ⟨_, _, rfl, run_takeDeferred hd3, ?_⟩⟩
  refine ⟨_, results_tmp rfl _ _ _, rfl, W0.heap.size + 1, W1, W2, by omega, by omega, hb0.trans (hb1.mono (by omega)), HR.out, H3.out.os, H3.out.tape, H3.out.output, by simp [World.putObj, H3.out.size], fun k hk' => ?_⟩
  exact (World.putObj_heap_other (by omega)).trans (H3.out.block k (by omega))
set_option maxRecDepth 100000 in
set_option maxHeartbeats 2000000 in
theorem app542 : AppOk Tryz.prog 542 := by
  intro g lb w R eg hcall
  refine (callsIn_wide (n := 3)).1 ?_
  refine callsIn_of_wp_marks Tryz.func542 rfl trivial ?_ rfl
  simp only [Tryz.ntmps542, List.size_toArray, List.length_cons, List.length_nil, Nat.reduceAdd, Nat.reduceSub, Array.replicate_succ, Array.replicate_zero, List.push_toArray, List.append_toArray, List.nil_append, List.cons_append]
  gi_wp2
  obtain ⟨W0, hW0⟩ : ∃ W0, w.alloc (.cells #[.slice none 0 0] 64) = W0 := ⟨_, rfl⟩
  have hs0 : W0.heap.size = w.heap.size + 1 := by rw [← hW0]; simp
  have hv0 : W0.heap[w.heap.size]? = some (.cells #[.slice none 0 0] 64 (0, 0)) := by rw [← hW0]; exact World.alloc_heap_new w _
  have hb0 : Below w.heap.size w W0 := by rw [← hW0]; exact (Below.refl _ w).alloc (Nat.le_refl _) _
  rw [hW0]
  refine rangeFunc_nothing rfl eg fun W1 hb1 hs1 hdef => ?_
  refine (hcall (W0.heap.size + 1) W1 (by omega) (by omega) (hb0.trans (hb1.mono (by omega)))).mono ?_
  rintro e W2 ⟨⟨v0, rfl⟩, hk, hsz2, hR⟩
  refine ⟨⟨v0, rfl⟩, hk _ (by omega) (by omega), fun W3 h3 => ?_⟩
  have hd3 : W3.heap[W0.heap.size]? = some (.deferred (some [])) := (h3.block _ (by omega)).trans ((hk W0.heap.size (by omega) (by omega)).trans hdef)
  have hv3 : W3.heap[w.heap.size]? = some (.cells #[.slice none 0 0] 64 (0, 0)) := (h3.block _ (by omega)).trans ((hk w.heap.size (by omega) (by omega)).trans ((hb1.block w.heap.size (by omega)).trans hv0))
  obtain ⟨hc3, hf3⟩ := cell_of_box_a hv3
  have H3 := Lib.hid h3
  have HR := Lib.hid hR
  clear h3 hR
  gi_wp2
  refine ⟨by simp, .inl ⟨_, _, rfl, run_takeDeferred hd3, ?_⟩⟩
  refine ⟨_, results_tmp rfl _ _ _, rfl, W0.heap.size + 1, W1, W2, by omega, by omega, hb0.trans (hb1.mono (by omega)), HR.out, H3.out.os, H3.out.tape, H3.out.output, by simp [World.putObj, H3.out.size], fun k hk' => ?_⟩
  exact (World.putObj_heap_other (by omega)).trans (H3.out.block k (by omega))
def nilH : Nat → Option (Gv.Call → List V → H → RV) := fun _ => none
theorem nilH_ok {G : Gh} : HooksOk Tryz.prog G nilH := noHooks
noncomputable def lib0 : Nat → Option (Gv.Call → List V → H → RV) := orHk (oneH 542 (appH iters)) nilH
set_option maxRecDepth 100000 in
theorem lib0_ok {G : Gh} : HooksOk Tryz.prog G lib0 := by
  unfold lib0
  refine orHk_ok ?_ nilH_ok
  exact oneH_ok (appH_ok progOk Tryz.func542 rfl iters_in app542)
noncomputable def lib1 : Nat → Option (Gv.Call → List V → H → RV) := orHk (oneH 440 (appH iters)) lib0
set_option maxRecDepth 100000 in
theorem lib1_ok {G : Gh} : HooksOk Tryz.prog G lib1 := by
  unfold lib1
  refine orHk_ok ?_ lib0_ok
  exact oneH_ok (appH_ok progOk Tryz.func440 rfl iters_in app440)
noncomputable def lib2 : Nat → Option (Gv.Call → List V → H → RV) := orHk (oneH 418 (appH iters)) lib1
set_option maxRecDepth 100000 in
theorem lib2_ok {G : Gh} : HooksOk Tryz.prog G lib2 := by
  unfold lib2
  refine orHk_ok ?_ lib1_ok
  exact oneH_ok (appH_ok progOk Tryz.func418 rfl iters_in app418)
noncomputable def lib3 : Nat → Option (Gv.Call → List V → H → RV) := orHk (oneH 285 (appH iters)) lib2
set_option maxRecDepth 100000 in
theorem lib3_ok {G : Gh} : HooksOk Tryz.prog G lib3 := by
  unfold lib3
  refine orHk_ok ?_ lib2_ok
  exact oneH_ok (appH_ok progOk Tryz.func285 rfl iters_in app285)
noncomputable def lib4 : Nat → Option (Gv.Call → List V → H → RV) := orHk (oneH 241 (sortedH [359, 469, 491, 543, 544])) lib3
set_option maxRecDepth 100000 in
theorem lib4_ok {G : Gh} : HooksOk Tryz.prog G lib4 := by
  unfold lib4
  refine orHk_ok ?_ lib3_ok
  exact oneH_ok (sortedH_ok progOk Tryz.func241 rfl sortedAll)
noncomputable def lib5 : Nat → Option (Gv.Call → List V → H → RV) := orHk (oneH 240 strH) lib4
set_option maxRecDepth 100000 in
theorem lib5_ok {G : Gh} : HooksOk Tryz.prog G lib5 := by
  unfold lib5
  refine orHk_ok ?_ lib4_ok
  exact oneH_ok (strH_ok progOk Tryz.func240 rfl Tryz.stringslite_Clone)
noncomputable def lib6 : Nat → Option (Gv.Call → List V → H → RV) := orHk (oneH 356 cloneH) lib5
set_option maxRecDepth 100000 in
theorem lib6_ok {G : Gh} : HooksOk Tryz.prog G lib6 := by
  unfold lib6
  refine orHk_ok ?_ lib5_ok
  exact oneH_ok (@cloneH_ok Tryz.prog G 356 ext356)
noncomputable def lib7 : Nat → Option (Gv.Call → List V → H → RV) := orHk (oneH 123 addH) lib6
set_option maxRecDepth 100000 in
theorem lib7_ok {G : Gh} : HooksOk Tryz.prog G lib7 := by
  unfold lib7
  refine orHk_ok ?_ lib6_ok
  exact oneH_ok (@addH_ok Tryz.prog G 123 ext123)
/-- The library's hooks, and more of the caller's ahead. -/
noncomputable def libH (x : Nat → Option (Gv.Call → List V → H → RV)) : Nat → Option (Gv.Call → List V → H → RV) := orHk x lib7
set_option maxRecDepth 100000 in
theorem libH_ok {G : Gh} {x : Nat → Option (Gv.Call → List V → H → RV)} (hx : HooksOk Tryz.prog G x) : HooksOk Tryz.prog G (libH x) := by
  unfold libH
  exact orHk_ok hx lib7_ok
/-- The same, and bits.Add64 at linear forms. -/
noncomputable def libS (bd : List (Int × Int)) (ge : List (Int × List (Nat × Int))) (x : Nat → Option (Gv.Call → List V → H → RV)) : Nat → Option (Gv.Call → List V → H → RV) := orHk (oneH 123 (addE (evE Tryz.prog (fun _ => none) bd ge []))) (libH x)
set_option maxRecDepth 100000 in
theorem libS_ok {G : Gh} {bd : List (Int × Int)} {ge : List (Int × List (Nat × Int))} {nl : List NL} {x : Nat → Option (Gv.Call → List V → H → RV)} (F : Facts G bd ge nl) (hx : HooksOk Tryz.prog G x) : HooksOk Tryz.prog G (libS bd ge x) := by
  unfold libS
  exact orHk_ok (oneH_ok (@addE_ok Tryz.prog G _ (env_ok progOk F) 123 ext123)) (libH_ok hx)
end Go.Proofs.YtjpkfdmjhgnmbaaGreat
