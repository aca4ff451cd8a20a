/- complinebook.(*Book).Ints, Texts: one more list is kept, and a copy of it. -/
import Derived.Test.YthlpdficpmdebaaGreatBySl
import Derived.Deep.AppendLies
import Derived.Deep.RegionLaw
namespace Go.Proofs.YthlpdficpmdebaaGreat.Wire
open Go Go.RowKit Go.Lib
/-- A goal that is set aside. -/
structure Hold (p : Prop) : Prop where
  out : p
/-- The book at block K. -/
def BkAt (K : Nat) (cs : Array Value) (w : World) : Prop := w.heap[K]? = some (.cells cs 76 (0, 0))
/-- No row is of the book's type. -/
def NoBk (l r : List Row) : Prop := (∀ (i : Nat) (a : Row), l[i]? = some a → a.t ≠ 76) ∧ ∀ b ∈ r, b.t ≠ 76
theorem NoBk.set {l r : List Row} (h : NoBk l r) {i : Nat} {b : Row} (hb : b.t ≠ 76) : NoBk (l.set i b) r := by
  refine ⟨fun j a e => ?_, h.2⟩
  rw [List.getElem?_set] at e
  split at e
  · split at e
    · cases e; exact hb
    · cases e
  · exact h.1 j a e
theorem NoBk.push {l r : List Row} (h : NoBk l r) {b : Row} (hb : b.t ≠ 76) : NoBk (l ++ [b]) r := by
  refine ⟨fun j a e => ?_, h.2⟩
  by_cases hj : j < l.length
  · rw [List.getElem?_append_left hj] at e; exact h.1 j a e
  · rw [List.getElem?_append_right (by omega)] at e
    have hm := List.mem_of_getElem? e
    simp at hm
    rw [hm]; exact hb
theorem bk_box {K : Nat} {cs : Array Value} {w : World} (h : BkAt K cs w) (i : Nat) (u : Value) : BkAt K (cs.setIfInBounds i u) (w.setCell ⟨K, i, none⟩ u) := Go.Lib.heap_setCell_same (i := i) h u
theorem BkAt.old {K : Nat} {cs : Array Value} {w w' : World} (h : BkAt K cs w) (hg : w.grownBy w' none) : BkAt K cs w' := (hg.block K (blk_lt h) (by simp)).trans h
theorem BkAt.row {K : Nat} {cs : Array Value} {w w' : World} (h : BkAt K cs w) {B n : Nat} {e : TypeId} {v : Value} {us : List Value} (ho : w.ownsRow B e 1 v n us) (he : e ≠ 76) (hg : w.grownBy w' v.ownBlock) : BkAt K cs w' :=
  (hg.block K (blk_lt h) (fun e2 => own_ne ho h he e2.symm)).trans h
theorem Mem.bk {B : Nat} {l r : List Row} {w : World} (h : Mem B l r w) {K : Nat} {cs : Array Value} (hk : BkAt K cs w) (hn : NoBk l r) (i : Nat) (u : Value) : Mem B l r (w.setCell ⟨K, i, none⟩ u) := h.box hk (grownBy_setCell w K i u) hn.1 hn.2
theorem grown_drew (w : World) (r : Option Nat) : w.grownBy w.drew r := ⟨rfl, rfl, rfl, Nat.le_refl _, fun _ _ _ => rfl⟩
theorem get_set_ne {l : List Row} {i j : Nat} {a b : Row} (h : l[i]? = some a) (hij : j ≠ i) : (l.set j b)[i]? = some a := by rw [List.getElem?_set_ne hij]; exact h
theorem get_push {l : List Row} {i : Nat} {a b : Row} (h : l[i]? = some a) : (l ++ [b])[i]? = some a := by rw [List.getElem?_append_left (List.getElem?_eq_some_iff.1 h).1]; exact h
theorem set_push {l : List Row} {i : Nat} {a b c : Row} (h : l[i]? = some a) : (l ++ [b]).set i c = l.set i c ++ [b] := List.set_append_left _ _ (List.getElem?_eq_some_iff.1 h).1
theorem sli_info : (Tryz.prog.info? 22).map (fun i => (i.zero, i.size, i.bytes)) = some (some (.slice none 0 0), 1, 24) := by kernel_rfl
theorem slt_info : (Tryz.prog.info? 23).map (fun i => (i.zero, i.size, i.bytes)) = some (some (.slice none 0 0), 1, 24) := by kernel_rfl
def KeepIntsPost (B K : Nat) (cs : Array Value) (l r : List Row) (i j k n : Nat) (ls ws us : List Value) (sl : Value) (w : World) (en : Ending) (w' : World) : Prop :=
  ∃ A1 c1 A2 c2 A3 c3, (∃ u, en = .returned u) ∧ Mem B (((l.set i ⟨22, .slice A1 (k + 1) c1, k + 1, ls ++ [sl]⟩).set j ⟨22, .slice A2 (k + 1) c2, k + 1, ws ++ [.slice A3 n c3]⟩) ++ [⟨3, .slice A3 n c3, n, us⟩]) r w' ∧
    BkAt K ((cs.setIfInBounds 2 (.slice A1 (k + 1) c1)).setIfInBounds 3 (.slice A2 (k + 1) c2)) w' ∧ Below B w w'
set_option maxRecDepth 20000 in
set_option maxHeartbeats 4000000 in
theorem keepInts_any (B K : Nat) (cs : Array Value) (l r : List Row) (i j p k : Nat) (ls ws us : List Value) (A1 A2 A : Option Addr) (c1 c2 n c : Nat) (w : World) (hM : Mem B l r w) (hK : BkAt K cs w) (hN : NoBk l r) (hij : i ≠ j) (hip : i ≠ p) (hKB : B ≤ K) (hB : B ≤ w.heap.size)
    (hi : l[i]? = some ⟨22, .slice A1 k c1, k, ls⟩) (hj : l[j]? = some ⟨22, .slice A2 k c2, k, ws⟩) (hp : l[p]? = some ⟨3, .slice A n c, n, us⟩) (h1 : cs[2]? = some (.slice A1 k c1)) (h2 : cs[3]? = some (.slice A2 k c2)) (ho : ∀ u ∈ us, u.oneCell' = true) (hn : n ≤ 1000000) (hk : k ≤ 200) :
    Calls Tryz.prog 24 #[.pointer (some ⟨K, 0, none⟩), .slice A n c] w (KeepIntsPost B K cs l r i j k n ls ws us (.slice A n c) w) := by
  obtain ⟨i0, hi0, hz0, hz1, hz2⟩ := info_parts sli_info
  have HM := Lib.hid hM
  have HK := Lib.hid hK
  have HN := Lib.hid hN
  have HI := Lib.hid hi
  have HJ := Lib.hid hj
  have HPP := Lib.hid hp
  have H1 := Lib.hid h1
  have H2 := Lib.hid h2
  have HO := Lib.hid ho
  have HB := Lib.hid hB
  have HKB := Lib.hid hKB
  have HIJ := Lib.hid hij
  have HIP := Lib.hid hip
  have b1 : w.cell? ⟨K, 2, none⟩ = some (.slice A1 k c1) := by rw [cell_p hK]; exact h1
  clear hM hK hN hi hj hp h1 h2 ho hB hKB hij hip
  go_enter Tryz.func24, Tryz.ntmps24
  go_wp2_with (at_builtin
               refine wpList_append_own_at _ rfl (.tmp 14) (.tmp 16) _ rfl B 22 i0 _ 1 24 Tryz.underlying59 hi0 hz0 hz1 hz2 rfl (by omega) (.slice A1 k c1) k ls rfl ((HM.out.own i _ HI.out).old (World.grownBy_alloc w _ none)) ⟨w.heap.size, 0, none⟩ 1 1 [.slice A n c] rfl rfl (cell_one_new _ _ _) (by simp [Value.oneCell']) (by unfold maxLen; omega) (by omega) (by have := HB.out; simp; omega) ?_
               intro v3 w3 hown3 hg3 _ hat3
               obtain ⟨A3, c3, rfl⟩ := own_form hown3
               have hKa : BkAt K cs (w.alloc (.cells #[.slice A n c] 22)) := HK.out.old (World.grownBy_alloc w _ none)
               have hMa : Mem B l r (w.alloc (.cells #[.slice A n c] 22)) := HM.out.old (World.grownBy_alloc w _ none)
               have ho9 : (w.alloc (.cells #[.slice A n c] 22)).ownsRow B 22 1 (.slice A1 k c1) k ls := hMa.own i _ HI.out
               have hK3 : BkAt K cs w3 := hKa.row ho9 (by decide) hg3
               have HM3 : Hid (Mem B (l.set i ⟨22, .slice A3 (k + 1) c3, k + 1, ls ++ [.slice A n c]⟩) r w3) := Lib.hid (hMa.put HI.out hg3 hown3 hat3)
               have hf3 : w3.frozen? ⟨K, 2, none⟩ = false := frozen_p hK3
               have hb3 : w3.cell? ⟨K, 2, none⟩ = some (.slice A1 k c1) := by rw [cell_p hK3]; exact H1.out
               have HB3 : Hid (Below B w w3) := Lib.hid (below_grown ((Below.refl B w).alloc HB.out _) hg3 (by have := HB.out; simp; omega) (own_ge ho9))
               have HK3 := Lib.hid hK3
               clear ho9 hKa hMa hown3 hg3 hat3 hK3
               go_wp2_with fail
               refine Hold.out ?_)
  refine ⟨?_⟩
  have HK4 := Lib.hid (bk_box HK3.out 2 (.slice A3 (k + 1) c3))
  have HN3 := Lib.hid (HN.out.set (i := i) (b := ⟨22, .slice A3 (k + 1) c3, k + 1, ls ++ [.slice A n c]⟩) (show (22 : Nat) ≠ 76 by decide))
  have HM4 := Lib.hid (HM3.out.bk HK3.out HN3.out 2 (.slice A3 (k + 1) c3))
  have HB4 : Hid (Below B w (w3.setCell ⟨K, 2, none⟩ (.slice A3 (k + 1) c3))) := Lib.hid (below_grown HB3.out (grownBy_setCell w3 K 2 _) (Nat.le_trans HB.out HB3.out.size) (by rintro g ⟨rfl⟩; exact HKB.out))
  generalize w3.setCell ⟨K, 2, none⟩ (.slice A3 (k + 1) c3) = W4 at HK4 HM4 HB4 ⊢
  clear hf3 hb3 b1
  have hKc : ∀ w5, W4.grownBy w5 none → w5.cell? ⟨K, 3, none⟩ = some (.slice A2 k c2) ∧ w5.frozen? ⟨K, 3, none⟩ = false := fun w5 hg => by
    have h := HK4.out.old hg
    refine ⟨?_, frozen_p h⟩
    rw [cell_p h, Array.getElem?_setIfInBounds_ne (by decide)]
    exact H2.out
  have HKC := Lib.hid hKc
  obtain ⟨d0, d1⟩ := hKc W4.drew (grown_drew W4 none)
  have HPR : Hid (SlAt W4.drew A n c us) := Lib.hid (SlAt.own ((HM4.out.old (grown_drew W4 none)).own p _ (get_set_ne HPP.out HIP.out)))
  have HCP := Lib.hid (copyInts_any A n c us W4.drew HPR.out HO.out hn)
  clear hKc
  go_region_law ((first
      | (go_simp; go_at_call 56; refine Calls.mono HCP.out ?_; rintro e w5 ⟨A5, c5, rfl, ho5, hg5⟩; have c55 := (HKC.out w5 ((grown_drew W4 none).trans hg5)).1; have f55 := (HKC.out w5 ((grown_drew W4 none).trans hg5)).2; have cA : ∀ o, (w5.alloc o).cell? ⟨K, 3, none⟩ = some (.slice A2 k c2) := fun o => (HKC.out _ (((grown_drew W4 none).trans hg5).trans (World.grownBy_alloc w5 o none))).1)
      | (have hm5 := ((HM4.out.old (grown_drew W4 none)).old hg5).old (World.grownBy_alloc w5 (.cells #[.slice A5 n c5] 22) none)
         have hB5 : B ≤ w5.heap.size := Nat.le_trans (Nat.le_trans HB.out HB4.out.size) hg5.size
         refine step_append_lies _ (by rfl) _ _ _ (by rfl) B 22 i0 _ 1 24 Tryz.underlying59 hi0 hz0 hz1 hz2 rfl (by omega) (.slice A2 k c2) k ws (by rfl) (hm5.own j _ (get_set_ne HJ.out HIJ.out))
           ⟨w5.heap.size, 0, none⟩ 1 1 [.slice A5 n c5] (by rfl) (by rfl) (World.news_of_block (cs := #[.slice A5 n c5]) (t := 22) (fr := (0, 0)) (heap_alloc_new w5 _)) (by simp [Value.oneCell'])
           (by omega) (by unfold maxLen; omega) (by omega) (by simp; omega) (w5.heap.size + 1) (by simp) ?_
         intro g6 cap6 w6 hown6 hg6 hat6 hlt6
         have ho9 : (w5.alloc (.cells #[.slice A5 n c5] 22)).ownsRow B 22 1 (.slice A2 k c2) k ws := hm5.own j _ (get_set_ne HJ.out HIJ.out)
         have hk6 := ((HK4.out.old ((grown_drew W4 none).trans hg5)).old (World.grownBy_alloc w5 (.cells #[.slice A5 n c5] 22) none)).row ho9 (by decide) hg6
         have c6 : w6.cell? ⟨K, 3, none⟩ = some (.slice A2 k c2) := by { rw [cell_p hk6, Array.getElem?_setIfInBounds_ne (by decide)]; exact H2.out }
         have f6 : w6.frozen? ⟨K, 3, none⟩ = false := frozen_p hk6)))
  all_goals
    have hM5 := ((HM4.out.old (grown_drew W4 none)).push hg5 (a := ⟨3, .slice A5 n c5, n, us⟩) ho5 (Nat.le_trans HB.out HB4.out.size)).old (World.grownBy_alloc w5 (.cells #[.slice A5 n c5] 22) none)
    have hM6 := hM5.put (b := ⟨22, .slice (some ⟨g6, 0, none⟩) (k + 1) cap6, k + 1, ws ++ [Value.slice A5 n c5]⟩) (get_push (get_set_ne HJ.out HIJ.out)) hg6 hown6 (hat6.elim (fun h => Or.inl h.symm) (fun h => Or.inr (by simp [Value.ownBlock, h])))
    rw [set_push (get_set_ne HJ.out HIJ.out)] at hM6
    have hN6 : NoBk _ r := ((HN3.out.set (i := j) (b := ⟨22, .slice (some ⟨g6, 0, none⟩) (k + 1) cap6, k + 1, ws ++ [Value.slice A5 n c5]⟩) (show (22 : Nat) ≠ 76 by decide)).push (b := ⟨3, .slice A5 n c5, n, us⟩) (show (3 : Nat) ≠ 76 by decide))
    have HM7 := Lib.hid (hM6.bk hk6 hN6 3 (.slice (some ⟨g6, 0, none⟩) (k + 1) cap6))
    have HK7 := Lib.hid (bk_box hk6 3 (.slice (some ⟨g6, 0, none⟩) (k + 1) cap6))
    have hb5 : Below B w (w5.alloc (.cells #[.slice A5 n c5] 22)) := below_grown (below_grown HB4.out ((grown_drew W4 none).trans hg5) (Nat.le_trans HB.out HB4.out.size) (by simp)) (World.grownBy_alloc w5 _ none) (Nat.le_trans (Nat.le_trans HB.out HB4.out.size) hg5.size) (by simp)
    have hb6 : Below B w w6 := below_grown hb5 hg6 (Nat.le_trans HB.out hb5.size) (own_ge ((((HM4.out.old (grown_drew W4 none)).old hg5).old (World.grownBy_alloc w5 (.cells #[.slice A5 n c5] 22) none)).own j _ (get_set_ne HJ.out HIJ.out)))
    have HB7 := Lib.hid (below_grown hb6 (grownBy_setCell w6 K 3 (.slice (some ⟨g6, 0, none⟩) (k + 1) cap6)) (Nat.le_trans HB.out hb6.size) (by rintro g ⟨rfl⟩; exact HKB.out))
    clear hM5 hM6 hN6 hb5 hb6
    go_wp2_with fail
    go_end0
    exact ⟨A3, c3, some ⟨g6, 0, none⟩, cap6, A5, c5, ⟨_, rfl⟩, HM7.out, HK7.out, HB7.out⟩
def KeepTextsPost (B K : Nat) (cs : Array Value) (l r : List Row) (i j k n : Nat) (ls ws us : List Value) (sl : Value) (w : World) (en : Ending) (w' : World) : Prop :=
  ∃ A1 c1 A2 c2 A3 c3, (∃ u, en = .returned u) ∧ Mem B (((l.set i ⟨23, .slice A1 (k + 1) c1, k + 1, ls ++ [sl]⟩).set j ⟨23, .slice A2 (k + 1) c2, k + 1, ws ++ [.slice A3 n c3]⟩) ++ [⟨9, .slice A3 n c3, n, us⟩]) r w' ∧
    BkAt K ((cs.setIfInBounds 0 (.slice A1 (k + 1) c1)).setIfInBounds 1 (.slice A2 (k + 1) c2)) w' ∧ Below B w w'
set_option maxRecDepth 20000 in
set_option maxHeartbeats 4000000 in
theorem keepTexts_any (B K : Nat) (cs : Array Value) (l r : List Row) (i j p k : Nat) (ls ws us : List Value) (A1 A2 A : Option Addr) (c1 c2 n c : Nat) (w : World) (hM : Mem B l r w) (hK : BkAt K cs w) (hN : NoBk l r) (hij : i ≠ j) (hip : i ≠ p) (hKB : B ≤ K) (hB : B ≤ w.heap.size)
    (hi : l[i]? = some ⟨23, .slice A1 k c1, k, ls⟩) (hj : l[j]? = some ⟨23, .slice A2 k c2, k, ws⟩) (hp : l[p]? = some ⟨9, .slice A n c, n, us⟩) (h1 : cs[0]? = some (.slice A1 k c1)) (h2 : cs[1]? = some (.slice A2 k c2)) (ho : ∀ u ∈ us, u.oneCell' = true) (hn : n ≤ 1000000) (hk : k ≤ 200) :
    Calls Tryz.prog 25 #[.pointer (some ⟨K, 0, none⟩), .slice A n c] w (KeepTextsPost B K cs l r i j k n ls ws us (.slice A n c) w) := by
  obtain ⟨i0, hi0, hz0, hz1, hz2⟩ := info_parts slt_info
  have HM := Lib.hid hM
  have HK := Lib.hid hK
  have HN := Lib.hid hN
  have HI := Lib.hid hi
  have HJ := Lib.hid hj
  have HPP := Lib.hid hp
  have H1 := Lib.hid h1
  have H2 := Lib.hid h2
  have HO := Lib.hid ho
  have HB := Lib.hid hB
  have HKB := Lib.hid hKB
  have HIJ := Lib.hid hij
  have HIP := Lib.hid hip
  have b1 : w.cell? ⟨K, 0, none⟩ = some (.slice A1 k c1) := by rw [cell_p hK]; exact h1
  clear hM hK hN hi hj hp h1 h2 ho hB hKB hij hip
  go_enter Tryz.func25, Tryz.ntmps25
  go_wp2_with (at_builtin
               refine wpList_append_own_at _ rfl (.tmp 14) (.tmp 16) _ rfl B 23 i0 _ 1 24 Tryz.underlying58 hi0 hz0 hz1 hz2 rfl (by omega) (.slice A1 k c1) k ls rfl ((HM.out.own i _ HI.out).old (World.grownBy_alloc w _ none)) ⟨w.heap.size, 0, none⟩ 1 1 [.slice A n c] rfl rfl (cell_one_new _ _ _) (by simp [Value.oneCell']) (by unfold maxLen; omega) (by omega) (by have := HB.out; simp; omega) ?_
               intro v3 w3 hown3 hg3 _ hat3
               obtain ⟨A3, c3, rfl⟩ := own_form hown3
               have hKa : BkAt K cs (w.alloc (.cells #[.slice A n c] 23)) := HK.out.old (World.grownBy_alloc w _ none)
               have hMa : Mem B l r (w.alloc (.cells #[.slice A n c] 23)) := HM.out.old (World.grownBy_alloc w _ none)
               have ho9 : (w.alloc (.cells #[.slice A n c] 23)).ownsRow B 23 1 (.slice A1 k c1) k ls := hMa.own i _ HI.out
               have hK3 : BkAt K cs w3 := hKa.row ho9 (by decide) hg3
               have HM3 : Hid (Mem B (l.set i ⟨23, .slice A3 (k + 1) c3, k + 1, ls ++ [.slice A n c]⟩) r w3) := Lib.hid (hMa.put HI.out hg3 hown3 hat3)
               have hf3 : w3.frozen? ⟨K, 0, none⟩ = false := frozen_p hK3
               have hb3 : w3.cell? ⟨K, 0, none⟩ = some (.slice A1 k c1) := by rw [cell_p hK3]; exact H1.out
               have HB3 : Hid (Below B w w3) := Lib.hid (below_grown ((Below.refl B w).alloc HB.out _) hg3 (by have := HB.out; simp; omega) (own_ge ho9))
               have HK3 := Lib.hid hK3
               clear ho9 hKa hMa hown3 hg3 hat3 hK3
               go_wp2_with fail
               refine Hold.out ?_)
  refine ⟨?_⟩
  have HK4 := Lib.hid (bk_box HK3.out 0 (.slice A3 (k + 1) c3))
  have HN3 := Lib.hid (HN.out.set (i := i) (b := ⟨23, .slice A3 (k + 1) c3, k + 1, ls ++ [.slice A n c]⟩) (show (23 : Nat) ≠ 76 by decide))
  have HM4 := Lib.hid (HM3.out.bk HK3.out HN3.out 0 (.slice A3 (k + 1) c3))
  have HB4 : Hid (Below B w (w3.setCell ⟨K, 0, none⟩ (.slice A3 (k + 1) c3))) := Lib.hid (below_grown HB3.out (grownBy_setCell w3 K 0 _) (Nat.le_trans HB.out HB3.out.size) (by rintro g ⟨rfl⟩; exact HKB.out))
  generalize w3.setCell ⟨K, 0, none⟩ (.slice A3 (k + 1) c3) = W4 at HK4 HM4 HB4 ⊢
  clear hf3 hb3 b1
  have hKc : ∀ w5, W4.grownBy w5 none → w5.cell? ⟨K, 1, none⟩ = some (.slice A2 k c2) ∧ w5.frozen? ⟨K, 1, none⟩ = false := fun w5 hg => by
    have h := HK4.out.old hg
    refine ⟨?_, frozen_p h⟩
    rw [cell_p h, Array.getElem?_setIfInBounds_ne (by decide)]
    exact H2.out
  have HKC := Lib.hid hKc
  obtain ⟨d0, d1⟩ := hKc W4.drew (grown_drew W4 none)
  have HPR : Hid (SlAt W4.drew A n c us) := Lib.hid (SlAt.own ((HM4.out.old (grown_drew W4 none)).own p _ (get_set_ne HPP.out HIP.out)))
  have HCP := Lib.hid (copyTexts_any A n c us W4.drew HPR.out HO.out hn)
  clear hKc
  go_region_law ((first
      | (go_simp; go_at_call 57; refine Calls.mono HCP.out ?_; rintro e w5 ⟨A5, c5, rfl, ho5, hg5⟩; have c55 := (HKC.out w5 ((grown_drew W4 none).trans hg5)).1; have f55 := (HKC.out w5 ((grown_drew W4 none).trans hg5)).2; have cA : ∀ o, (w5.alloc o).cell? ⟨K, 1, none⟩ = some (.slice A2 k c2) := fun o => (HKC.out _ (((grown_drew W4 none).trans hg5).trans (World.grownBy_alloc w5 o none))).1)
      | (have hm5 := ((HM4.out.old (grown_drew W4 none)).old hg5).old (World.grownBy_alloc w5 (.cells #[.slice A5 n c5] 23) none)
         have hB5 : B ≤ w5.heap.size := Nat.le_trans (Nat.le_trans HB.out HB4.out.size) hg5.size
         refine step_append_lies _ (by rfl) _ _ _ (by rfl) B 23 i0 _ 1 24 Tryz.underlying58 hi0 hz0 hz1 hz2 rfl (by omega) (.slice A2 k c2) k ws (by rfl) (hm5.own j _ (get_set_ne HJ.out HIJ.out))
           ⟨w5.heap.size, 0, none⟩ 1 1 [.slice A5 n c5] (by rfl) (by rfl) (World.news_of_block (cs := #[.slice A5 n c5]) (t := 23) (fr := (0, 0)) (heap_alloc_new w5 _)) (by simp [Value.oneCell'])
           (by omega) (by unfold maxLen; omega) (by omega) (by simp; omega) (w5.heap.size + 1) (by simp) ?_
         intro g6 cap6 w6 hown6 hg6 hat6 hlt6
         have ho9 : (w5.alloc (.cells #[.slice A5 n c5] 23)).ownsRow B 23 1 (.slice A2 k c2) k ws := hm5.own j _ (get_set_ne HJ.out HIJ.out)
         have hk6 := ((HK4.out.old ((grown_drew W4 none).trans hg5)).old (World.grownBy_alloc w5 (.cells #[.slice A5 n c5] 23) none)).row ho9 (by decide) hg6
         have c6 : w6.cell? ⟨K, 1, none⟩ = some (.slice A2 k c2) := by { rw [cell_p hk6, Array.getElem?_setIfInBounds_ne (by decide)]; exact H2.out }
         have f6 : w6.frozen? ⟨K, 1, none⟩ = false := frozen_p hk6)))
  all_goals
    have hM5 := ((HM4.out.old (grown_drew W4 none)).push hg5 (a := ⟨9, .slice A5 n c5, n, us⟩) ho5 (Nat.le_trans HB.out HB4.out.size)).old (World.grownBy_alloc w5 (.cells #[.slice A5 n c5] 23) none)
    have hM6 := hM5.put (b := ⟨23, .slice (some ⟨g6, 0, none⟩) (k + 1) cap6, k + 1, ws ++ [Value.slice A5 n c5]⟩) (get_push (get_set_ne HJ.out HIJ.out)) hg6 hown6 (hat6.elim (fun h => Or.inl h.symm) (fun h => Or.inr (by simp [Value.ownBlock, h])))
    rw [set_push (get_set_ne HJ.out HIJ.out)] at hM6
    have hN6 : NoBk _ r := ((HN3.out.set (i := j) (b := ⟨23, .slice (some ⟨g6, 0, none⟩) (k + 1) cap6, k + 1, ws ++ [Value.slice A5 n c5]⟩) (show (23 : Nat) ≠ 76 by decide)).push (b := ⟨9, .slice A5 n c5, n, us⟩) (show (9 : Nat) ≠ 76 by decide))
    have HM7 := Lib.hid (hM6.bk hk6 hN6 1 (.slice (some ⟨g6, 0, none⟩) (k + 1) cap6))
    have HK7 := Lib.hid (bk_box hk6 1 (.slice (some ⟨g6, 0, none⟩) (k + 1) cap6))
    have hb5 : Below B w (w5.alloc (.cells #[.slice A5 n c5] 23)) := below_grown (below_grown HB4.out ((grown_drew W4 none).trans hg5) (Nat.le_trans HB.out HB4.out.size) (by simp)) (World.grownBy_alloc w5 _ none) (Nat.le_trans (Nat.le_trans HB.out HB4.out.size) hg5.size) (by simp)
    have hb6 : Below B w w6 := below_grown hb5 hg6 (Nat.le_trans HB.out hb5.size) (own_ge ((((HM4.out.old (grown_drew W4 none)).old hg5).old (World.grownBy_alloc w5 (.cells #[.slice A5 n c5] 23) none)).own j _ (get_set_ne HJ.out HIJ.out)))
    have HB7 := Lib.hid (below_grown hb6 (grownBy_setCell w6 K 1 (.slice (some ⟨g6, 0, none⟩) (k + 1) cap6)) (Nat.le_trans HB.out hb6.size) (by rintro g ⟨rfl⟩; exact HKB.out))
    clear hM5 hM6 hN6 hb5 hb6
    go_wp2_with fail
    go_end0
    exact ⟨A3, c3, some ⟨g6, 0, none⟩, cap6, A5, c5, ⟨_, rfl⟩, HM7.out, HK7.out, HB7.out⟩
end Go.Proofs.YthlpdficpmdebaaGreat.Wire
