/- complinebook.(*Book).Apart: of a book that keeps two lists of numbers and two of texts, each in memory of its own: true. -/
import Derived.Test.YthlpdficpmdebaaGreatByGrow
namespace Go.Proofs.YthlpdficpmdebaaGreat.Wire
open Go Go.RowKit Go.Lib
structure ApSt (B K : Nat) (cs : Array Value) (l r : List Row) (w0 w : World) : Prop where
  m : Mem B l r w
  k : BkAt K cs w
  b : Below B w0 w
  n : NoBk l r
theorem grown_drewN (w : World) (n : Nat) (r : Option Nat) : w.grownBy (w.drewN n) r := ⟨rfl, rfl, rfl, Nat.le_refl _, fun _ _ _ => rfl⟩
section
variable {B K : Nat} {cs : Array Value} {l r : List Row} {w0 w : World}
theorem ApSt.old {w' : World} (h : ApSt B K cs l r w0 w) (hB : B ≤ w0.heap.size) (hg : w.grownBy w' none) : ApSt B K cs l r w0 w' :=
  ⟨h.m.old hg, h.k.old hg, below_grown h.b hg (Nat.le_trans hB h.b.size) (by simp), h.n⟩
theorem ApSt.nil (h : ApSt B K cs l r w0 w) (hB : B ≤ w0.heap.size) {f : FuncId} {args : Array Value} {v : Value} (hc : Calls Tryz.prog f args w (Same v w)) : Calls Tryz.prog f args w fun en w' => en = .returned v ∧ ApSt B K cs l r w0 w' :=
  hc.mono fun _ _ ⟨e, n, e2⟩ => ⟨e, by rw [e2]; exact h.old hB (grown_drewN w n none)⟩
theorem ApSt.nil0 (h : ApSt B K cs l r w0 w) (hB : B ≤ w0.heap.size) {f : FuncId} {args : Array Value} (hc : Calls Tryz.prog f args w (Same0 w)) : Calls Tryz.prog f args w fun en w' => (∃ u, en = .returned u) ∧ ApSt B K cs l r w0 w' :=
  hc.mono fun _ _ ⟨e, n, e2⟩ => ⟨e, by rw [e2]; exact h.old hB (grown_drewN w n none)⟩
theorem ApSt.says (h : ApSt B K cs l r w0 w) (hB : B ≤ w0.heap.size) {f : FuncId} {args : Array Value} (hc : Calls Tryz.prog f args w (SaysTrue w)) : Calls Tryz.prog f args w fun en w' => en = .returned (.bool true) ∧ ApSt B K cs l r w0 w' :=
  hc.mono fun _ _ ⟨e, hb⟩ => ⟨e, h.old hB (only_of_below hb none)⟩
theorem ApSt.cell (h : ApSt B K cs l r w0 w) {f : Nat} {v : Value} (hf : cs[f]? = some v) : w.cell? ⟨K, f, none⟩ = some v := by rw [cell_p h.k]; exact hf
end
/-- One round of marking. -/
theorem mark_step {l : List Row} {B p n : Nat} {t : TypeId} {v : Value} {us us' : List Value} {w : World} (h : l[p]? = some ⟨t, v, n, us⟩) (ho : w.ownsRow B t 1 v n us) (hu : us'.length = n) :
    (v = .slice none 0 0 ∧ l.set p ⟨t, v, n, us'⟩ = l) ∨ ∃ g d, v = .slice (some ⟨g, 0, none⟩) n d ∧ MStep l (l.set p ⟨t, v, n, us'⟩) p t g n d us us' := by
  rcases ho.2 with ⟨rfl, rfl⟩ | ⟨g, cap, cur, rfl, _⟩
  · have h1 : us = [] := List.eq_nil_of_length_eq_zero (by have := ho.1; omega)
    have h2 : us' = [] := List.eq_nil_of_length_eq_zero hu
    subst h1 h2
    exact .inl ⟨rfl, set_same h⟩
  · exact .inr ⟨g, cap, rfl, h, rfl⟩
/-- The book's cells. -/
def bkCs (vT wT vI wI : Value) : Array Value := #[vT, wT, vI, wI, .slice none 0 0, .slice none 0 0, .slice none 0 0, .slice none 0 0, .slice none 0 0, .slice none 0 0, .slice none 0 0, .slice none 0 0, .slice none 0 0, .slice none 0 0, .slice none 0 0, .slice none 0 0, .slice none 0 0, .slice none 0 0, .slice none 0 0, .slice none 0 0, .slice none 0 0, .slice none 0 0, .slice none 0 0, .slice none 0 0, .slice none 0 0, .slice none 0 0, .slice none 0 0, .slice none 0 0, .slice none 0 0, .slice none 0 0, .slice none 0 0, .slice none 0 0, .slice none 0 0, .slice none 0 0]
theorem bk_nil (vT wT vI wI : Value) (f : Nat) (h : 4 ≤ f) (h2 : f < 34) : (bkCs vT wT vI wI)[f]? = some (.slice none 0 0) := by
  have h3 : f = 4 ∨ f = 5 ∨ f = 6 ∨ f = 7 ∨ f = 8 ∨ f = 9 ∨ f = 10 ∨ f = 11 ∨ f = 12 ∨ f = 13 ∨ f = 14 ∨ f = 15 ∨ f = 16 ∨ f = 17 ∨ f = 18 ∨ f = 19 ∨ f = 20 ∨ f = 21 ∨ f = 22 ∨ f = 23 ∨ f = 24 ∨ f = 25 ∨ f = 26 ∨ f = 27 ∨ f = 28 ∨ f = 29 ∨ f = 30 ∨ f = 31 ∨ f = 32 ∨ f = 33 := by omega
  rcases h3 with rfl | rfl | rfl | rfl | rfl | rfl | rfl | rfl | rfl | rfl | rfl | rfl | rfl | rfl | rfl | rfl | rfl | rfl | rfl | rfl | rfl | rfl | rfl | rfl | rfl | rfl | rfl | rfl | rfl | rfl <;> rfl
/-- The rows of the book, its lists, their copies. -/
def rows12 (vI wI vT wT v4 v5 v6 v7 v8 v9 v10 v11 : Value) (n4 n5 n6 n7 : Nat) (y4 y5 y6 y7 z4 z5 z6 z7 : List Value) : List Row :=
  [⟨22, vI, 2, [v4, v6]⟩, ⟨22, wI, 2, [v8, v10]⟩, ⟨23, vT, 2, [v5, v7]⟩, ⟨23, wT, 2, [v9, v11]⟩, ⟨3, v4, n4, y4⟩, ⟨9, v5, n5, y5⟩, ⟨3, v6, n6, y6⟩, ⟨9, v7, n7, y7⟩, ⟨3, v8, n4, z4⟩, ⟨9, v9, n5, z5⟩, ⟨3, v10, n6, z6⟩, ⟨9, v11, n7, z7⟩]
set_option maxRecDepth 20000 in
set_option maxHeartbeats 16000000 in
theorem apart_any (B K : Nat) (AI AW AT AV A4 A5 A6 A7 A8 A9 A10 A11 : Option Addr) (cI cW cT cV c4 c5 c6 c7 c8 c9 c10 c11 n4 n5 n6 n7 : Nat) (x4 x6 : List Int) (x5 x7 : List ByteArray) (w : World) (hB : B ≤ w.heap.size)
    (hM : Mem B (rows12 (.slice AI 2 cI) (.slice AW 2 cW) (.slice AT 2 cT) (.slice AV 2 cV) (.slice A4 n4 c4) (.slice A5 n5 c5) (.slice A6 n6 c6) (.slice A7 n7 c7) (.slice A8 n4 c8) (.slice A9 n5 c9) (.slice A10 n6 c10) (.slice A11 n7 c11) n4 n5 n6 n7 (ints x4) (strV x5) (ints x6) (strV x7) (ints x4) (strV x5) (ints x6) (strV x7)) [] w)
    (hK : BkAt K (bkCs (.slice AT 2 cT) (.slice AV 2 cV) (.slice AI 2 cI) (.slice AW 2 cW)) w) (hn4 : n4 ≤ 8000) (hn5 : n5 ≤ 8000) (hn6 : n6 ≤ 8000) (hn7 : n7 ≤ 8000) :
    Calls Tryz.prog 27 #[.pointer (some ⟨K, 0, none⟩)] w fun en w' => en = .returned (.bool true) ∧ Below B w w' := by
  have HB := Lib.hid hB
  have HN4 := Lib.hid hn4
  have HN5 := Lib.hid hn5
  have HN6 := Lib.hid hn6
  have HN7 := Lib.hid hn7
  obtain ⟨CS, hCS⟩ : ∃ CS, bkCs (.slice AT 2 cT) (.slice AV 2 cV) (.slice AI 2 cI) (.slice AW 2 cW) = CS := ⟨_, rfl⟩
  have HC0 : Hid (CS[0]? = some (.slice AT 2 cT)) := Lib.hid (by rw [← hCS]; rfl)
  have HC1 : Hid (CS[1]? = some (.slice AV 2 cV)) := Lib.hid (by rw [← hCS]; rfl)
  have HC2 : Hid (CS[2]? = some (.slice AI 2 cI)) := Lib.hid (by rw [← hCS]; rfl)
  have HC3 : Hid (CS[3]? = some (.slice AW 2 cW)) := Lib.hid (by rw [← hCS]; rfl)
  have HNIL : Hid (∀ f, 4 ≤ f → f < 34 → CS[f]? = some (.slice none 0 0)) := Lib.hid (fun f h1 h2 => by rw [← hCS]; exact bk_nil _ _ _ _ f h1 h2)
  obtain ⟨l0, hl0⟩ : ∃ l0, rows12 (.slice AI 2 cI) (.slice AW 2 cW) (.slice AT 2 cT) (.slice AV 2 cV) (.slice A4 n4 c4) (.slice A5 n5 c5) (.slice A6 n6 c6) (.slice A7 n7 c7) (.slice A8 n4 c8) (.slice A9 n5 c9) (.slice A10 n6 c10) (.slice A11 n7 c11) n4 n5 n6 n7 (ints x4) (strV x5) (ints x6) (strV x7) (ints x4) (strV x5) (ints x6) (strV x7) = l0 := ⟨_, rfl⟩
  rw [hl0] at hM
  rw [hCS] at hK
  have HNB : Hid (NoBk l0 []) := Lib.hid (by
    rw [← hl0]
    refine ⟨fun i a h => ?_, fun b hb => by cases hb⟩
    have hm := List.mem_of_getElem? h
    simp only [rows12, List.mem_cons, List.not_mem_nil, or_false] at hm
    rcases hm with rfl | rfl | rfl | rfl | rfl | rfl | rfl | rfl | rfl | rfl | rfl | rfl
    all_goals first | exact (show (22 : Nat) ≠ 76 by decide) | exact (show (23 : Nat) ≠ 76 by decide) | exact (show (3 : Nat) ≠ 76 by decide) | exact (show (9 : Nat) ≠ 76 by decide))
  have R : ∀ (i : Nat) (a : Row), (rows12 (.slice AI 2 cI) (.slice AW 2 cW) (.slice AT 2 cT) (.slice AV 2 cV) (.slice A4 n4 c4) (.slice A5 n5 c5) (.slice A6 n6 c6) (.slice A7 n7 c7) (.slice A8 n4 c8) (.slice A9 n5 c9) (.slice A10 n6 c10) (.slice A11 n7 c11) n4 n5 n6 n7 (ints x4) (strV x5) (ints x6) (strV x7) (ints x4) (strV x5) (ints x6) (strV x7))[i]? = some a → l0[i]? = some a := fun i a h => by rw [← hl0]; exact h
  have R0 : Hid (l0[0]? = some ⟨22, .slice AI 2 cI, 2, [.slice A4 n4 c4, .slice A6 n6 c6]⟩) := Lib.hid (R 0 _ rfl)
  have R1 : Hid (l0[1]? = some ⟨22, .slice AW 2 cW, 2, [.slice A8 n4 c8, .slice A10 n6 c10]⟩) := Lib.hid (R 1 _ rfl)
  have R2 : Hid (l0[2]? = some ⟨23, .slice AT 2 cT, 2, [.slice A5 n5 c5, .slice A7 n7 c7]⟩) := Lib.hid (R 2 _ rfl)
  have R3 : Hid (l0[3]? = some ⟨23, .slice AV 2 cV, 2, [.slice A9 n5 c9, .slice A11 n7 c11]⟩) := Lib.hid (R 3 _ rfl)
  have R4 : Hid (l0[4]? = some ⟨3, .slice A4 n4 c4, n4, ints x4⟩) := Lib.hid (R 4 _ rfl)
  have R5 : Hid (l0[5]? = some ⟨9, .slice A5 n5 c5, n5, strV x5⟩) := Lib.hid (R 5 _ rfl)
  have R6 : Hid (l0[6]? = some ⟨3, .slice A6 n6 c6, n6, ints x6⟩) := Lib.hid (R 6 _ rfl)
  have R7 : Hid (l0[7]? = some ⟨9, .slice A7 n7 c7, n7, strV x7⟩) := Lib.hid (R 7 _ rfl)
  have R8 : Hid (l0[8]? = some ⟨3, .slice A8 n4 c8, n4, ints x4⟩) := Lib.hid (R 8 _ rfl)
  have R9 : Hid (l0[9]? = some ⟨9, .slice A9 n5 c9, n5, strV x5⟩) := Lib.hid (R 9 _ rfl)
  have R10 : Hid (l0[10]? = some ⟨3, .slice A10 n6 c10, n6, ints x6⟩) := Lib.hid (R 10 _ rfl)
  have R11 : Hid (l0[11]? = some ⟨9, .slice A11 n7 c11, n7, strV x7⟩) := Lib.hid (R 11 _ rfl)
  have L12 : Hid (l0.length = 12) := Lib.hid (by rw [← hl0]; rfl)
  clear R hl0 hCS hn4 hn5 hn6 hn7
  have HS0 : Hid (ApSt B K CS l0 [] w w) := Lib.hid ⟨hM, hK, Below.refl _ _, HNB.out⟩
  have HM0 := Lib.hid hM
  clear hM hK HNB hB
  go_enter Tryz.func27, Tryz.ntmps27
  go_wp2_with fail
  refine (HS0.out.says HB.out (stillTexts_any K AT AV cT cV 2 [.slice A5 n5 c5, .slice A7 n7 c7] [.slice A9 n5 c9, .slice A11 n7 c11] _ (HS0.out.cell HC0.out) (HS0.out.cell HC1.out) (HS0.out.m.cell R2.out) (HS0.out.m.cell R3.out) (fun q hq => by
    match q, hq with
    | 0, _ => exact ⟨_, _, _, _, _, x5, rfl, rfl, (SlAt.own (HS0.out.m.own 5 _ R5.out)).texts, (SlAt.own (HS0.out.m.own 9 _ R9.out)).texts, (by have h := (HM0.out.own 5 _ R5.out).1; simpa [strV] using h), (by have := HN5.out; omega)⟩
    | 1, _ => exact ⟨_, _, _, _, _, x7, rfl, rfl, (SlAt.own (HS0.out.m.own 7 _ R7.out)).texts, (SlAt.own (HS0.out.m.own 11 _ R11.out)).texts, (by have h := (HM0.out.own 7 _ R7.out).1; simpa [strV] using h), (by have := HN7.out; omega)⟩) (by decide))).mono ?_
  rintro e w1 ⟨rfl, hS⟩
  have HS1 := Lib.hid hS
  clear hS HS0
  go_wp2_with fail
  refine (HS1.out.says HB.out (stillInts_any K AI AW cI cW 2 [.slice A4 n4 c4, .slice A6 n6 c6] [.slice A8 n4 c8, .slice A10 n6 c10] _ (HS1.out.cell HC2.out) (HS1.out.cell HC3.out) (HS1.out.m.cell R0.out) (HS1.out.m.cell R1.out) (fun q hq => by
    match q, hq with
    | 0, _ => exact ⟨_, _, _, _, _, x4, rfl, rfl, (SlAt.own (HS1.out.m.own 4 _ R4.out)).ints, (SlAt.own (HS1.out.m.own 8 _ R8.out)).ints, (by have h := (HM0.out.own 4 _ R4.out).1; simpa [ints] using h), (by have := HN4.out; omega)⟩
    | 1, _ => exact ⟨_, _, _, _, _, x6, rfl, rfl, (SlAt.own (HS1.out.m.own 6 _ R6.out)).ints, (SlAt.own (HS1.out.m.own 10 _ R10.out)).ints, (by have h := (HM0.out.own 6 _ R6.out).1; simpa [ints] using h), (by have := HN6.out; omega)⟩) (by decide))).mono ?_
  rintro e w2 ⟨rfl, hS⟩
  have HS2 := Lib.hid hS
  clear hS HS1
  go_wp2_with fail
  refine (HS2.out.nil HB.out (stillKeys_nil K _ (HS2.out.cell (HNIL.out 4 (by decide) (by decide))))).mono ?_
  rintro e w3 ⟨rfl, hS⟩
  have HS3 := Lib.hid hS
  clear hS HS2
  go_wp2_with fail
  refine (HS3.out.nil HB.out (stillPostings_nil K _ (HS3.out.cell (HNIL.out 6 (by decide) (by decide))))).mono ?_
  rintro e w4 ⟨rfl, hS⟩
  have HS4 := Lib.hid hS
  clear hS HS3
  go_wp2_with fail
  refine (HS4.out.nil HB.out (stillParties_nil K _ (HS4.out.cell (HNIL.out 8 (by decide) (by decide))))).mono ?_
  rintro e w5 ⟨rfl, hS⟩
  have HS5 := Lib.hid hS
  clear hS HS4
  go_wp2_with fail
  refine (HS5.out.nil HB.out (stillAccounts_nil K _ (HS5.out.cell (HNIL.out 10 (by decide) (by decide))))).mono ?_
  rintro e w6 ⟨rfl, hS⟩
  have HS6 := Lib.hid hS
  clear hS HS5
  go_wp2_with fail
  refine (HS6.out.nil HB.out (stillAssets_nil K _ (HS6.out.cell (HNIL.out 12 (by decide) (by decide))))).mono ?_
  rintro e w7 ⟨rfl, hS⟩
  have HS7 := Lib.hid hS
  clear hS HS6
  go_wp2_with fail
  refine (HS7.out.nil HB.out (stillInsts_nil K _ (HS7.out.cell (HNIL.out 14 (by decide) (by decide))))).mono ?_
  rintro e w8 ⟨rfl, hS⟩
  have HS8 := Lib.hid hS
  clear hS HS7
  go_wp2_with fail
  refine (HS8.out.nil HB.out (stillPairs_nil K _ (HS8.out.cell (HNIL.out 16 (by decide) (by decide))))).mono ?_
  rintro e w9 ⟨rfl, hS⟩
  have HS9 := Lib.hid hS
  clear hS HS8
  go_wp2_with fail
  refine (HS9.out.nil HB.out (stillAllegs_nil K _ (HS9.out.cell (HNIL.out 18 (by decide) (by decide))))).mono ?_
  rintro e w10 ⟨rfl, hS⟩
  have HS10 := Lib.hid hS
  clear hS HS9
  go_wp2_with fail
  refine (HS10.out.nil HB.out (stillLinks_nil K _ (HS10.out.cell (HNIL.out 20 (by decide) (by decide))))).mono ?_
  rintro e w11 ⟨rfl, hS⟩
  have HS11 := Lib.hid hS
  clear hS HS10
  go_wp2_with fail
  refine (HS11.out.nil HB.out (stillPledges_nil K _ (HS11.out.cell (HNIL.out 22 (by decide) (by decide))))).mono ?_
  rintro e w12 ⟨rfl, hS⟩
  have HS12 := Lib.hid hS
  clear hS HS11
  go_wp2_with fail
  refine (HS12.out.nil HB.out (stillLoans_nil K _ (HS12.out.cell (HNIL.out 24 (by decide) (by decide))))).mono ?_
  rintro e w13 ⟨rfl, hS⟩
  have HS13 := Lib.hid hS
  clear hS HS12
  go_wp2_with fail
  refine (HS13.out.nil HB.out (stillTakes_nil K _ (HS13.out.cell (HNIL.out 26 (by decide) (by decide))))).mono ?_
  rintro e w14 ⟨rfl, hS⟩
  have HS14 := Lib.hid hS
  clear hS HS13
  go_wp2_with fail
  refine (HS14.out.nil HB.out (stillLegs_nil K _ (HS14.out.cell (HNIL.out 28 (by decide) (by decide))))).mono ?_
  rintro e w15 ⟨rfl, hS⟩
  have HS15 := Lib.hid hS
  clear hS HS14
  go_wp2_with fail
  refine (HS15.out.nil HB.out (stillStocks_nil K _ (HS15.out.cell (HNIL.out 30 (by decide) (by decide))))).mono ?_
  rintro e w16 ⟨rfl, hS⟩
  have HS16 := Lib.hid hS
  clear hS HS15
  go_wp2_with fail
  refine (HS16.out.nil HB.out (stillSteps_nil K _ (HS16.out.cell (HNIL.out 32 (by decide) (by decide))))).mono ?_
  rintro e w17 ⟨rfl, hS⟩
  have HS17 := Lib.hid hS
  clear hS HS16
  have l0L : Hid (l0.length = 12) := L12
  have l0R0 := R0
  have l0R1 := R1
  have l0R2 := R2
  have l0R3 := R3
  have l0R4 := R4
  have l0R5 := R5
  have l0R6 := R6
  have l0R7 := R7
  have l0R8 := R8
  have l0R9 := R9
  have l0R10 := R10
  have l0R11 := R11
  clear R0 R1 R2 R3 R4 R5 R6 R7 R8 R9 R10 R11
  have HNIL2 := HNIL
  go_wp2_with fail
  refine (HS17.out.nil0 HB.out (putAllegs_nil K _ (HS17.out.cell (HNIL.out 18 (by decide) (by decide))))).mono ?_
  rintro e w18 ⟨⟨_, rfl⟩, hS⟩
  have HS18 := Lib.hid hS
  clear hS HS17
  go_wp2_with fail
  refine (HS18.out.nil0 HB.out (putLoans_nil K _ (HS18.out.cell (HNIL.out 24 (by decide) (by decide))))).mono ?_
  rintro e w19 ⟨⟨_, rfl⟩, hS⟩
  have HS19 := Lib.hid hS
  clear hS HS18
  go_wp2_with fail
  refine (HS19.out.nil0 HB.out (putTakes_nil K _ (HS19.out.cell (HNIL.out 26 (by decide) (by decide))))).mono ?_
  rintro e w20 ⟨⟨_, rfl⟩, hS⟩
  have HS20 := Lib.hid hS
  clear hS HS19
  go_wp2_with fail
  refine (HS20.out.nil0 HB.out (putSteps_nil K _ (HS20.out.cell (HNIL.out 32 (by decide) (by decide))))).mono ?_
  rintro e w21 ⟨⟨_, rfl⟩, hS⟩
  have HS21 := Lib.hid hS
  clear hS HS20
  obtain ⟨LTexts, hL0, hL1, hL2⟩ : ∃ L : Nat → List Row, L 0 = l0 ∧ L 1 = l0.set 5 ⟨9, .slice A5 n5 c5, n5, strV (mTs 0 0 n5)⟩ ∧ L 2 = (l0.set 5 ⟨9, .slice A5 n5 c5, n5, strV (mTs 0 0 n5)⟩).set 7 ⟨9, .slice A7 n7 c7, n7, strV (mTs 1 0 n7)⟩ := ⟨fun q => match q with
    | 0 => l0
    | 1 => l0.set 5 ⟨9, .slice A5 n5 c5, n5, strV (mTs 0 0 n5)⟩
    | _ => (l0.set 5 ⟨9, .slice A5 n5 c5, n5, strV (mTs 0 0 n5)⟩).set 7 ⟨9, .slice A7 n7 c7, n7, strV (mTs 1 0 n7)⟩, rfl, rfl, rfl⟩
  have HPT : Hid (Calls Tryz.prog 79 #[.pointer (some ⟨K, 0, none⟩)] w21 fun en w' => (∃ u, en = .returned u) ∧ ApSt B K CS (LTexts 2) [] w w') := Lib.hid (by
    refine (putTexts_any B K CS LTexts [] 2 2 cT AT [.slice A5 n5 c5, .slice A7 n7 c7] w21 (by rw [hL0]; exact HS21.out.m) HS21.out.k (Nat.le_trans HB.out HS21.out.b.size) HC0.out (fun q hq => by
      match q, hq with
      | 0, _ => rw [hL0]; exact l0R2.out
      | 1, _ => rw [hL1]; exact get_set_ne l0R2.out (by decide)
      | 2, _ => rw [hL2]; exact get_set_ne (get_set_ne l0R2.out (by decide)) (by decide)) (fun q hq => by
      match q, hq with
      | 0, _ => rw [hL0]; exact HS21.out.n
      | 1, _ => rw [hL1]; exact HS21.out.n.set (show (9 : Nat) ≠ 76 by decide)
      | 2, _ => rw [hL2]; exact (HS21.out.n.set (show (9 : Nat) ≠ 76 by decide)).set (show (9 : Nat) ≠ 76 by decide)) (fun q hq => by
      match q, hq with
      | 0, _ =>
        rw [hL0, hL1]
        rcases mark_step (us' := strV (mTs 0 0 n5)) l0R5.out (HS21.out.m.own 5 _ l0R5.out) (by simp [strV, mTs_len]) with ⟨hv, hset⟩ | ⟨g, d, hv, hst⟩
        · exact .inl ⟨by show some (Value.slice A5 n5 c5) = _; rw [hv], hset⟩
        · exact .inr ⟨5, g, n5, d, _, by show some (Value.slice A5 n5 c5) = _; rw [hv], by have := HN5.out; omega, hst⟩
      | 1, _ =>
        rw [hL1, hL2]
        rcases mark_step (us' := strV (mTs 1 0 n7)) (get_set_ne (j := 5) (b := ⟨9, .slice A5 n5 c5, n5, strV (mTs 0 0 n5)⟩) l0R7.out (by decide)) (HS21.out.m.own 7 _ l0R7.out) (by simp [strV, mTs_len]) with ⟨hv, hset⟩ | ⟨g, d, hv, hst⟩
        · exact .inl ⟨by show some (Value.slice A7 n7 c7) = _; rw [hv], hset⟩
        · exact .inr ⟨7, g, n7, d, _, by show some (Value.slice A7 n7 c7) = _; rw [hv], by have := HN7.out; omega, hst⟩) (by decide)).mono ?_
    rintro en w' ⟨hu, hp⟩
    refine ⟨hu, hp.m, hp.k, HS21.out.b.trans hp.b, ?_⟩
    rw [hL2]
    exact (HS21.out.n.set (show (9 : Nat) ≠ 76 by decide)).set (show (9 : Nat) ≠ 76 by decide))
  obtain ⟨l1, hl1⟩ : ∃ x, LTexts 2 = x := ⟨_, rfl⟩
  rw [hl1] at HPT
  rw [hL2] at hl1
  have l1R0 : Hid (l1[0]? = some ⟨22, .slice AI 2 cI, 2, [.slice A4 n4 c4, .slice A6 n6 c6]⟩) := Lib.hid (by rw [← hl1]; exact get_set_ne (get_set_ne l0R0.out (by decide)) (by decide))
  have l1R1 : Hid (l1[1]? = some ⟨22, .slice AW 2 cW, 2, [.slice A8 n4 c8, .slice A10 n6 c10]⟩) := Lib.hid (by rw [← hl1]; exact get_set_ne (get_set_ne l0R1.out (by decide)) (by decide))
  have l1R2 : Hid (l1[2]? = some ⟨23, .slice AT 2 cT, 2, [.slice A5 n5 c5, .slice A7 n7 c7]⟩) := Lib.hid (by rw [← hl1]; exact get_set_ne (get_set_ne l0R2.out (by decide)) (by decide))
  have l1R3 : Hid (l1[3]? = some ⟨23, .slice AV 2 cV, 2, [.slice A9 n5 c9, .slice A11 n7 c11]⟩) := Lib.hid (by rw [← hl1]; exact get_set_ne (get_set_ne l0R3.out (by decide)) (by decide))
  have l1R4 : Hid (l1[4]? = some ⟨3, .slice A4 n4 c4, n4, ints x4⟩) := Lib.hid (by rw [← hl1]; exact get_set_ne (get_set_ne l0R4.out (by decide)) (by decide))
  have l1R5 : Hid (l1[5]? = some ⟨9, .slice A5 n5 c5, n5, strV (mTs 0 0 n5)⟩) := Lib.hid (by rw [← hl1]; exact get_set_ne (get_set_self l0R5.out _) (by decide))
  have l1R6 : Hid (l1[6]? = some ⟨3, .slice A6 n6 c6, n6, ints x6⟩) := Lib.hid (by rw [← hl1]; exact get_set_ne (get_set_ne l0R6.out (by decide)) (by decide))
  have l1R7 : Hid (l1[7]? = some ⟨9, .slice A7 n7 c7, n7, strV (mTs 1 0 n7)⟩) := Lib.hid (by rw [← hl1]; exact get_set_self (get_set_ne l0R7.out (by decide)) _)
  have l1R8 : Hid (l1[8]? = some ⟨3, .slice A8 n4 c8, n4, ints x4⟩) := Lib.hid (by rw [← hl1]; exact get_set_ne (get_set_ne l0R8.out (by decide)) (by decide))
  have l1R9 : Hid (l1[9]? = some ⟨9, .slice A9 n5 c9, n5, strV x5⟩) := Lib.hid (by rw [← hl1]; exact get_set_ne (get_set_ne l0R9.out (by decide)) (by decide))
  have l1R10 : Hid (l1[10]? = some ⟨3, .slice A10 n6 c10, n6, ints x6⟩) := Lib.hid (by rw [← hl1]; exact get_set_ne (get_set_ne l0R10.out (by decide)) (by decide))
  have l1R11 : Hid (l1[11]? = some ⟨9, .slice A11 n7 c11, n7, strV x7⟩) := Lib.hid (by rw [← hl1]; exact get_set_ne (get_set_ne l0R11.out (by decide)) (by decide))
  have l1L : Hid (l1.length = 12) := Lib.hid (by rw [← hl1, List.length_set, List.length_set]; exact l0L.out)
  clear hL0 hL1 hL2 hl1 l0R0 l0R1 l0R2 l0R3 l0R4 l0R5 l0R6 l0R7 l0R8 l0R9 l0R10 l0R11 HS21
  go_wp2_with fail
  refine HPT.out.mono ?_
  rintro e w22 ⟨⟨_, rfl⟩, hS⟩
  have HS22 := Lib.hid hS
  clear hS HPT
  obtain ⟨LInts, hL0, hL1, hL2⟩ : ∃ L : Nat → List Row, L 0 = l1 ∧ L 1 = l1.set 4 ⟨3, .slice A4 n4 c4, n4, ints (mIs 0 0 n4)⟩ ∧ L 2 = (l1.set 4 ⟨3, .slice A4 n4 c4, n4, ints (mIs 0 0 n4)⟩).set 6 ⟨3, .slice A6 n6 c6, n6, ints (mIs 1 0 n6)⟩ := ⟨fun q => match q with
    | 0 => l1
    | 1 => l1.set 4 ⟨3, .slice A4 n4 c4, n4, ints (mIs 0 0 n4)⟩
    | _ => (l1.set 4 ⟨3, .slice A4 n4 c4, n4, ints (mIs 0 0 n4)⟩).set 6 ⟨3, .slice A6 n6 c6, n6, ints (mIs 1 0 n6)⟩, rfl, rfl, rfl⟩
  have HPT : Hid (Calls Tryz.prog 80 #[.pointer (some ⟨K, 0, none⟩)] w22 fun en w' => (∃ u, en = .returned u) ∧ ApSt B K CS (LInts 2) [] w w') := Lib.hid (by
    refine (putInts_any B K CS LInts [] 0 2 cI AI [.slice A4 n4 c4, .slice A6 n6 c6] w22 (by rw [hL0]; exact HS22.out.m) HS22.out.k (Nat.le_trans HB.out HS22.out.b.size) HC2.out (fun q hq => by
      match q, hq with
      | 0, _ => rw [hL0]; exact l1R0.out
      | 1, _ => rw [hL1]; exact get_set_ne l1R0.out (by decide)
      | 2, _ => rw [hL2]; exact get_set_ne (get_set_ne l1R0.out (by decide)) (by decide)) (fun q hq => by
      match q, hq with
      | 0, _ => rw [hL0]; exact HS22.out.n
      | 1, _ => rw [hL1]; exact HS22.out.n.set (show (3 : Nat) ≠ 76 by decide)
      | 2, _ => rw [hL2]; exact (HS22.out.n.set (show (3 : Nat) ≠ 76 by decide)).set (show (3 : Nat) ≠ 76 by decide)) (fun q hq => by
      match q, hq with
      | 0, _ =>
        rw [hL0, hL1]
        rcases mark_step (us' := ints (mIs 0 0 n4)) l1R4.out (HS22.out.m.own 4 _ l1R4.out) (by simp [ints, mIs_len]) with ⟨hv, hset⟩ | ⟨g, d, hv, hst⟩
        · exact .inl ⟨by show some (Value.slice A4 n4 c4) = _; rw [hv], hset⟩
        · exact .inr ⟨4, g, n4, d, _, by show some (Value.slice A4 n4 c4) = _; rw [hv], by have := HN4.out; omega, hst⟩
      | 1, _ =>
        rw [hL1, hL2]
        rcases mark_step (us' := ints (mIs 1 0 n6)) (get_set_ne (j := 4) (b := ⟨3, .slice A4 n4 c4, n4, ints (mIs 0 0 n4)⟩) l1R6.out (by decide)) (HS22.out.m.own 6 _ l1R6.out) (by simp [ints, mIs_len]) with ⟨hv, hset⟩ | ⟨g, d, hv, hst⟩
        · exact .inl ⟨by show some (Value.slice A6 n6 c6) = _; rw [hv], hset⟩
        · exact .inr ⟨6, g, n6, d, _, by show some (Value.slice A6 n6 c6) = _; rw [hv], by have := HN6.out; omega, hst⟩) (by decide)).mono ?_
    rintro en w' ⟨hu, hp⟩
    refine ⟨hu, hp.m, hp.k, HS22.out.b.trans hp.b, ?_⟩
    rw [hL2]
    exact (HS22.out.n.set (show (3 : Nat) ≠ 76 by decide)).set (show (3 : Nat) ≠ 76 by decide))
  obtain ⟨l2, hl2⟩ : ∃ x, LInts 2 = x := ⟨_, rfl⟩
  rw [hl2] at HPT
  rw [hL2] at hl2
  have l2R0 : Hid (l2[0]? = some ⟨22, .slice AI 2 cI, 2, [.slice A4 n4 c4, .slice A6 n6 c6]⟩) := Lib.hid (by rw [← hl2]; exact get_set_ne (get_set_ne l1R0.out (by decide)) (by decide))
  have l2R1 : Hid (l2[1]? = some ⟨22, .slice AW 2 cW, 2, [.slice A8 n4 c8, .slice A10 n6 c10]⟩) := Lib.hid (by rw [← hl2]; exact get_set_ne (get_set_ne l1R1.out (by decide)) (by decide))
  have l2R2 : Hid (l2[2]? = some ⟨23, .slice AT 2 cT, 2, [.slice A5 n5 c5, .slice A7 n7 c7]⟩) := Lib.hid (by rw [← hl2]; exact get_set_ne (get_set_ne l1R2.out (by decide)) (by decide))
  have l2R3 : Hid (l2[3]? = some ⟨23, .slice AV 2 cV, 2, [.slice A9 n5 c9, .slice A11 n7 c11]⟩) := Lib.hid (by rw [← hl2]; exact get_set_ne (get_set_ne l1R3.out (by decide)) (by decide))
  have l2R4 : Hid (l2[4]? = some ⟨3, .slice A4 n4 c4, n4, ints (mIs 0 0 n4)⟩) := Lib.hid (by rw [← hl2]; exact get_set_ne (get_set_self l1R4.out _) (by decide))
  have l2R5 : Hid (l2[5]? = some ⟨9, .slice A5 n5 c5, n5, strV (mTs 0 0 n5)⟩) := Lib.hid (by rw [← hl2]; exact get_set_ne (get_set_ne l1R5.out (by decide)) (by decide))
  have l2R6 : Hid (l2[6]? = some ⟨3, .slice A6 n6 c6, n6, ints (mIs 1 0 n6)⟩) := Lib.hid (by rw [← hl2]; exact get_set_self (get_set_ne l1R6.out (by decide)) _)
  have l2R7 : Hid (l2[7]? = some ⟨9, .slice A7 n7 c7, n7, strV (mTs 1 0 n7)⟩) := Lib.hid (by rw [← hl2]; exact get_set_ne (get_set_ne l1R7.out (by decide)) (by decide))
  have l2R8 : Hid (l2[8]? = some ⟨3, .slice A8 n4 c8, n4, ints x4⟩) := Lib.hid (by rw [← hl2]; exact get_set_ne (get_set_ne l1R8.out (by decide)) (by decide))
  have l2R9 : Hid (l2[9]? = some ⟨9, .slice A9 n5 c9, n5, strV x5⟩) := Lib.hid (by rw [← hl2]; exact get_set_ne (get_set_ne l1R9.out (by decide)) (by decide))
  have l2R10 : Hid (l2[10]? = some ⟨3, .slice A10 n6 c10, n6, ints x6⟩) := Lib.hid (by rw [← hl2]; exact get_set_ne (get_set_ne l1R10.out (by decide)) (by decide))
  have l2R11 : Hid (l2[11]? = some ⟨9, .slice A11 n7 c11, n7, strV x7⟩) := Lib.hid (by rw [← hl2]; exact get_set_ne (get_set_ne l1R11.out (by decide)) (by decide))
  have l2L : Hid (l2.length = 12) := Lib.hid (by rw [← hl2, List.length_set, List.length_set]; exact l1L.out)
  clear hL0 hL1 hL2 hl2 l1R0 l1R1 l1R2 l1R3 l1R4 l1R5 l1R6 l1R7 l1R8 l1R9 l1R10 l1R11 HS22
  go_wp2_with fail
  refine HPT.out.mono ?_
  rintro e w23 ⟨⟨_, rfl⟩, hS⟩
  have HS23 := Lib.hid hS
  clear hS HPT
  go_wp2_with fail
  refine (HS23.out.nil0 HB.out (putKeys_nil K _ (HS23.out.cell (HNIL.out 4 (by decide) (by decide))))).mono ?_
  rintro e w24 ⟨⟨_, rfl⟩, hS⟩
  have HS24 := Lib.hid hS
  clear hS HS23
  go_wp2_with fail
  refine (HS24.out.nil0 HB.out (putPostings_nil K _ (HS24.out.cell (HNIL.out 6 (by decide) (by decide))))).mono ?_
  rintro e w25 ⟨⟨_, rfl⟩, hS⟩
  have HS25 := Lib.hid hS
  clear hS HS24
  go_wp2_with fail
  refine (HS25.out.nil0 HB.out (putParties_nil K _ (HS25.out.cell (HNIL.out 8 (by decide) (by decide))))).mono ?_
  rintro e w26 ⟨⟨_, rfl⟩, hS⟩
  have HS26 := Lib.hid hS
  clear hS HS25
  go_wp2_with fail
  refine (HS26.out.nil0 HB.out (putAccounts_nil K _ (HS26.out.cell (HNIL.out 10 (by decide) (by decide))))).mono ?_
  rintro e w27 ⟨⟨_, rfl⟩, hS⟩
  have HS27 := Lib.hid hS
  clear hS HS26
  go_wp2_with fail
  refine (HS27.out.nil0 HB.out (putAssets_nil K _ (HS27.out.cell (HNIL.out 12 (by decide) (by decide))))).mono ?_
  rintro e w28 ⟨⟨_, rfl⟩, hS⟩
  have HS28 := Lib.hid hS
  clear hS HS27
  go_wp2_with fail
  refine (HS28.out.nil0 HB.out (putInsts_nil K _ (HS28.out.cell (HNIL.out 14 (by decide) (by decide))))).mono ?_
  rintro e w29 ⟨⟨_, rfl⟩, hS⟩
  have HS29 := Lib.hid hS
  clear hS HS28
  go_wp2_with fail
  refine (HS29.out.nil0 HB.out (putPairs_nil K _ (HS29.out.cell (HNIL.out 16 (by decide) (by decide))))).mono ?_
  rintro e w30 ⟨⟨_, rfl⟩, hS⟩
  have HS30 := Lib.hid hS
  clear hS HS29
  go_wp2_with fail
  refine (HS30.out.nil0 HB.out (putLinks_nil K _ (HS30.out.cell (HNIL.out 20 (by decide) (by decide))))).mono ?_
  rintro e w31 ⟨⟨_, rfl⟩, hS⟩
  have HS31 := Lib.hid hS
  clear hS HS30
  go_wp2_with fail
  refine (HS31.out.nil0 HB.out (putPledges_nil K _ (HS31.out.cell (HNIL.out 22 (by decide) (by decide))))).mono ?_
  rintro e w32 ⟨⟨_, rfl⟩, hS⟩
  have HS32 := Lib.hid hS
  clear hS HS31
  go_wp2_with fail
  refine (HS32.out.nil0 HB.out (putLegs_nil K _ (HS32.out.cell (HNIL.out 28 (by decide) (by decide))))).mono ?_
  rintro e w33 ⟨⟨_, rfl⟩, hS⟩
  have HS33 := Lib.hid hS
  clear hS HS32
  go_wp2_with fail
  refine (HS33.out.nil0 HB.out (putStocks_nil K _ (HS33.out.cell (HNIL.out 30 (by decide) (by decide))))).mono ?_
  rintro e w34 ⟨⟨_, rfl⟩, hS⟩
  have HS34 := Lib.hid hS
  clear hS HS33
  have HBX := Lib.hid HS34.out.b
  obtain ⟨GTexts, hL0, hL1, hL2⟩ : ∃ L : Nat → List Row, L 0 = l2 ∧ L 1 = l2.set 5 (noRow 9) ∧ L 2 = (l2.set 5 (noRow 9)).set 7 (noRow 9) := ⟨fun q => match q with
    | 0 => l2
    | 1 => l2.set 5 (noRow 9)
    | _ => (l2.set 5 (noRow 9)).set 7 (noRow 9), rfl, rfl, rfl⟩
  have HGT := Lib.hid (growTexts_any B K CS GTexts [] 2 2 cT AT [.slice A5 n5 c5, .slice A7 n7 c7] w34 (by rw [hL0]; exact HS34.out.m) HS34.out.k (Nat.le_trans HB.out HS34.out.b.size) HC0.out (fun q hq => by
      match q, hq with
      | 0, _ => rw [hL0]; exact l2R2.out
      | 1, _ => rw [hL1]; exact get_set_ne l2R2.out (by decide)
      | 2, _ => rw [hL2]; exact get_set_ne (get_set_ne l2R2.out (by decide)) (by decide)) (by rw [hL0]; exact HS34.out.n) (fun q hq => by
      match q, hq with
      | 0, _ => exact ⟨5, n5, A5, c5, rfl, HN5.out, by rw [hL0]; exact l2R5.out, by rw [hL0, hL1]⟩
      | 1, _ => exact ⟨7, n7, A7, c7, rfl, HN7.out, by rw [hL1]; exact get_set_ne l2R7.out (by decide), by rw [hL1, hL2]⟩) (by decide))
  obtain ⟨l3, hl3⟩ : ∃ x, GTexts 2 = x := ⟨_, rfl⟩
  rw [hl3] at HGT
  rw [hL2] at hl3
  have l3P0 : Hid (l3[0]? = some (⟨22, .slice AI 2 cI, 2, [.slice A4 n4 c4, .slice A6 n6 c6]⟩)) := Lib.hid (by rw [← hl3]; exact get_set_ne (get_set_ne l2R0.out (by decide)) (by decide))
  have l3P1 : Hid (l3[1]? = some (⟨22, .slice AW 2 cW, 2, [.slice A8 n4 c8, .slice A10 n6 c10]⟩)) := Lib.hid (by rw [← hl3]; exact get_set_ne (get_set_ne l2R1.out (by decide)) (by decide))
  have l3P2 : Hid (l3[2]? = some (⟨23, .slice AT 2 cT, 2, [.slice A5 n5 c5, .slice A7 n7 c7]⟩)) := Lib.hid (by rw [← hl3]; exact get_set_ne (get_set_ne l2R2.out (by decide)) (by decide))
  have l3P3 : Hid (l3[3]? = some (⟨23, .slice AV 2 cV, 2, [.slice A9 n5 c9, .slice A11 n7 c11]⟩)) := Lib.hid (by rw [← hl3]; exact get_set_ne (get_set_ne l2R3.out (by decide)) (by decide))
  have l3P4 : Hid (l3[4]? = some (⟨3, .slice A4 n4 c4, n4, ints (mIs 0 0 n4)⟩)) := Lib.hid (by rw [← hl3]; exact get_set_ne (get_set_ne l2R4.out (by decide)) (by decide))
  have l3P5 : Hid (l3[5]? = some (noRow 9)) := Lib.hid (by rw [← hl3]; exact get_set_ne (get_set_self l2R5.out _) (by decide))
  have l3P6 : Hid (l3[6]? = some (⟨3, .slice A6 n6 c6, n6, ints (mIs 1 0 n6)⟩)) := Lib.hid (by rw [← hl3]; exact get_set_ne (get_set_ne l2R6.out (by decide)) (by decide))
  have l3P7 : Hid (l3[7]? = some (noRow 9)) := Lib.hid (by rw [← hl3]; exact get_set_self (get_set_ne l2R7.out (by decide)) _)
  have l3P8 : Hid (l3[8]? = some (⟨3, .slice A8 n4 c8, n4, ints x4⟩)) := Lib.hid (by rw [← hl3]; exact get_set_ne (get_set_ne l2R8.out (by decide)) (by decide))
  have l3P9 : Hid (l3[9]? = some (⟨9, .slice A9 n5 c9, n5, strV x5⟩)) := Lib.hid (by rw [← hl3]; exact get_set_ne (get_set_ne l2R9.out (by decide)) (by decide))
  have l3P10 : Hid (l3[10]? = some (⟨3, .slice A10 n6 c10, n6, ints x6⟩)) := Lib.hid (by rw [← hl3]; exact get_set_ne (get_set_ne l2R10.out (by decide)) (by decide))
  have l3P11 : Hid (l3[11]? = some (⟨9, .slice A11 n7 c11, n7, strV x7⟩)) := Lib.hid (by rw [← hl3]; exact get_set_ne (get_set_ne l2R11.out (by decide)) (by decide))
  have l3LEN : Hid (l3.length = l2.length) := Lib.hid (by rw [← hl3, List.length_set, List.length_set])
  clear hL0 hL1 hL2 hl3 l2R0 l2R1 l2R2 l2R3 l2R4 l2R5 l2R6 l2R7 l2R8 l2R9 l2R10 l2R11 HS34
  go_wp2_with fail
  refine HGT.out.mono ?_
  rintro e w35 ⟨_, rTexts, gsTexts, AoTexts, coTexts, rfl, rfl, hm, hk, hb, hr, hn, hg⟩
  have HB35 := Lib.hid hb
  have HRSTexts := Lib.hid hr
  have HGTexts := Lib.hid hg
  have l3R0 : Hid ((l3 ++ [(⟨23, .slice AoTexts 2 coTexts, 2, gsTexts⟩ : Row)])[0]? = some (⟨22, .slice AI 2 cI, 2, [.slice A4 n4 c4, .slice A6 n6 c6]⟩)) := Lib.hid (get_push l3P0.out)
  have l3R1 : Hid ((l3 ++ [(⟨23, .slice AoTexts 2 coTexts, 2, gsTexts⟩ : Row)])[1]? = some (⟨22, .slice AW 2 cW, 2, [.slice A8 n4 c8, .slice A10 n6 c10]⟩)) := Lib.hid (get_push l3P1.out)
  have l3R2 : Hid ((l3 ++ [(⟨23, .slice AoTexts 2 coTexts, 2, gsTexts⟩ : Row)])[2]? = some (⟨23, .slice AT 2 cT, 2, [.slice A5 n5 c5, .slice A7 n7 c7]⟩)) := Lib.hid (get_push l3P2.out)
  have l3R3 : Hid ((l3 ++ [(⟨23, .slice AoTexts 2 coTexts, 2, gsTexts⟩ : Row)])[3]? = some (⟨23, .slice AV 2 cV, 2, [.slice A9 n5 c9, .slice A11 n7 c11]⟩)) := Lib.hid (get_push l3P3.out)
  have l3R4 : Hid ((l3 ++ [(⟨23, .slice AoTexts 2 coTexts, 2, gsTexts⟩ : Row)])[4]? = some (⟨3, .slice A4 n4 c4, n4, ints (mIs 0 0 n4)⟩)) := Lib.hid (get_push l3P4.out)
  have l3R5 : Hid ((l3 ++ [(⟨23, .slice AoTexts 2 coTexts, 2, gsTexts⟩ : Row)])[5]? = some (noRow 9)) := Lib.hid (get_push l3P5.out)
  have l3R6 : Hid ((l3 ++ [(⟨23, .slice AoTexts 2 coTexts, 2, gsTexts⟩ : Row)])[6]? = some (⟨3, .slice A6 n6 c6, n6, ints (mIs 1 0 n6)⟩)) := Lib.hid (get_push l3P6.out)
  have l3R7 : Hid ((l3 ++ [(⟨23, .slice AoTexts 2 coTexts, 2, gsTexts⟩ : Row)])[7]? = some (noRow 9)) := Lib.hid (get_push l3P7.out)
  have l3R8 : Hid ((l3 ++ [(⟨23, .slice AoTexts 2 coTexts, 2, gsTexts⟩ : Row)])[8]? = some (⟨3, .slice A8 n4 c8, n4, ints x4⟩)) := Lib.hid (get_push l3P8.out)
  have l3R9 : Hid ((l3 ++ [(⟨23, .slice AoTexts 2 coTexts, 2, gsTexts⟩ : Row)])[9]? = some (⟨9, .slice A9 n5 c9, n5, strV x5⟩)) := Lib.hid (get_push l3P9.out)
  have l3R10 : Hid ((l3 ++ [(⟨23, .slice AoTexts 2 coTexts, 2, gsTexts⟩ : Row)])[10]? = some (⟨3, .slice A10 n6 c10, n6, ints x6⟩)) := Lib.hid (get_push l3P10.out)
  have l3R11 : Hid ((l3 ++ [(⟨23, .slice AoTexts 2 coTexts, 2, gsTexts⟩ : Row)])[11]? = some (⟨9, .slice A11 n7 c11, n7, strV x7⟩)) := Lib.hid (get_push l3P11.out)
  have l3R12 : Hid ((l3 ++ [(⟨23, .slice AoTexts 2 coTexts, 2, gsTexts⟩ : Row)])[12]? = some (⟨23, .slice AoTexts 2 coTexts, 2, gsTexts⟩ : Row)) := Lib.hid (by
    have h := get_last l3 (⟨23, .slice AoTexts 2 coTexts, 2, gsTexts⟩ : Row)
    rw [l3LEN.out, l2L.out] at h
    exact h)
  have l3xL : Hid ((l3 ++ [(⟨23, .slice AoTexts 2 coTexts, 2, gsTexts⟩ : Row)]).length = 13) := Lib.hid (by rw [List.length_append, l3LEN.out, l2L.out]; rfl)
  have HS35 : Hid (ApSt B K CS (l3 ++ [(⟨23, .slice AoTexts 2 coTexts, 2, gsTexts⟩ : Row)]) rTexts w w35) := Lib.hid ⟨hm, hk, HBX.out.trans hb, hn⟩
  generalize l3 ++ [(⟨23, .slice AoTexts 2 coTexts, 2, gsTexts⟩ : Row)] = l3x at *
  clear hm hk hb hr hn hg HGT l3P0 l3P1 l3P2 l3P3 l3P4 l3P5 l3P6 l3P7 l3P8 l3P9 l3P10 l3P11 HBX
  have HBX := Lib.hid HS35.out.b
  have l3xR0 := l3R0
  have l3xR1 := l3R1
  have l3xR2 := l3R2
  have l3xR3 := l3R3
  have l3xR4 := l3R4
  have l3xR5 := l3R5
  have l3xR6 := l3R6
  have l3xR7 := l3R7
  have l3xR8 := l3R8
  have l3xR9 := l3R9
  have l3xR10 := l3R10
  have l3xR11 := l3R11
  have l3xR12 := l3R12
  clear l3R0 l3R1 l3R2 l3R3 l3R4 l3R5 l3R6 l3R7 l3R8 l3R9 l3R10 l3R11 l3R12
  obtain ⟨GInts, hL0, hL1, hL2⟩ : ∃ L : Nat → List Row, L 0 = l3x ∧ L 1 = l3x.set 4 (noRow 3) ∧ L 2 = (l3x.set 4 (noRow 3)).set 6 (noRow 3) := ⟨fun q => match q with
    | 0 => l3x
    | 1 => l3x.set 4 (noRow 3)
    | _ => (l3x.set 4 (noRow 3)).set 6 (noRow 3), rfl, rfl, rfl⟩
  have HGT := Lib.hid (growInts_any B K CS GInts rTexts 0 2 cI AI [.slice A4 n4 c4, .slice A6 n6 c6] w35 (by rw [hL0]; exact HS35.out.m) HS35.out.k (Nat.le_trans HB.out HS35.out.b.size) HC2.out (fun q hq => by
      match q, hq with
      | 0, _ => rw [hL0]; exact l3xR0.out
      | 1, _ => rw [hL1]; exact get_set_ne l3xR0.out (by decide)
      | 2, _ => rw [hL2]; exact get_set_ne (get_set_ne l3xR0.out (by decide)) (by decide)) (by rw [hL0]; exact HS35.out.n) (fun q hq => by
      match q, hq with
      | 0, _ => exact ⟨4, n4, A4, c4, rfl, HN4.out, by rw [hL0]; exact l3xR4.out, by rw [hL0, hL1]⟩
      | 1, _ => exact ⟨6, n6, A6, c6, rfl, HN6.out, by rw [hL1]; exact get_set_ne l3xR6.out (by decide), by rw [hL1, hL2]⟩) (by decide))
  obtain ⟨l4, hl4⟩ : ∃ x, GInts 2 = x := ⟨_, rfl⟩
  rw [hl4] at HGT
  rw [hL2] at hl4
  have l4P0 : Hid (l4[0]? = some (⟨22, .slice AI 2 cI, 2, [.slice A4 n4 c4, .slice A6 n6 c6]⟩)) := Lib.hid (by rw [← hl4]; exact get_set_ne (get_set_ne l3xR0.out (by decide)) (by decide))
  have l4P1 : Hid (l4[1]? = some (⟨22, .slice AW 2 cW, 2, [.slice A8 n4 c8, .slice A10 n6 c10]⟩)) := Lib.hid (by rw [← hl4]; exact get_set_ne (get_set_ne l3xR1.out (by decide)) (by decide))
  have l4P2 : Hid (l4[2]? = some (⟨23, .slice AT 2 cT, 2, [.slice A5 n5 c5, .slice A7 n7 c7]⟩)) := Lib.hid (by rw [← hl4]; exact get_set_ne (get_set_ne l3xR2.out (by decide)) (by decide))
  have l4P3 : Hid (l4[3]? = some (⟨23, .slice AV 2 cV, 2, [.slice A9 n5 c9, .slice A11 n7 c11]⟩)) := Lib.hid (by rw [← hl4]; exact get_set_ne (get_set_ne l3xR3.out (by decide)) (by decide))
  have l4P4 : Hid (l4[4]? = some (noRow 3)) := Lib.hid (by rw [← hl4]; exact get_set_ne (get_set_self l3xR4.out _) (by decide))
  have l4P5 : Hid (l4[5]? = some (noRow 9)) := Lib.hid (by rw [← hl4]; exact get_set_ne (get_set_ne l3xR5.out (by decide)) (by decide))
  have l4P6 : Hid (l4[6]? = some (noRow 3)) := Lib.hid (by rw [← hl4]; exact get_set_self (get_set_ne l3xR6.out (by decide)) _)
  have l4P7 : Hid (l4[7]? = some (noRow 9)) := Lib.hid (by rw [← hl4]; exact get_set_ne (get_set_ne l3xR7.out (by decide)) (by decide))
  have l4P8 : Hid (l4[8]? = some (⟨3, .slice A8 n4 c8, n4, ints x4⟩)) := Lib.hid (by rw [← hl4]; exact get_set_ne (get_set_ne l3xR8.out (by decide)) (by decide))
  have l4P9 : Hid (l4[9]? = some (⟨9, .slice A9 n5 c9, n5, strV x5⟩)) := Lib.hid (by rw [← hl4]; exact get_set_ne (get_set_ne l3xR9.out (by decide)) (by decide))
  have l4P10 : Hid (l4[10]? = some (⟨3, .slice A10 n6 c10, n6, ints x6⟩)) := Lib.hid (by rw [← hl4]; exact get_set_ne (get_set_ne l3xR10.out (by decide)) (by decide))
  have l4P11 : Hid (l4[11]? = some (⟨9, .slice A11 n7 c11, n7, strV x7⟩)) := Lib.hid (by rw [← hl4]; exact get_set_ne (get_set_ne l3xR11.out (by decide)) (by decide))
  have l4P12 : Hid (l4[12]? = some ((⟨23, .slice AoTexts 2 coTexts, 2, gsTexts⟩ : Row))) := Lib.hid (by rw [← hl4]; exact get_set_ne (get_set_ne l3xR12.out (by decide)) (by decide))
  have l4LEN : Hid (l4.length = l3x.length) := Lib.hid (by rw [← hl4, List.length_set, List.length_set])
  clear hL0 hL1 hL2 hl4 l3xR0 l3xR1 l3xR2 l3xR3 l3xR4 l3xR5 l3xR6 l3xR7 l3xR8 l3xR9 l3xR10 l3xR11 l3xR12 HS35
  go_wp2_with fail
  refine HGT.out.mono ?_
  rintro e w36 ⟨_, rInts, gsInts, AoInts, coInts, rfl, rfl, hm, hk, hb, hr, hn, hg⟩
  have HB36 := Lib.hid hb
  have HRSInts := Lib.hid hr
  have HGInts := Lib.hid hg
  have l4R0 : Hid ((l4 ++ [(⟨22, .slice AoInts 2 coInts, 2, gsInts⟩ : Row)])[0]? = some (⟨22, .slice AI 2 cI, 2, [.slice A4 n4 c4, .slice A6 n6 c6]⟩)) := Lib.hid (get_push l4P0.out)
  have l4R1 : Hid ((l4 ++ [(⟨22, .slice AoInts 2 coInts, 2, gsInts⟩ : Row)])[1]? = some (⟨22, .slice AW 2 cW, 2, [.slice A8 n4 c8, .slice A10 n6 c10]⟩)) := Lib.hid (get_push l4P1.out)
  have l4R2 : Hid ((l4 ++ [(⟨22, .slice AoInts 2 coInts, 2, gsInts⟩ : Row)])[2]? = some (⟨23, .slice AT 2 cT, 2, [.slice A5 n5 c5, .slice A7 n7 c7]⟩)) := Lib.hid (get_push l4P2.out)
  have l4R3 : Hid ((l4 ++ [(⟨22, .slice AoInts 2 coInts, 2, gsInts⟩ : Row)])[3]? = some (⟨23, .slice AV 2 cV, 2, [.slice A9 n5 c9, .slice A11 n7 c11]⟩)) := Lib.hid (get_push l4P3.out)
  have l4R4 : Hid ((l4 ++ [(⟨22, .slice AoInts 2 coInts, 2, gsInts⟩ : Row)])[4]? = some (noRow 3)) := Lib.hid (get_push l4P4.out)
  have l4R5 : Hid ((l4 ++ [(⟨22, .slice AoInts 2 coInts, 2, gsInts⟩ : Row)])[5]? = some (noRow 9)) := Lib.hid (get_push l4P5.out)
  have l4R6 : Hid ((l4 ++ [(⟨22, .slice AoInts 2 coInts, 2, gsInts⟩ : Row)])[6]? = some (noRow 3)) := Lib.hid (get_push l4P6.out)
  have l4R7 : Hid ((l4 ++ [(⟨22, .slice AoInts 2 coInts, 2, gsInts⟩ : Row)])[7]? = some (noRow 9)) := Lib.hid (get_push l4P7.out)
  have l4R8 : Hid ((l4 ++ [(⟨22, .slice AoInts 2 coInts, 2, gsInts⟩ : Row)])[8]? = some (⟨3, .slice A8 n4 c8, n4, ints x4⟩)) := Lib.hid (get_push l4P8.out)
  have l4R9 : Hid ((l4 ++ [(⟨22, .slice AoInts 2 coInts, 2, gsInts⟩ : Row)])[9]? = some (⟨9, .slice A9 n5 c9, n5, strV x5⟩)) := Lib.hid (get_push l4P9.out)
  have l4R10 : Hid ((l4 ++ [(⟨22, .slice AoInts 2 coInts, 2, gsInts⟩ : Row)])[10]? = some (⟨3, .slice A10 n6 c10, n6, ints x6⟩)) := Lib.hid (get_push l4P10.out)
  have l4R11 : Hid ((l4 ++ [(⟨22, .slice AoInts 2 coInts, 2, gsInts⟩ : Row)])[11]? = some (⟨9, .slice A11 n7 c11, n7, strV x7⟩)) := Lib.hid (get_push l4P11.out)
  have l4R12 : Hid ((l4 ++ [(⟨22, .slice AoInts 2 coInts, 2, gsInts⟩ : Row)])[12]? = some ((⟨23, .slice AoTexts 2 coTexts, 2, gsTexts⟩ : Row))) := Lib.hid (get_push l4P12.out)
  have l4R13 : Hid ((l4 ++ [(⟨22, .slice AoInts 2 coInts, 2, gsInts⟩ : Row)])[13]? = some (⟨22, .slice AoInts 2 coInts, 2, gsInts⟩ : Row)) := Lib.hid (by
    have h := get_last l4 (⟨22, .slice AoInts 2 coInts, 2, gsInts⟩ : Row)
    rw [l4LEN.out, l3xL.out] at h
    exact h)
  have l4xL : Hid ((l4 ++ [(⟨22, .slice AoInts 2 coInts, 2, gsInts⟩ : Row)]).length = 14) := Lib.hid (by rw [List.length_append, l4LEN.out, l3xL.out]; rfl)
  have HS36 : Hid (ApSt B K CS (l4 ++ [(⟨22, .slice AoInts 2 coInts, 2, gsInts⟩ : Row)]) rInts w w36) := Lib.hid ⟨hm, hk, HBX.out.trans hb, hn⟩
  generalize l4 ++ [(⟨22, .slice AoInts 2 coInts, 2, gsInts⟩ : Row)] = l4x at *
  clear hm hk hb hr hn hg HGT l4P0 l4P1 l4P2 l4P3 l4P4 l4P5 l4P6 l4P7 l4P8 l4P9 l4P10 l4P11 l4P12 HBX
  have HBX := Lib.hid HS36.out.b
  have l4xR0 := l4R0
  have l4xR1 := l4R1
  have l4xR2 := l4R2
  have l4xR3 := l4R3
  have l4xR4 := l4R4
  have l4xR5 := l4R5
  have l4xR6 := l4R6
  have l4xR7 := l4R7
  have l4xR8 := l4R8
  have l4xR9 := l4R9
  have l4xR10 := l4R10
  have l4xR11 := l4R11
  have l4xR12 := l4R12
  have l4xR13 := l4R13
  clear l4R0 l4R1 l4R2 l4R3 l4R4 l4R5 l4R6 l4R7 l4R8 l4R9 l4R10 l4R11 l4R12 l4R13
  go_wp2_with fail
  refine (HS36.out.nil HB.out (growKeys_nil K _ (HS36.out.cell (HNIL.out 4 (by decide) (by decide))))).mono ?_
  rintro e w37 ⟨rfl, hS⟩
  have HS37 := Lib.hid hS
  clear hS HS36
  go_wp2_with fail
  refine (HS37.out.nil HB.out (growPostings_nil K _ (HS37.out.cell (HNIL.out 6 (by decide) (by decide))))).mono ?_
  rintro e w38 ⟨rfl, hS⟩
  have HS38 := Lib.hid hS
  clear hS HS37
  go_wp2_with fail
  refine (HS38.out.nil HB.out (growParties_nil K _ (HS38.out.cell (HNIL.out 8 (by decide) (by decide))))).mono ?_
  rintro e w39 ⟨rfl, hS⟩
  have HS39 := Lib.hid hS
  clear hS HS38
  go_wp2_with fail
  refine (HS39.out.nil HB.out (growAccounts_nil K _ (HS39.out.cell (HNIL.out 10 (by decide) (by decide))))).mono ?_
  rintro e w40 ⟨rfl, hS⟩
  have HS40 := Lib.hid hS
  clear hS HS39
  go_wp2_with fail
  refine (HS40.out.nil HB.out (growAssets_nil K _ (HS40.out.cell (HNIL.out 12 (by decide) (by decide))))).mono ?_
  rintro e w41 ⟨rfl, hS⟩
  have HS41 := Lib.hid hS
  clear hS HS40
  go_wp2_with fail
  refine (HS41.out.nil HB.out (growInsts_nil K _ (HS41.out.cell (HNIL.out 14 (by decide) (by decide))))).mono ?_
  rintro e w42 ⟨rfl, hS⟩
  have HS42 := Lib.hid hS
  clear hS HS41
  go_wp2_with fail
  refine (HS42.out.nil HB.out (growPairs_nil K _ (HS42.out.cell (HNIL.out 16 (by decide) (by decide))))).mono ?_
  rintro e w43 ⟨rfl, hS⟩
  have HS43 := Lib.hid hS
  clear hS HS42
  go_wp2_with fail
  refine (HS43.out.nil HB.out (growAllegs_nil K _ (HS43.out.cell (HNIL.out 18 (by decide) (by decide))))).mono ?_
  rintro e w44 ⟨rfl, hS⟩
  have HS44 := Lib.hid hS
  clear hS HS43
  go_wp2_with fail
  refine (HS44.out.nil HB.out (growLinks_nil K _ (HS44.out.cell (HNIL.out 20 (by decide) (by decide))))).mono ?_
  rintro e w45 ⟨rfl, hS⟩
  have HS45 := Lib.hid hS
  clear hS HS44
  go_wp2_with fail
  refine (HS45.out.nil HB.out (growPledges_nil K _ (HS45.out.cell (HNIL.out 22 (by decide) (by decide))))).mono ?_
  rintro e w46 ⟨rfl, hS⟩
  have HS46 := Lib.hid hS
  clear hS HS45
  go_wp2_with fail
  refine (HS46.out.nil HB.out (growLoans_nil K _ (HS46.out.cell (HNIL.out 24 (by decide) (by decide))))).mono ?_
  rintro e w47 ⟨rfl, hS⟩
  have HS47 := Lib.hid hS
  clear hS HS46
  go_wp2_with fail
  refine (HS47.out.nil HB.out (growTakes_nil K _ (HS47.out.cell (HNIL.out 26 (by decide) (by decide))))).mono ?_
  rintro e w48 ⟨rfl, hS⟩
  have HS48 := Lib.hid hS
  clear hS HS47
  go_wp2_with fail
  refine (HS48.out.nil HB.out (growLegs_nil K _ (HS48.out.cell (HNIL.out 28 (by decide) (by decide))))).mono ?_
  rintro e w49 ⟨rfl, hS⟩
  have HS49 := Lib.hid hS
  clear hS HS48
  go_wp2_with fail
  refine (HS49.out.nil HB.out (growStocks_nil K _ (HS49.out.cell (HNIL.out 30 (by decide) (by decide))))).mono ?_
  rintro e w50 ⟨rfl, hS⟩
  have HS50 := Lib.hid hS
  clear hS HS49
  go_wp2_with fail
  refine (HS50.out.nil HB.out (growSteps_nil K _ (HS50.out.cell (HNIL.out 32 (by decide) (by decide))))).mono ?_
  rintro e w51 ⟨rfl, hS⟩
  have HS51 := Lib.hid hS
  clear hS HS50
  go_wp2_with fail
  refine (HS51.out.says HB.out (markedTexts_any AoTexts 2 coTexts gsTexts _ (HS51.out.m.cell l4xR12.out) (fun q hq => by
    obtain ⟨n, A1, c1, A2, c2, h1, h2, h3, h4, h5⟩ := HGTexts.out q hq
    exact ⟨A2, c2, n + 72, h2, (SlAt.own (HS51.out.m.rd _ (HRSInts.out _ h5))).texts, by omega⟩) (by decide))).mono ?_
  rintro e w52 ⟨rfl, hS⟩
  have HS52 := Lib.hid hS
  clear hS HS51
  have bTexts := HS52.out.cell HC0.out
  go_wp2_with fail
  refine (HS52.out.says HB.out (markedTexts_any AT 2 cT [.slice A5 n5 c5, .slice A7 n7 c7] _ (HS52.out.m.cell l4xR2.out) (fun q hq => by
    obtain ⟨n, A1, c1, A2, c2, h1, h2, h3, h4, h5⟩ := HGTexts.out q hq
    exact ⟨A1, c1, n, h1, (SlAt.own (HS52.out.m.rd _ (HRSInts.out _ h4))).texts, by omega⟩) (by decide))).mono ?_
  rintro e w53 ⟨rfl, hS⟩
  have HS53 := Lib.hid hS
  clear hS HS52 bTexts
  go_wp2_with fail
  refine (HS53.out.says HB.out (markedInts_any AoInts 2 coInts gsInts _ (HS53.out.m.cell l4xR13.out) (fun q hq => by
    obtain ⟨n, A1, c1, A2, c2, h1, h2, h3, h4, h5⟩ := HGInts.out q hq
    exact ⟨A2, c2, n + 72, h2, (SlAt.own (HS53.out.m.rd _ h5)).ints, by omega⟩) (by decide))).mono ?_
  rintro e w54 ⟨rfl, hS⟩
  have HS54 := Lib.hid hS
  clear hS HS53
  have bInts := HS54.out.cell HC2.out
  go_wp2_with fail
  refine (HS54.out.says HB.out (markedInts_any AI 2 cI [.slice A4 n4 c4, .slice A6 n6 c6] _ (HS54.out.m.cell l4xR0.out) (fun q hq => by
    obtain ⟨n, A1, c1, A2, c2, h1, h2, h3, h4, h5⟩ := HGInts.out q hq
    exact ⟨A1, c1, n, h1, (SlAt.own (HS54.out.m.rd _ h4)).ints, by omega⟩) (by decide))).mono ?_
  rintro e w55 ⟨rfl, hS⟩
  have HS55 := Lib.hid hS
  clear hS HS54 bInts
  go_wp2_with fail
  refine (HS55.out.nil HB.out (markedKeys_nil _)).mono ?_
  rintro e w56 ⟨rfl, hS⟩
  have HS56 := Lib.hid hS
  clear hS HS55
  have bKeys := HS56.out.cell (HNIL.out 4 (by decide) (by decide))
  go_wp2_with fail
  refine (HS56.out.nil HB.out (markedKeys_nil _)).mono ?_
  rintro e w57 ⟨rfl, hS⟩
  have HS57 := Lib.hid hS
  clear hS HS56 bKeys
  go_wp2_with fail
  refine (HS57.out.nil HB.out (markedPostings_nil _)).mono ?_
  rintro e w58 ⟨rfl, hS⟩
  have HS58 := Lib.hid hS
  clear hS HS57
  have bPostings := HS58.out.cell (HNIL.out 6 (by decide) (by decide))
  go_wp2_with fail
  refine (HS58.out.nil HB.out (markedPostings_nil _)).mono ?_
  rintro e w59 ⟨rfl, hS⟩
  have HS59 := Lib.hid hS
  clear hS HS58 bPostings
  go_wp2_with fail
  refine (HS59.out.nil HB.out (markedParties_nil _)).mono ?_
  rintro e w60 ⟨rfl, hS⟩
  have HS60 := Lib.hid hS
  clear hS HS59
  have bParties := HS60.out.cell (HNIL.out 8 (by decide) (by decide))
  go_wp2_with fail
  refine (HS60.out.nil HB.out (markedParties_nil _)).mono ?_
  rintro e w61 ⟨rfl, hS⟩
  have HS61 := Lib.hid hS
  clear hS HS60 bParties
  go_wp2_with fail
  refine (HS61.out.nil HB.out (markedAccounts_nil _)).mono ?_
  rintro e w62 ⟨rfl, hS⟩
  have HS62 := Lib.hid hS
  clear hS HS61
  have bAccounts := HS62.out.cell (HNIL.out 10 (by decide) (by decide))
  go_wp2_with fail
  refine (HS62.out.nil HB.out (markedAccounts_nil _)).mono ?_
  rintro e w63 ⟨rfl, hS⟩
  have HS63 := Lib.hid hS
  clear hS HS62 bAccounts
  go_wp2_with fail
  refine (HS63.out.nil HB.out (markedAssets_nil _)).mono ?_
  rintro e w64 ⟨rfl, hS⟩
  have HS64 := Lib.hid hS
  clear hS HS63
  have bAssets := HS64.out.cell (HNIL.out 12 (by decide) (by decide))
  go_wp2_with fail
  refine (HS64.out.nil HB.out (markedAssets_nil _)).mono ?_
  rintro e w65 ⟨rfl, hS⟩
  have HS65 := Lib.hid hS
  clear hS HS64 bAssets
  go_wp2_with fail
  refine (HS65.out.nil HB.out (markedInsts_nil _)).mono ?_
  rintro e w66 ⟨rfl, hS⟩
  have HS66 := Lib.hid hS
  clear hS HS65
  have bInsts := HS66.out.cell (HNIL.out 14 (by decide) (by decide))
  go_wp2_with fail
  refine (HS66.out.nil HB.out (markedInsts_nil _)).mono ?_
  rintro e w67 ⟨rfl, hS⟩
  have HS67 := Lib.hid hS
  clear hS HS66 bInsts
  go_wp2_with fail
  refine (HS67.out.nil HB.out (markedPairs_nil _)).mono ?_
  rintro e w68 ⟨rfl, hS⟩
  have HS68 := Lib.hid hS
  clear hS HS67
  have bPairs := HS68.out.cell (HNIL.out 16 (by decide) (by decide))
  go_wp2_with fail
  refine (HS68.out.nil HB.out (markedPairs_nil _)).mono ?_
  rintro e w69 ⟨rfl, hS⟩
  have HS69 := Lib.hid hS
  clear hS HS68 bPairs
  go_wp2_with fail
  refine (HS69.out.nil HB.out (markedAllegs_nil _)).mono ?_
  rintro e w70 ⟨rfl, hS⟩
  have HS70 := Lib.hid hS
  clear hS HS69
  have bAllegs := HS70.out.cell (HNIL.out 18 (by decide) (by decide))
  go_wp2_with fail
  refine (HS70.out.nil HB.out (markedAllegs_nil _)).mono ?_
  rintro e w71 ⟨rfl, hS⟩
  have HS71 := Lib.hid hS
  clear hS HS70 bAllegs
  go_wp2_with fail
  refine (HS71.out.nil HB.out (markedLinks_nil _)).mono ?_
  rintro e w72 ⟨rfl, hS⟩
  have HS72 := Lib.hid hS
  clear hS HS71
  have bLinks := HS72.out.cell (HNIL.out 20 (by decide) (by decide))
  go_wp2_with fail
  refine (HS72.out.nil HB.out (markedLinks_nil _)).mono ?_
  rintro e w73 ⟨rfl, hS⟩
  have HS73 := Lib.hid hS
  clear hS HS72 bLinks
  go_wp2_with fail
  refine (HS73.out.nil HB.out (markedPledges_nil _)).mono ?_
  rintro e w74 ⟨rfl, hS⟩
  have HS74 := Lib.hid hS
  clear hS HS73
  have bPledges := HS74.out.cell (HNIL.out 22 (by decide) (by decide))
  go_wp2_with fail
  refine (HS74.out.nil HB.out (markedPledges_nil _)).mono ?_
  rintro e w75 ⟨rfl, hS⟩
  have HS75 := Lib.hid hS
  clear hS HS74 bPledges
  go_wp2_with fail
  refine (HS75.out.nil HB.out (markedLoans_nil _)).mono ?_
  rintro e w76 ⟨rfl, hS⟩
  have HS76 := Lib.hid hS
  clear hS HS75
  have bLoans := HS76.out.cell (HNIL.out 24 (by decide) (by decide))
  go_wp2_with fail
  refine (HS76.out.nil HB.out (markedLoans_nil _)).mono ?_
  rintro e w77 ⟨rfl, hS⟩
  have HS77 := Lib.hid hS
  clear hS HS76 bLoans
  go_wp2_with fail
  refine (HS77.out.nil HB.out (markedTakes_nil _)).mono ?_
  rintro e w78 ⟨rfl, hS⟩
  have HS78 := Lib.hid hS
  clear hS HS77
  have bTakes := HS78.out.cell (HNIL.out 26 (by decide) (by decide))
  go_wp2_with fail
  refine (HS78.out.nil HB.out (markedTakes_nil _)).mono ?_
  rintro e w79 ⟨rfl, hS⟩
  have HS79 := Lib.hid hS
  clear hS HS78 bTakes
  go_wp2_with fail
  refine (HS79.out.nil HB.out (markedLegs_nil _)).mono ?_
  rintro e w80 ⟨rfl, hS⟩
  have HS80 := Lib.hid hS
  clear hS HS79
  have bLegs := HS80.out.cell (HNIL.out 28 (by decide) (by decide))
  go_wp2_with fail
  refine (HS80.out.nil HB.out (markedLegs_nil _)).mono ?_
  rintro e w81 ⟨rfl, hS⟩
  have HS81 := Lib.hid hS
  clear hS HS80 bLegs
  go_wp2_with fail
  refine (HS81.out.nil HB.out (markedStocks_nil _)).mono ?_
  rintro e w82 ⟨rfl, hS⟩
  have HS82 := Lib.hid hS
  clear hS HS81
  have bStocks := HS82.out.cell (HNIL.out 30 (by decide) (by decide))
  go_wp2_with fail
  refine (HS82.out.nil HB.out (markedStocks_nil _)).mono ?_
  rintro e w83 ⟨rfl, hS⟩
  have HS83 := Lib.hid hS
  clear hS HS82 bStocks
  go_wp2_with fail
  refine (HS83.out.nil HB.out (markedSteps_nil _)).mono ?_
  rintro e w84 ⟨rfl, hS⟩
  have HS84 := Lib.hid hS
  clear hS HS83
  have bSteps := HS84.out.cell (HNIL.out 32 (by decide) (by decide))
  go_wp2_with fail
  refine (HS84.out.nil HB.out (markedSteps_nil _)).mono ?_
  rintro e w85 ⟨rfl, hS⟩
  have HS85 := Lib.hid hS
  clear hS HS84 bSteps
  go_wp2_with fail
  refine bodyPost_ret (results_tmp rfl _ _ _) rfl ?_
  exact ⟨rfl, HS85.out.b⟩
end Go.Proofs.YthlpdficpmdebaaGreat.Wire
