/- The document's sum of numbers: (*complineref1.Acc).Sum, where all are small. -/
import Derived.Test.YtdfgedemolielaaGreatJ3
import Derived.Lib.Hide
import Derived.Lib.BufferWrite
import Derived.WalkKit
import Derived.Handy
import Derived.BigQuiet
import Derived.Deep.RegionHeld3
import Derived.LoopTactic
import Derived.IntWalk
namespace Go.Proofs.YtdfgedemolielaaGreat
open Go Go.RowKit Gv Go.Lib
def isum : List Int → Int
 | [] => 0
 | x :: l => x + isum l
def ups : List Int → Nat
 | [] => 0
 | x :: l => x.toNat + ups l
def downs : List Int → Nat
 | [] => 0
 | x :: l => (-x).toNat + downs l
theorem ups_downs : ∀ l : List Int, isum l = (ups l : Int) - downs l
 | [] => rfl
 | x :: l => by rw [isum, ups, downs, ups_downs l]; omega
theorem ups_app : ∀ (l : List Int) (x : Int), ups (l ++ [x]) = ups l + x.toNat
 | [], x => by simp [ups]
 | y :: l, x => by rw [List.cons_append, ups, ups_app l x, ups]; omega
theorem downs_app : ∀ (l : List Int) (x : Int), downs (l ++ [x]) = downs l + (-x).toNat
 | [], x => by simp [downs]
 | y :: l, x => by rw [List.cons_append, downs, downs_app l x, downs]; omega
theorem sums_le : ∀ (l : List Int), (∀ x ∈ l, -1125899906842624 ≤ x ∧ x ≤ 1125899906842624) → ups l + downs l ≤ 1125899906842624 * l.length
 | [], _ => by simp [ups, downs]
 | x :: l, h => by
   have h1 := h x (by simp)
   have h2 := sums_le l (fun y hy => h y (by simp [hy]))
   rw [ups, downs, List.length_cons]
   omega
theorem dgs (v : Nat) (h : v < 1237940039285380274899124224) : bigV v = .agg #[.int .i64 ((v % 1073741824 : Nat) : Int), .int .i64 ((v / 1073741824 % 1073741824 : Nat) : Int), .int .i64 ((v / 1152921504606846976 % 1073741824 : Nat) : Int), .int .i64 0, .int .i64 0, .int .i64 0] := by
 have e0 : dg v 0 = v % 1073741824 := by unfold dg; rw [Nat.pow_zero, Nat.div_one]
 have e1 : dg v 1 = v / 1073741824 % 1073741824 := by unfold dg; rw [Nat.pow_one]
 have e2 : dg v 2 = v / 1152921504606846976 % 1073741824 := rfl
 have e3 : dg v 3 = 0 := by unfold dg; rw [Nat.div_eq_of_lt (by omega)]
 have e4 : dg v 4 = 0 := by unfold dg; rw [Nat.div_eq_of_lt (by omega)]
 have e5 : dg v 5 = 0 := by unfold dg; rw [Nat.div_eq_of_lt (by omega)]
 unfold bigV
 rw [e0, e1, e2, e3, e4, e5]
 rfl
theorem digs (a : Nat) (h : a < 1237940039285380274899124224) : ∃ a0 a1 a2 : Nat, a0 < 1073741824 ∧ a1 < 1073741824 ∧ a2 < 1073741824 ∧ a = a0 + 1073741824 * a1 + 1152921504606846976 * a2 ∧ a % 1073741824 = a0 ∧ a / 1073741824 % 1073741824 = a1 ∧ a / 1152921504606846976 % 1073741824 = a2 := by
 have e : a / 1073741824 / 1073741824 = a / 1152921504606846976 := by rw [Nat.div_div_eq_div_mul]
 exact ⟨_, _, _, Nat.mod_lt _ (by decide), Nat.mod_lt _ (by decide), Nat.mod_lt _ (by decide), by omega, rfl, rfl, rfl⟩
theorem add_big (a b : Nat) (h : a + b < 1237940039285380274899124224) (w : World) : Calls Tryz.prog 473 #[bigV a, bigV b] w fun e w' => e = .returned (bigV (a + b)) ∧ Below w.heap.size w w' := by
 rw [dgs a (by omega), dgs b (by omega), dgs (a + b) h]
 refine (add_ok _ _ _ _ _ _ _ _ _ _ _ _ (by omega) (by omega) (by omega) (by omega) (by omega) (by omega) (by omega) (by omega) (by omega) (by omega) (by omega) (by omega) w).mono ?_
 rintro e w' ⟨rfl, hb⟩
 refine ⟨?_, hb⟩
 simp only [addD, List.map_cons, List.map_nil]
 obtain ⟨a0, a1, a2, ha0, ha1, ha2, ea, xa0, xa1, xa2⟩ := digs a (by omega)
 obtain ⟨b0, b1, b2, hb0, hb1, hb2, eb, xb0, xb1, xb2⟩ := digs b (by omega)
 obtain ⟨c0, c1, c2, hc0, hc1, hc2, ec, xc0, xc1, xc2⟩ := digs (a + b) h
 rw [xa0, xa1, xa2, xb0, xb1, xb2, xc0, xc1, xc2]
 have hs : c0 + 1073741824 * c1 + 1152921504606846976 * c2 = a0 + 1073741824 * a1 + 1152921504606846976 * a2 + (b0 + 1073741824 * b1 + 1152921504606846976 * b2) := by omega
 clear ea eb ec xa0 xa1 xa2 xb0 xb1 xb2 xc0 xc1 xc2 h
 obtain ⟨k0, hk0⟩ : ∃ k0 : Nat, k0 = (a0 + b0) / 1073741824 := ⟨_, rfl⟩
 obtain ⟨k1, hk1⟩ : ∃ k1 : Nat, k1 = (k0 + a1 + b1) / 1073741824 := ⟨_, rfl⟩
 have p0 : (0 + (a0 : Int) + (b0 : Int)) / 1073741824 = (k0 : Int) := by omega
 have q0 : (0 + (a0 : Int) + (b0 : Int)) % 1073741824 = (c0 : Int) := by omega
 have p1 : ((k0 : Int) + (a1 : Int) + (b1 : Int)) / 1073741824 = (k1 : Int) := by omega
 have q1 : ((k0 : Int) + (a1 : Int) + (b1 : Int)) % 1073741824 = (c1 : Int) := by omega
 have q2 : ((k1 : Int) + (a2 : Int) + (b2 : Int)) = (c2 : Int) := by omega
 rw [p0, q0, p1, q1, q2]
 have q3 : (c2 : Int) / 1073741824 = 0 := by omega
 have q4 : (c2 : Int) % 1073741824 = (c2 : Int) := by omega
 rw [q3, q4]
 rfl
def cmpI (a b : Nat) : Int := if a < b then -1 else if b < a then 1 else 0
theorem cmp_big (a b : Nat) (ha : a < 1237940039285380274899124224) (hb : b < 1237940039285380274899124224) (w : World) : Calls Tryz.prog 474 #[bigV a, bigV b] w fun e w' => e = .returned (.int .i64 (cmpI a b)) ∧ Below w.heap.size w w' := by
 rw [dgs a ha, dgs b hb]
 refine (cmp_ok _ _ _ _ _ _ _ _ _ _ _ _ w).mono ?_
 rintro e w' ⟨rfl, hb'⟩
 refine ⟨?_, hb'⟩
 have e : cmpD [0, 0, 0, ((a / 1152921504606846976 % 1073741824 : Nat) : Int), ((a / 1073741824 % 1073741824 : Nat) : Int), ((a % 1073741824 : Nat) : Int)] [0, 0, 0, ((b / 1152921504606846976 % 1073741824 : Nat) : Int), ((b / 1073741824 % 1073741824 : Nat) : Int), ((b % 1073741824 : Nat) : Int)] = cmpI a b := by
  simp only [cmpD, cmpI]
  (repeat' split) <;> omega
 rw [e]
def agB (v : Nat) : Array Value := #[.int .i64 (dg v 0), .int .i64 (dg v 1), .int .i64 (dg v 2), .int .i64 (dg v 3), .int .i64 (dg v 4), .int .i64 (dg v 5)]
theorem of_big (n : Nat) (h : n < 9223372036854775808) (w : World) : Calls Tryz.prog 475 #[.int .i64 (n : Int)] w fun e w' => e = .returned (.agg #[.int .i64 (dg n 0), .int .i64 (dg n 1), .int .i64 (dg n 2), .int .i64 (dg n 3), .int .i64 (dg n 4), .int .i64 (dg n 5)]) ∧ Below w.heap.size w w' := of_ok n h w
theorem add_bigE (a b : Nat) (h : a + b < 1237940039285380274899124224) (w : World) : Calls Tryz.prog 473 #[.agg #[.int .i64 (dg a 0), .int .i64 (dg a 1), .int .i64 (dg a 2), .int .i64 (dg a 3), .int .i64 (dg a 4), .int .i64 (dg a 5)], .agg #[.int .i64 (dg b 0), .int .i64 (dg b 1), .int .i64 (dg b 2), .int .i64 (dg b 3), .int .i64 (dg b 4), .int .i64 (dg b 5)]] w
 fun e w' => e = .returned (.agg #[.int .i64 (dg (a + b) 0), .int .i64 (dg (a + b) 1), .int .i64 (dg (a + b) 2), .int .i64 (dg (a + b) 3), .int .i64 (dg (a + b) 4), .int .i64 (dg (a + b) 5)]) ∧ Below w.heap.size w w' := add_big a b h w
theorem cmp_bigE (a b : Nat) (ha : a < 1237940039285380274899124224) (hb : b < 1237940039285380274899124224) (w : World) : Calls Tryz.prog 474 #[.agg #[.int .i64 (dg a 0), .int .i64 (dg a 1), .int .i64 (dg a 2), .int .i64 (dg a 3), .int .i64 (dg a 4), .int .i64 (dg a 5)], .agg #[.int .i64 (dg b 0), .int .i64 (dg b 1), .int .i64 (dg b 2), .int .i64 (dg b 3), .int .i64 (dg b 4), .int .i64 (dg b 5)]] w
 fun e w' => e = .returned (.int .i64 (cmpI a b)) ∧ Below w.heap.size w w' := cmp_big a b ha hb w
def MagPost (n : Nat) (neg : Bool) (w : World) (en : Ending) (w' : World) : Prop := en = .returned (.tuple #[.agg #[.int .i64 (dg n 0), .int .i64 (dg n 1), .int .i64 (dg n 2), .int .i64 (dg n 3), .int .i64 (dg n 4), .int .i64 (dg n 5)], .bool neg]) ∧ Below w.heap.size w w'
theorem blk_b {w : World} {p : Nat} {o : Obj} (h : w.heap[p]? = some o) : p < w.heap.size := by
 rcases Nat.lt_or_ge p w.heap.size with h1 | h1
 · exact h1
 · rw [Array.getElem?_eq_none h1] at h; cases h
theorem cell_b {w : World} {p i : Nat} {cs : Array Value} {t : TypeId} (h : w.heap[p]? = some (.cells cs t (0, 0))) : w.cell? ⟨p, i, none⟩ = cs[i]? := by
 simp [World.cell?, h]
theorem frozen_b {w : World} {p i : Nat} {cs : Array Value} {t : TypeId} (h : w.heap[p]? = some (.cells cs t (0, 0))) : w.frozen? ⟨p, i, none⟩ = false := by
 simp [World.frozen?, h]
theorem below_row {B : Nat} {a b c : World} {p : Nat} (h : Below B a b) (k : b.grownBy c (some p)) (hB : B ≤ b.heap.size) (hp : B ≤ p) : Below B a c :=
 ⟨k.os.trans h.os, k.tape.trans h.tape, k.output.trans h.output, Nat.le_trans h.size k.size, fun i hi => (k.block i (by omega) (fun e => by have := Option.some.inj e; omega)).trans (h.block i hi)⟩
theorem set6 {w : World} {r : Nat} {x0 x1 x2 x3 x4 x5 : Value} {t : TypeId} (h : w.heap[r]? = some (.cells #[x0, x1, x2, x3, x4, x5] t (0, 0))) (y0 y1 y2 y3 y4 y5 : Value) :
 ((((((w.setCell ⟨r, 0, none⟩ y0).setCell ⟨r, 1, none⟩ y1).setCell ⟨r, 2, none⟩ y2).setCell ⟨r, 3, none⟩ y3).setCell ⟨r, 4, none⟩ y4).setCell ⟨r, 5, none⟩ y5).heap[r]? = some (.cells #[y0, y1, y2, y3, y4, y5] t (0, 0)) :=
 Go.Lib.heap_setCell_same (i := 5) (Go.Lib.heap_setCell_same (i := 4) (Go.Lib.heap_setCell_same (i := 3) (Go.Lib.heap_setCell_same (i := 2) (Go.Lib.heap_setCell_same (i := 1) (Go.Lib.heap_setCell_same (i := 0) h y0) y1) y2) y3) y4) y5
theorem grown6 (w : World) (r : Nat) (y0 y1 y2 y3 y4 y5 : Value) : w.grownBy ((((((w.setCell ⟨r, 0, none⟩ y0).setCell ⟨r, 1, none⟩ y1).setCell ⟨r, 2, none⟩ y2).setCell ⟨r, 3, none⟩ y3).setCell ⟨r, 4, none⟩ y4).setCell ⟨r, 5, none⟩ y5) (some r) :=
 (((((grownBy_setCell w r 0 y0).trans (grownBy_setCell _ r 1 y1)).trans (grownBy_setCell _ r 2 y2)).trans (grownBy_setCell _ r 3 y3)).trans (grownBy_setCell _ r 4 y4)).trans (grownBy_setCell _ r 5 y5)
set_option maxRecDepth 20000 in
theorem mag_pos (n : Nat) (h : n ≤ 1125899906842624) (w : World) : Calls Tryz.prog 472 #[.int .i64 (n : Int)] w (MagPost n false w) := by
 have h9 : ¬ ((n : Int) < 0) := by omega
 have h1 : ((n : Int) == -9223372036854775808) = false := by rw [beq_eq_false_iff_ne]; omega
 have h2 : (n : Int) ≠ -9223372036854775808 := by omega
 have H := Lib.hid h
 clear h
 go_enter Tryz.func472, Tryz.ntmps472
 go_wp2_with fail
 refine (of_big n (by have := H.out; omega) _).mono ?_
 rintro e w1 ⟨rfl, hb⟩
 have hX : w1.heap[w.heap.size]? = some (.cells #[.int .i64 0, .int .i64 0, .int .i64 0, .int .i64 0, .int .i64 0, .int .i64 0] 552 (0, 0)) := (hb.block _ (by simp)).trans (heap_alloc_new w _)
 have HB : Hid (Below w.heap.size w w1) := Lib.hid (((Below.refl _ w).alloc (Nat.le_refl _) _).trans (hb.mono (by simp)))
 have r0 : w1.cell? ⟨w.heap.size, 0, none⟩ = some (.int .i64 0) := by rw [cell_b hX]; rfl
 have f0 : w1.frozen? ⟨w.heap.size, 0, none⟩ = false := frozen_b hX
 have r1 : w1.cell? ⟨w.heap.size, 1, none⟩ = some (.int .i64 0) := by rw [cell_b hX]; rfl
 have f1 : w1.frozen? ⟨w.heap.size, 1, none⟩ = false := frozen_b hX
 have r2 : w1.cell? ⟨w.heap.size, 2, none⟩ = some (.int .i64 0) := by rw [cell_b hX]; rfl
 have f2 : w1.frozen? ⟨w.heap.size, 2, none⟩ = false := frozen_b hX
 have r3 : w1.cell? ⟨w.heap.size, 3, none⟩ = some (.int .i64 0) := by rw [cell_b hX]; rfl
 have f3 : w1.frozen? ⟨w.heap.size, 3, none⟩ = false := frozen_b hX
 have r4 : w1.cell? ⟨w.heap.size, 4, none⟩ = some (.int .i64 0) := by rw [cell_b hX]; rfl
 have f4 : w1.frozen? ⟨w.heap.size, 4, none⟩ = false := frozen_b hX
 have r5 : w1.cell? ⟨w.heap.size, 5, none⟩ = some (.int .i64 0) := by rw [cell_b hX]; rfl
 have f5 : w1.frozen? ⟨w.heap.size, 5, none⟩ = false := frozen_b hX
 have HX := Lib.hid hX
 clear hb hX
 go_wp2_with fail
 have hY := set6 HX.out (.int .i64 (dg n 0)) (.int .i64 (dg n 1)) (.int .i64 (dg n 2)) (.int .i64 (dg n 3)) (.int .i64 (dg n 4)) (.int .i64 (dg n 5))
 have hG := grown6 w1 w.heap.size (.int .i64 (dg n 0)) (.int .i64 (dg n 1)) (.int .i64 (dg n 2)) (.int .i64 (dg n 3)) (.int .i64 (dg n 4)) (.int .i64 (dg n 5))
 have HZ := Lib.hid (And.intro hY (below_row HB.out hG HB.out.size (Nat.le_refl _)))
 generalize (World.setCell _ _ _) = W7 at HZ ⊢
 have e0 : W7.cell? ⟨w.heap.size, 0, none⟩ = some (.int .i64 (dg n 0)) := by rw [cell_b HZ.out.1]; rfl
 have e1 : W7.cell? ⟨w.heap.size, 1, none⟩ = some (.int .i64 (dg n 1)) := by rw [cell_b HZ.out.1]; rfl
 have e2 : W7.cell? ⟨w.heap.size, 2, none⟩ = some (.int .i64 (dg n 2)) := by rw [cell_b HZ.out.1]; rfl
 have e3 : W7.cell? ⟨w.heap.size, 3, none⟩ = some (.int .i64 (dg n 3)) := by rw [cell_b HZ.out.1]; rfl
 have e4 : W7.cell? ⟨w.heap.size, 4, none⟩ = some (.int .i64 (dg n 4)) := by rw [cell_b HZ.out.1]; rfl
 have e5 : W7.cell? ⟨w.heap.size, 5, none⟩ = some (.int .i64 (dg n 5)) := by rw [cell_b HZ.out.1]; rfl
 refine bodyPost_ret (v := .tuple #[.agg #[.int .i64 (dg n 0), .int .i64 (dg n 1), .int .i64 (dg n 2), .int .i64 (dg n 3), .int .i64 (dg n 4), .int .i64 (dg n 5)], .bool false]) (by simp [results, Tryz.results472, go_sem, e0, e1, e2, e3, e4, e5]) rfl ?_
 exact ⟨rfl, HZ.out.2⟩
set_option maxRecDepth 20000 in
theorem mag_neg (n : Nat) (h : n ≤ 1125899906842624) (h0 : 0 < n) (w : World) : Calls Tryz.prog 472 #[.int .i64 (-(n : Int))] w (MagPost n true w) := by
 have h9 : (-(n : Int)) < 0 := by omega
 have h1 : ((-(n : Int)) == -9223372036854775808) = false := by rw [beq_eq_false_iff_ne]; omega
 have h2 : (-(n : Int)) ≠ -9223372036854775808 := by omega
 have h3 : wrap64 (-(-(n : Int))) = n := by unfold wrap64; omega
 have h4 : wrap64 (n : Int) = n := by unfold wrap64; omega
 have H := Lib.hid h
 clear h
 go_enter Tryz.func472, Tryz.ntmps472
 go_wp2_with fail
 refine (of_big n (by have := H.out; omega) _).mono ?_
 rintro e w1 ⟨rfl, hb⟩
 have hX : w1.heap[w.heap.size]? = some (.cells #[.int .i64 0, .int .i64 0, .int .i64 0, .int .i64 0, .int .i64 0, .int .i64 0] 552 (0, 0)) := (hb.block _ (by simp)).trans (heap_alloc_new w _)
 have HB : Hid (Below w.heap.size w w1) := Lib.hid (((Below.refl _ w).alloc (Nat.le_refl _) _).trans (hb.mono (by simp)))
 have r0 : w1.cell? ⟨w.heap.size, 0, none⟩ = some (.int .i64 0) := by rw [cell_b hX]; rfl
 have f0 : w1.frozen? ⟨w.heap.size, 0, none⟩ = false := frozen_b hX
 have r1 : w1.cell? ⟨w.heap.size, 1, none⟩ = some (.int .i64 0) := by rw [cell_b hX]; rfl
 have f1 : w1.frozen? ⟨w.heap.size, 1, none⟩ = false := frozen_b hX
 have r2 : w1.cell? ⟨w.heap.size, 2, none⟩ = some (.int .i64 0) := by rw [cell_b hX]; rfl
 have f2 : w1.frozen? ⟨w.heap.size, 2, none⟩ = false := frozen_b hX
 have r3 : w1.cell? ⟨w.heap.size, 3, none⟩ = some (.int .i64 0) := by rw [cell_b hX]; rfl
 have f3 : w1.frozen? ⟨w.heap.size, 3, none⟩ = false := frozen_b hX
 have r4 : w1.cell? ⟨w.heap.size, 4, none⟩ = some (.int .i64 0) := by rw [cell_b hX]; rfl
 have f4 : w1.frozen? ⟨w.heap.size, 4, none⟩ = false := frozen_b hX
 have r5 : w1.cell? ⟨w.heap.size, 5, none⟩ = some (.int .i64 0) := by rw [cell_b hX]; rfl
 have f5 : w1.frozen? ⟨w.heap.size, 5, none⟩ = false := frozen_b hX
 have HX := Lib.hid hX
 clear hb hX
 go_wp2_with fail
 have hY := set6 HX.out (.int .i64 (dg n 0)) (.int .i64 (dg n 1)) (.int .i64 (dg n 2)) (.int .i64 (dg n 3)) (.int .i64 (dg n 4)) (.int .i64 (dg n 5))
 have hG := grown6 w1 w.heap.size (.int .i64 (dg n 0)) (.int .i64 (dg n 1)) (.int .i64 (dg n 2)) (.int .i64 (dg n 3)) (.int .i64 (dg n 4)) (.int .i64 (dg n 5))
 have HZ := Lib.hid (And.intro hY (below_row HB.out hG HB.out.size (Nat.le_refl _)))
 generalize (World.setCell _ _ _) = W7 at HZ ⊢
 have e0 : W7.cell? ⟨w.heap.size, 0, none⟩ = some (.int .i64 (dg n 0)) := by rw [cell_b HZ.out.1]; rfl
 have e1 : W7.cell? ⟨w.heap.size, 1, none⟩ = some (.int .i64 (dg n 1)) := by rw [cell_b HZ.out.1]; rfl
 have e2 : W7.cell? ⟨w.heap.size, 2, none⟩ = some (.int .i64 (dg n 2)) := by rw [cell_b HZ.out.1]; rfl
 have e3 : W7.cell? ⟨w.heap.size, 3, none⟩ = some (.int .i64 (dg n 3)) := by rw [cell_b HZ.out.1]; rfl
 have e4 : W7.cell? ⟨w.heap.size, 4, none⟩ = some (.int .i64 (dg n 4)) := by rw [cell_b HZ.out.1]; rfl
 have e5 : W7.cell? ⟨w.heap.size, 5, none⟩ = some (.int .i64 (dg n 5)) := by rw [cell_b HZ.out.1]; rfl
 refine bodyPost_ret (v := .tuple #[.agg #[.int .i64 (dg n 0), .int .i64 (dg n 1), .int .i64 (dg n 2), .int .i64 (dg n 3), .int .i64 (dg n 4), .int .i64 (dg n 5)], .bool true]) (by simp [results, Tryz.results472, go_sem, e0, e1, e2, e3, e4, e5]) rfl ?_
 exact ⟨rfl, HZ.out.2⟩
structure SB (w : World) (u d : Nat) (wr : World) : Prop where
 b : Below w.heap.size w wr
 up : wr.heap[w.heap.size]? = some (.cells #[.int .i64 (dg u 0), .int .i64 (dg u 1), .int .i64 (dg u 2), .int .i64 (dg u 3), .int .i64 (dg u 4), .int .i64 (dg u 5)] 552 (0, 0))
 dn : wr.heap[w.heap.size + 1]? = some (.cells #[.int .i64 (dg d 0), .int .i64 (dg d 1), .int .i64 (dg d 2), .int .i64 (dg d 3), .int .i64 (dg d 4), .int .i64 (dg d 5)] 552 (0, 0))
theorem SB.below {w : World} {u d : Nat} {wr w' : World} (h : SB w u d wr) (hb : Below wr.heap.size wr w') : SB w u d w' :=
 ⟨h.b.trans (hb.mono h.b.size), (hb.block _ (blk_b h.up)).trans h.up, (hb.block _ (blk_b h.dn)).trans h.dn⟩
theorem SB.setUp {w : World} {u d : Nat} {wr : World} (h : SB w u d wr) (x : Nat) : SB w x d ((((((wr.setCell ⟨w.heap.size, 0, none⟩ (.int .i64 (dg x 0))).setCell ⟨w.heap.size, 1, none⟩ (.int .i64 (dg x 1))).setCell ⟨w.heap.size, 2, none⟩ (.int .i64 (dg x 2))).setCell ⟨w.heap.size, 3, none⟩ (.int .i64 (dg x 3))).setCell ⟨w.heap.size, 4, none⟩ (.int .i64 (dg x 4))).setCell ⟨w.heap.size, 5, none⟩ (.int .i64 (dg x 5))) :=
 ⟨below_row h.b (grown6 wr _ _ _ _ _ _ _) h.b.size (Nat.le_refl _), set6 h.up _ _ _ _ _ _, ((grown6 wr w.heap.size _ _ _ _ _ _).block _ (blk_b h.dn) (by simp)).trans h.dn⟩
theorem SB.setDn {w : World} {u d : Nat} {wr : World} (h : SB w u d wr) (x : Nat) : SB w u x ((((((wr.setCell ⟨w.heap.size + 1, 0, none⟩ (.int .i64 (dg x 0))).setCell ⟨w.heap.size + 1, 1, none⟩ (.int .i64 (dg x 1))).setCell ⟨w.heap.size + 1, 2, none⟩ (.int .i64 (dg x 2))).setCell ⟨w.heap.size + 1, 3, none⟩ (.int .i64 (dg x 3))).setCell ⟨w.heap.size + 1, 4, none⟩ (.int .i64 (dg x 4))).setCell ⟨w.heap.size + 1, 5, none⟩ (.int .i64 (dg x 5))) :=
 ⟨below_row h.b (grown6 wr _ _ _ _ _ _ _) h.b.size (by omega), ((grown6 wr (w.heap.size + 1) _ _ _ _ _ _).block _ (blk_b h.up) (by simp)).trans h.up, set6 h.dn _ _ _ _ _ _⟩
theorem dg_zero (k : Nat) : dg 0 k = 0 := by unfold dg; simp
theorem sb_drew {a w : World} (h : Below a.heap.size a w) : Below a.heap.size a w.drew := ⟨h.os, h.tape, h.output, h.size, h.block⟩
theorem sb_step {a s d : World} (h : Below a.heap.size a s) (hb : Below s.heap.size s d) : Below a.heap.size a d := h.trans (hb.mono h.size)
def SumPost (xs : List Int) (w : World) (en : Ending) (w' : World) : Prop := en = .returned (.int .i64 (isum xs)) ∧ Below w.heap.size w w'
theorem pow_sixty {j S : Nat} (hj : j ≤ 60) (h : S = 2 ^ j) : S ≤ 1152921504606846976 := by
 rw [h]
 exact Nat.le_trans (Nat.pow_le_pow_right (by decide) hj) (by decide)
theorem ups_take : ∀ (l : List Int) (k : Nat) (x : Int), l[k]? = some x → ups (l.take (k + 1)) = ups (l.take k) + x.toNat ∧ downs (l.take (k + 1)) = downs (l.take k) + (-x).toNat
 | [], k, x, h => by simp at h
 | y :: l, 0, x, h => by simp at h; subst h; simp [ups, downs]
 | y :: l, k + 1, x, h => by
   have h1 := ups_take l k x (by simpa using h)
   simp only [List.take_succ_cons, ups, downs]
   omega
set_option maxRecDepth 20000 in
set_option maxHeartbeats 4000000 in
theorem sum_any (pv : Value) (A : Option Addr) (n c : Nat) (xs : List Int) (w : World) (hx : xs ≠ [] → ∃ ad, A = some ad ∧ ∀ (j : Nat) (x : Int), xs[j]? = some x → w.cell? (ad.add j) = some (.int .i64 x)) (hn : xs.length = n) (hn2 : n ≤ 1000)
 (hb : ∀ x ∈ xs, -1125899906842624 ≤ x ∧ x ≤ 1125899906842624) : Calls Tryz.prog 407 #[pv, .slice A n c] w (SumPost xs w) := by
 have HX := Lib.hid hx
 have HN := Lib.hid hn
 have HB := Lib.hid hb
 have HS : Hid (∀ k, ups (xs.take k) + downs (xs.take k) ≤ 1125899906842624000) := Lib.hid (fun k => by
  have h1 := sums_le (xs.take k) (fun x h => hb x (List.mem_of_mem_take h))
  rw [List.length_take] at h1
  have h2 : 1125899906842624 * min k xs.length ≤ 1125899906842624 * 1000 := Nat.mul_le_mul_left _ (by omega)
  omega)
 clear hx hn hb
 go_enter Tryz.func407, Tryz.ntmps407
 go_wp2_with fail
 have HS0 : Hid (SB w 0 0 ((w.alloc (.cells #[.int .i64 0, .int .i64 0, .int .i64 0, .int .i64 0, .int .i64 0, .int .i64 0] 552 (0, 0))).alloc (.cells #[.int .i64 0, .int .i64 0, .int .i64 0, .int .i64 0, .int .i64 0, .int .i64 0] 552 (0, 0)))) := Lib.hid
  ⟨((Below.refl _ w).alloc (Nat.le_refl _) _).alloc (by simp) _, by simp only [dg_zero]; exact (Below.heap_alloc _ _ _ (by simp)).trans (heap_alloc_new w _), by
    simp only [dg_zero]
    have h1 := heap_alloc_new (w.alloc (.cells #[.int .i64 0, .int .i64 0, .int .i64 0, .int .i64 0, .int .i64 0, .int .i64 0] 552 (0, 0))) (.cells #[.int .i64 0, .int .i64 0, .int .i64 0, .int .i64 0, .int .i64 0, .int .i64 0] 552 (0, 0))
    simpa using h1⟩
 go_loopw [7] (fun i wr => ∃ k : Nat, i = .int .i64 k ∧ k ≤ n ∧ SB w (ups (xs.take k)) (downs (xs.take k)) wr) (fun i _ => n - (intOf i).toNat)
 case atStart => exact ⟨0, rfl, Nat.zero_le _, HS0.out⟩
 case round =>
  obtain ⟨k, rfl, hk, hsb⟩ := hrel
  have HSB := Lib.hid hsb
  clear hsb
  obtain ⟨W1, rfl⟩ : ∃ W : World, W = wr := ⟨wr, rfl⟩
  by_cases hlt : k < n
  · have hxl : k < xs.length := by have := HN.out; omega
    obtain ⟨x, hxk⟩ : ∃ x, xs[k]? = some x := ⟨_, List.getElem?_eq_getElem hxl⟩
    obtain ⟨ad, rfl, hcs⟩ := HX.out (by intro e; rw [e] at hxl; simp at hxl)
    have hw0 := hcs k x hxk
    have k0 : W1.cell? (ad.add k) = some (.int .i64 x) := (HSB.out.b.cell (World.block_lt_of_cell? w _ hw0)).trans hw0
    have hxb := HB.out x (List.mem_of_getElem? hxk)
    have HT := Lib.hid (ups_take xs k x hxk)
    have HSK := Lib.hid (HS.out k)
    have HSK1 := Lib.hid (HS.out (k + 1))
    obtain ⟨u, hu⟩ : ∃ u, ups (xs.take k) = u := ⟨_, rfl⟩
    obtain ⟨d, hd⟩ : ∃ d, downs (xs.take k) = d := ⟨_, rfl⟩
    rw [hu, hd] at HSB HT HSK
    clear hu hd hcs hw0 hxk hxl
    have hkI : (k : Int) < n := by omega
    by_cases hneg : x < 0
    · obtain ⟨m, rfl⟩ : ∃ m : Nat, x = -(m : Int) := ⟨(-x).toNat, by omega⟩
      have hm : m ≤ 1125899906842624 ∧ 0 < m := by omega
      have HM := Lib.hid hm
      clear hxb hneg hm
      go_wp2_with fail
      refine (mag_neg m HM.out.1 HM.out.2 _).mono ?_
      rintro e w1 ⟨rfl, hb1⟩
      have HS1 := Lib.hid ((HSB.out.below hb1).below ((Below.refl w1.heap.size w1).alloc (Nat.le_refl _) (.cells #[.int .i64 (dg m 0), .int .i64 (dg m 1), .int .i64 (dg m 2), .int .i64 (dg m 3), .int .i64 (dg m 4), .int .i64 (dg m 5)] 552 (0, 0))))
      clear hb1 k0
      have q0 : (w1.alloc (.cells #[.int .i64 (dg m 0), .int .i64 (dg m 1), .int .i64 (dg m 2), .int .i64 (dg m 3), .int .i64 (dg m 4), .int .i64 (dg m 5)] 552 (0, 0))).cell? ⟨w.heap.size + 1, 0, none⟩ = some (.int .i64 (dg d 0)) := by rw [cell_b HS1.out.dn]; rfl
      have q1 : (w1.alloc (.cells #[.int .i64 (dg m 0), .int .i64 (dg m 1), .int .i64 (dg m 2), .int .i64 (dg m 3), .int .i64 (dg m 4), .int .i64 (dg m 5)] 552 (0, 0))).cell? ⟨w.heap.size + 1, 1, none⟩ = some (.int .i64 (dg d 1)) := by rw [cell_b HS1.out.dn]; rfl
      have q2 : (w1.alloc (.cells #[.int .i64 (dg m 0), .int .i64 (dg m 1), .int .i64 (dg m 2), .int .i64 (dg m 3), .int .i64 (dg m 4), .int .i64 (dg m 5)] 552 (0, 0))).cell? ⟨w.heap.size + 1, 2, none⟩ = some (.int .i64 (dg d 2)) := by rw [cell_b HS1.out.dn]; rfl
      have q3 : (w1.alloc (.cells #[.int .i64 (dg m 0), .int .i64 (dg m 1), .int .i64 (dg m 2), .int .i64 (dg m 3), .int .i64 (dg m 4), .int .i64 (dg m 5)] 552 (0, 0))).cell? ⟨w.heap.size + 1, 3, none⟩ = some (.int .i64 (dg d 3)) := by rw [cell_b HS1.out.dn]; rfl
      have q4 : (w1.alloc (.cells #[.int .i64 (dg m 0), .int .i64 (dg m 1), .int .i64 (dg m 2), .int .i64 (dg m 3), .int .i64 (dg m 4), .int .i64 (dg m 5)] 552 (0, 0))).cell? ⟨w.heap.size + 1, 4, none⟩ = some (.int .i64 (dg d 4)) := by rw [cell_b HS1.out.dn]; rfl
      have q5 : (w1.alloc (.cells #[.int .i64 (dg m 0), .int .i64 (dg m 1), .int .i64 (dg m 2), .int .i64 (dg m 3), .int .i64 (dg m 4), .int .i64 (dg m 5)] 552 (0, 0))).cell? ⟨w.heap.size + 1, 5, none⟩ = some (.int .i64 (dg d 5)) := by rw [cell_b HS1.out.dn]; rfl
      go_wp2_with fail
      refine (add_bigE d m (by have h1 := HSK.out; have h2 := HM.out; omega) _).mono ?_
      rintro e w2 ⟨rfl, hb2⟩
      have HS2 := Lib.hid (HS1.out.below hb2)
      clear hb2 q0 q1 q2 q3 q4 q5
      have p0 : w2.cell? ⟨w.heap.size + 1, 0, none⟩ = some (.int .i64 (dg d 0)) := by rw [cell_b HS2.out.dn]; rfl
      have pf0 : w2.frozen? ⟨w.heap.size + 1, 0, none⟩ = false := frozen_b HS2.out.dn
      have p1 : w2.cell? ⟨w.heap.size + 1, 1, none⟩ = some (.int .i64 (dg d 1)) := by rw [cell_b HS2.out.dn]; rfl
      have pf1 : w2.frozen? ⟨w.heap.size + 1, 1, none⟩ = false := frozen_b HS2.out.dn
      have p2 : w2.cell? ⟨w.heap.size + 1, 2, none⟩ = some (.int .i64 (dg d 2)) := by rw [cell_b HS2.out.dn]; rfl
      have pf2 : w2.frozen? ⟨w.heap.size + 1, 2, none⟩ = false := frozen_b HS2.out.dn
      have p3 : w2.cell? ⟨w.heap.size + 1, 3, none⟩ = some (.int .i64 (dg d 3)) := by rw [cell_b HS2.out.dn]; rfl
      have pf3 : w2.frozen? ⟨w.heap.size + 1, 3, none⟩ = false := frozen_b HS2.out.dn
      have p4 : w2.cell? ⟨w.heap.size + 1, 4, none⟩ = some (.int .i64 (dg d 4)) := by rw [cell_b HS2.out.dn]; rfl
      have pf4 : w2.frozen? ⟨w.heap.size + 1, 4, none⟩ = false := frozen_b HS2.out.dn
      have p5 : w2.cell? ⟨w.heap.size + 1, 5, none⟩ = some (.int .i64 (dg d 5)) := by rw [cell_b HS2.out.dn]; rfl
      have pf5 : w2.frozen? ⟨w.heap.size + 1, 5, none⟩ = false := frozen_b HS2.out.dn
      go_wp2_with fail
      go_roundw
      case rel =>
       refine ⟨k + 1, by go_num, by omega, ?_⟩
       have h1 := HT.out
       have e1 : ups (xs.take (k + 1)) = u := by omega
       have e2 : downs (xs.take (k + 1)) = d + m := by omega
       rw [e1, e2]
       exact HS2.out.setDn _
      case measure => simp [intOf]; omega
    · obtain ⟨m, rfl⟩ : ∃ m : Nat, x = (m : Int) := ⟨x.toNat, by omega⟩
      have hm : m ≤ 1125899906842624 := by omega
      have HM := Lib.hid hm
      clear hxb hneg hm
      go_wp2_with fail
      refine (mag_pos m HM.out _).mono ?_
      rintro e w1 ⟨rfl, hb1⟩
      have HS1 := Lib.hid ((HSB.out.below hb1).below ((Below.refl w1.heap.size w1).alloc (Nat.le_refl _) (.cells #[.int .i64 (dg m 0), .int .i64 (dg m 1), .int .i64 (dg m 2), .int .i64 (dg m 3), .int .i64 (dg m 4), .int .i64 (dg m 5)] 552 (0, 0))))
      clear hb1 k0
      have q0 : (w1.alloc (.cells #[.int .i64 (dg m 0), .int .i64 (dg m 1), .int .i64 (dg m 2), .int .i64 (dg m 3), .int .i64 (dg m 4), .int .i64 (dg m 5)] 552 (0, 0))).cell? ⟨w.heap.size, 0, none⟩ = some (.int .i64 (dg u 0)) := by rw [cell_b HS1.out.up]; rfl
      have q1 : (w1.alloc (.cells #[.int .i64 (dg m 0), .int .i64 (dg m 1), .int .i64 (dg m 2), .int .i64 (dg m 3), .int .i64 (dg m 4), .int .i64 (dg m 5)] 552 (0, 0))).cell? ⟨w.heap.size, 1, none⟩ = some (.int .i64 (dg u 1)) := by rw [cell_b HS1.out.up]; rfl
      have q2 : (w1.alloc (.cells #[.int .i64 (dg m 0), .int .i64 (dg m 1), .int .i64 (dg m 2), .int .i64 (dg m 3), .int .i64 (dg m 4), .int .i64 (dg m 5)] 552 (0, 0))).cell? ⟨w.heap.size, 2, none⟩ = some (.int .i64 (dg u 2)) := by rw [cell_b HS1.out.up]; rfl
      have q3 : (w1.alloc (.cells #[.int .i64 (dg m 0), .int .i64 (dg m 1), .int .i64 (dg m 2), .int .i64 (dg m 3), .int .i64 (dg m 4), .int .i64 (dg m 5)] 552 (0, 0))).cell? ⟨w.heap.size, 3, none⟩ = some (.int .i64 (dg u 3)) := by rw [cell_b HS1.out.up]; rfl
      have q4 : (w1.alloc (.cells #[.int .i64 (dg m 0), .int .i64 (dg m 1), .int .i64 (dg m 2), .int .i64 (dg m 3), .int .i64 (dg m 4), .int .i64 (dg m 5)] 552 (0, 0))).cell? ⟨w.heap.size, 4, none⟩ = some (.int .i64 (dg u 4)) := by rw [cell_b HS1.out.up]; rfl
      have q5 : (w1.alloc (.cells #[.int .i64 (dg m 0), .int .i64 (dg m 1), .int .i64 (dg m 2), .int .i64 (dg m 3), .int .i64 (dg m 4), .int .i64 (dg m 5)] 552 (0, 0))).cell? ⟨w.heap.size, 5, none⟩ = some (.int .i64 (dg u 5)) := by rw [cell_b HS1.out.up]; rfl
      go_wp2_with fail
      refine (add_bigE u m (by have h1 := HSK.out; have h2 := HM.out; omega) _).mono ?_
      rintro e w2 ⟨rfl, hb2⟩
      have HS2 := Lib.hid (HS1.out.below hb2)
      clear hb2 q0 q1 q2 q3 q4 q5
      have p0 : w2.cell? ⟨w.heap.size, 0, none⟩ = some (.int .i64 (dg u 0)) := by rw [cell_b HS2.out.up]; rfl
      have pf0 : w2.frozen? ⟨w.heap.size, 0, none⟩ = false := frozen_b HS2.out.up
      have p1 : w2.cell? ⟨w.heap.size, 1, none⟩ = some (.int .i64 (dg u 1)) := by rw [cell_b HS2.out.up]; rfl
      have pf1 : w2.frozen? ⟨w.heap.size, 1, none⟩ = false := frozen_b HS2.out.up
      have p2 : w2.cell? ⟨w.heap.size, 2, none⟩ = some (.int .i64 (dg u 2)) := by rw [cell_b HS2.out.up]; rfl
      have pf2 : w2.frozen? ⟨w.heap.size, 2, none⟩ = false := frozen_b HS2.out.up
      have p3 : w2.cell? ⟨w.heap.size, 3, none⟩ = some (.int .i64 (dg u 3)) := by rw [cell_b HS2.out.up]; rfl
      have pf3 : w2.frozen? ⟨w.heap.size, 3, none⟩ = false := frozen_b HS2.out.up
      have p4 : w2.cell? ⟨w.heap.size, 4, none⟩ = some (.int .i64 (dg u 4)) := by rw [cell_b HS2.out.up]; rfl
      have pf4 : w2.frozen? ⟨w.heap.size, 4, none⟩ = false := frozen_b HS2.out.up
      have p5 : w2.cell? ⟨w.heap.size, 5, none⟩ = some (.int .i64 (dg u 5)) := by rw [cell_b HS2.out.up]; rfl
      have pf5 : w2.frozen? ⟨w.heap.size, 5, none⟩ = false := frozen_b HS2.out.up
      go_wp2_with fail
      go_roundw
      case rel =>
       refine ⟨k + 1, by go_num, by omega, ?_⟩
       have h1 := HT.out
       have e1 : ups (xs.take (k + 1)) = u + m := by omega
       have e2 : downs (xs.take (k + 1)) = d := by omega
       rw [e1, e2]
       exact HS2.out.setUp _
      case measure => simp [intOf]; omega
  · have hkn : k = n := by omega
    subst hkn
    have HU := Lib.hid (ups_downs xs)
    have HSN := Lib.hid (HS.out k)
    rw [List.take_of_length_le (by have := HN.out; omega)] at HSB HSN
    obtain ⟨u, hu⟩ : ∃ u, ups xs = u := ⟨_, rfl⟩
    obtain ⟨d, hd⟩ : ∃ d, downs xs = d := ⟨_, rfl⟩
    rw [hu, hd] at HSB HU HSN
    clear hu hd
    have a0 : W1.cell? ⟨w.heap.size, 0, none⟩ = some (.int .i64 (dg u 0)) := by rw [cell_b HSB.out.up]; rfl
    have af0 : W1.frozen? ⟨w.heap.size, 0, none⟩ = false := frozen_b HSB.out.up
    have a1 : W1.cell? ⟨w.heap.size, 1, none⟩ = some (.int .i64 (dg u 1)) := by rw [cell_b HSB.out.up]; rfl
    have af1 : W1.frozen? ⟨w.heap.size, 1, none⟩ = false := frozen_b HSB.out.up
    have a2 : W1.cell? ⟨w.heap.size, 2, none⟩ = some (.int .i64 (dg u 2)) := by rw [cell_b HSB.out.up]; rfl
    have af2 : W1.frozen? ⟨w.heap.size, 2, none⟩ = false := frozen_b HSB.out.up
    have a3 : W1.cell? ⟨w.heap.size, 3, none⟩ = some (.int .i64 (dg u 3)) := by rw [cell_b HSB.out.up]; rfl
    have af3 : W1.frozen? ⟨w.heap.size, 3, none⟩ = false := frozen_b HSB.out.up
    have a4 : W1.cell? ⟨w.heap.size, 4, none⟩ = some (.int .i64 (dg u 4)) := by rw [cell_b HSB.out.up]; rfl
    have af4 : W1.frozen? ⟨w.heap.size, 4, none⟩ = false := frozen_b HSB.out.up
    have a5 : W1.cell? ⟨w.heap.size, 5, none⟩ = some (.int .i64 (dg u 5)) := by rw [cell_b HSB.out.up]; rfl
    have af5 : W1.frozen? ⟨w.heap.size, 5, none⟩ = false := frozen_b HSB.out.up
    have b0 : W1.cell? ⟨w.heap.size + 1, 0, none⟩ = some (.int .i64 (dg d 0)) := by rw [cell_b HSB.out.dn]; rfl
    have bf0 : W1.frozen? ⟨w.heap.size + 1, 0, none⟩ = false := frozen_b HSB.out.dn
    have b1 : W1.cell? ⟨w.heap.size + 1, 1, none⟩ = some (.int .i64 (dg d 1)) := by rw [cell_b HSB.out.dn]; rfl
    have bf1 : W1.frozen? ⟨w.heap.size + 1, 1, none⟩ = false := frozen_b HSB.out.dn
    have b2 : W1.cell? ⟨w.heap.size + 1, 2, none⟩ = some (.int .i64 (dg d 2)) := by rw [cell_b HSB.out.dn]; rfl
    have bf2 : W1.frozen? ⟨w.heap.size + 1, 2, none⟩ = false := frozen_b HSB.out.dn
    have b3 : W1.cell? ⟨w.heap.size + 1, 3, none⟩ = some (.int .i64 (dg d 3)) := by rw [cell_b HSB.out.dn]; rfl
    have bf3 : W1.frozen? ⟨w.heap.size + 1, 3, none⟩ = false := frozen_b HSB.out.dn
    have b4 : W1.cell? ⟨w.heap.size + 1, 4, none⟩ = some (.int .i64 (dg d 4)) := by rw [cell_b HSB.out.dn]; rfl
    have bf4 : W1.frozen? ⟨w.heap.size + 1, 4, none⟩ = false := frozen_b HSB.out.dn
    have b5 : W1.cell? ⟨w.heap.size + 1, 5, none⟩ = some (.int .i64 (dg d 5)) := by rw [cell_b HSB.out.dn]; rfl
    have bf5 : W1.frozen? ⟨w.heap.size + 1, 5, none⟩ = false := frozen_b HSB.out.dn
    go_wp2_with fail
    refine (cmp_bigE u d (by have := HSN.out; omega) (by have := HSN.out; omega) _).mono ?_
    rintro e w3 ⟨rfl, hb3⟩
    have HS3 := Lib.hid (HSB.out.below hb3)
    clear hb3 a0 af0 b0 bf0 a1 af1 b1 bf1 a2 af2 b2 bf2 a3 af3 b3 bf3 a4 af4 b4 bf4 a5 af5 b5 bf5
    have a0 : w3.cell? ⟨w.heap.size, 0, none⟩ = some (.int .i64 (dg u 0)) := by rw [cell_b HS3.out.up]; rfl
    have af0 : w3.frozen? ⟨w.heap.size, 0, none⟩ = false := frozen_b HS3.out.up
    have a1 : w3.cell? ⟨w.heap.size, 1, none⟩ = some (.int .i64 (dg u 1)) := by rw [cell_b HS3.out.up]; rfl
    have af1 : w3.frozen? ⟨w.heap.size, 1, none⟩ = false := frozen_b HS3.out.up
    have a2 : w3.cell? ⟨w.heap.size, 2, none⟩ = some (.int .i64 (dg u 2)) := by rw [cell_b HS3.out.up]; rfl
    have af2 : w3.frozen? ⟨w.heap.size, 2, none⟩ = false := frozen_b HS3.out.up
    have a3 : w3.cell? ⟨w.heap.size, 3, none⟩ = some (.int .i64 (dg u 3)) := by rw [cell_b HS3.out.up]; rfl
    have af3 : w3.frozen? ⟨w.heap.size, 3, none⟩ = false := frozen_b HS3.out.up
    have a4 : w3.cell? ⟨w.heap.size, 4, none⟩ = some (.int .i64 (dg u 4)) := by rw [cell_b HS3.out.up]; rfl
    have af4 : w3.frozen? ⟨w.heap.size, 4, none⟩ = false := frozen_b HS3.out.up
    have a5 : w3.cell? ⟨w.heap.size, 5, none⟩ = some (.int .i64 (dg u 5)) := by rw [cell_b HS3.out.up]; rfl
    have af5 : w3.frozen? ⟨w.heap.size, 5, none⟩ = false := frozen_b HS3.out.up
    have b0 : w3.cell? ⟨w.heap.size + 1, 0, none⟩ = some (.int .i64 (dg d 0)) := by rw [cell_b HS3.out.dn]; rfl
    have bf0 : w3.frozen? ⟨w.heap.size + 1, 0, none⟩ = false := frozen_b HS3.out.dn
    have b1 : w3.cell? ⟨w.heap.size + 1, 1, none⟩ = some (.int .i64 (dg d 1)) := by rw [cell_b HS3.out.dn]; rfl
    have bf1 : w3.frozen? ⟨w.heap.size + 1, 1, none⟩ = false := frozen_b HS3.out.dn
    have b2 : w3.cell? ⟨w.heap.size + 1, 2, none⟩ = some (.int .i64 (dg d 2)) := by rw [cell_b HS3.out.dn]; rfl
    have bf2 : w3.frozen? ⟨w.heap.size + 1, 2, none⟩ = false := frozen_b HS3.out.dn
    have b3 : w3.cell? ⟨w.heap.size + 1, 3, none⟩ = some (.int .i64 (dg d 3)) := by rw [cell_b HS3.out.dn]; rfl
    have bf3 : w3.frozen? ⟨w.heap.size + 1, 3, none⟩ = false := frozen_b HS3.out.dn
    have b4 : w3.cell? ⟨w.heap.size + 1, 4, none⟩ = some (.int .i64 (dg d 4)) := by rw [cell_b HS3.out.dn]; rfl
    have bf4 : w3.frozen? ⟨w.heap.size + 1, 4, none⟩ = false := frozen_b HS3.out.dn
    have b5 : w3.cell? ⟨w.heap.size + 1, 5, none⟩ = some (.int .i64 (dg d 5)) := by rw [cell_b HS3.out.dn]; rfl
    have bf5 : w3.frozen? ⟨w.heap.size + 1, 5, none⟩ = false := frozen_b HS3.out.dn
    by_cases hm : u < d
    · have hc : cmpI u d = -1 := by unfold cmpI; rw [if_pos hm]
      have hc0 : cmpI u d < 0 := by rw [hc]; decide
      have hcd : decide (cmpI u d < 0) = true := by simpa using hc0
      clear hc
      go_wp2_with fail
      have HS4 := Lib.hid ((HS3.out.setUp d).setDn u)
      generalize (World.setCell _ _ _) = W4 at HS4 ⊢
      clear HS3 a0 af0 b0 bf0 a1 af1 b1 bf1 a2 af2 b2 bf2 a3 af3 b3 bf3 a4 af4 b4 bf4 a5 af5 b5 bf5
      have HDU : Hid (u ≤ d ∧ d + u ≤ 1125899906842624000) := Lib.hid (by have := HSN.out; omega)
      have HSC := HS4
      have hS0 : Below W4.heap.size W4 W4.drew := sb_drew (Below.refl _ _)
      have a0 : W4.cell? ⟨w.heap.size, 0, none⟩ = some (.int .i64 (dg d 0)) := by rw [cell_b HSC.out.up]; rfl
      have a1 : W4.cell? ⟨w.heap.size, 1, none⟩ = some (.int .i64 (dg d 1)) := by rw [cell_b HSC.out.up]; rfl
      have a2 : W4.cell? ⟨w.heap.size, 2, none⟩ = some (.int .i64 (dg d 2)) := by rw [cell_b HSC.out.up]; rfl
      have a3 : W4.cell? ⟨w.heap.size, 3, none⟩ = some (.int .i64 (dg d 3)) := by rw [cell_b HSC.out.up]; rfl
      have a4 : W4.cell? ⟨w.heap.size, 4, none⟩ = some (.int .i64 (dg d 4)) := by rw [cell_b HSC.out.up]; rfl
      have a5 : W4.cell? ⟨w.heap.size, 5, none⟩ = some (.int .i64 (dg d 5)) := by rw [cell_b HSC.out.up]; rfl
      have b0 : W4.cell? ⟨w.heap.size + 1, 0, none⟩ = some (.int .i64 (dg u 0)) := by rw [cell_b HSC.out.dn]; rfl
      have b1 : W4.cell? ⟨w.heap.size + 1, 1, none⟩ = some (.int .i64 (dg u 1)) := by rw [cell_b HSC.out.dn]; rfl
      have b2 : W4.cell? ⟨w.heap.size + 1, 2, none⟩ = some (.int .i64 (dg u 2)) := by rw [cell_b HSC.out.dn]; rfl
      have b3 : W4.cell? ⟨w.heap.size + 1, 3, none⟩ = some (.int .i64 (dg u 3)) := by rw [cell_b HSC.out.dn]; rfl
      have b4 : W4.cell? ⟨w.heap.size + 1, 4, none⟩ = some (.int .i64 (dg u 4)) := by rw [cell_b HSC.out.dn]; rfl
      have b5 : W4.cell? ⟨w.heap.size + 1, 5, none⟩ = some (.int .i64 (dg u 5)) := by rw [cell_b HSC.out.dn]; rfl
      go_region_held3 (fun w' => Below W4.heap.size W4 w' ∧ w'.cell? ⟨w.heap.size, 0, none⟩ = some (.int .i64 (dg d 0)) ∧ w'.cell? ⟨w.heap.size, 1, none⟩ = some (.int .i64 (dg d 1)) ∧ w'.cell? ⟨w.heap.size, 2, none⟩ = some (.int .i64 (dg d 2)) ∧ w'.cell? ⟨w.heap.size, 3, none⟩ = some (.int .i64 (dg d 3)) ∧ w'.cell? ⟨w.heap.size, 4, none⟩ = some (.int .i64 (dg d 4)) ∧ w'.cell? ⟨w.heap.size, 5, none⟩ = some (.int .i64 (dg d 5)) ∧ w'.cell? ⟨w.heap.size + 1, 0, none⟩ = some (.int .i64 (dg u 0)) ∧ w'.cell? ⟨w.heap.size + 1, 1, none⟩ = some (.int .i64 (dg u 1)) ∧ w'.cell? ⟨w.heap.size + 1, 2, none⟩ = some (.int .i64 (dg u 2)) ∧ w'.cell? ⟨w.heap.size + 1, 3, none⟩ = some (.int .i64 (dg u 3)) ∧ w'.cell? ⟨w.heap.size + 1, 4, none⟩ = some (.int .i64 (dg u 4)) ∧ w'.cell? ⟨w.heap.size + 1, 5, none⟩ = some (.int .i64 (dg u 5)))
       (first
        | (have hI : Below W4.heap.size W4 _ := (by first | assumption | exact sb_drew (by assumption))
           exact ⟨hI, (hI.cell (p := ⟨w.heap.size, 0, none⟩) (blk_b HSC.out.up)).trans a0, (hI.cell (p := ⟨w.heap.size, 1, none⟩) (blk_b HSC.out.up)).trans a1, (hI.cell (p := ⟨w.heap.size, 2, none⟩) (blk_b HSC.out.up)).trans a2, (hI.cell (p := ⟨w.heap.size, 3, none⟩) (blk_b HSC.out.up)).trans a3, (hI.cell (p := ⟨w.heap.size, 4, none⟩) (blk_b HSC.out.up)).trans a4, (hI.cell (p := ⟨w.heap.size, 5, none⟩) (blk_b HSC.out.up)).trans a5, (hI.cell (p := ⟨w.heap.size + 1, 0, none⟩) (blk_b HSC.out.dn)).trans b0, (hI.cell (p := ⟨w.heap.size + 1, 1, none⟩) (blk_b HSC.out.dn)).trans b1, (hI.cell (p := ⟨w.heap.size + 1, 2, none⟩) (blk_b HSC.out.dn)).trans b2, (hI.cell (p := ⟨w.heap.size + 1, 3, none⟩) (blk_b HSC.out.dn)).trans b3, (hI.cell (p := ⟨w.heap.size + 1, 4, none⟩) (blk_b HSC.out.dn)).trans b4, (hI.cell (p := ⟨w.heap.size + 1, 5, none⟩) (blk_b HSC.out.dn)).trans b5⟩)
        | go_keep)
       ((first
         | (go_at_call 475; with_reducible refine Calls.mono (of_big 1152921504606846976 (by decide) _) ?_; rintro e wo ⟨rfl, hbo⟩; have hxo : Below W4.heap.size W4 wo := sb_step (by assumption) hbo)
         | (go_at_call 473; with_reducible refine Calls.mono (add_bigE u 1152921504606846976 (by have := HDU.out; omega) _) ?_; rintro e wa ⟨rfl, hba⟩; have hxa : Below W4.heap.size W4 wa := sb_step (by assumption) hba)
         | (go_at_call 474; with_reducible refine Calls.mono (cmp_bigE (u + 1152921504606846976) d (by have := HDU.out; omega) (by have := HDU.out; omega) _) ?_; rintro e wc ⟨rfl, hbc⟩; have hxc : Below W4.heap.size W4 wc := sb_step (by assumption) hbc)))
      have HS5 := Lib.hid (HSC.out.below hxc)
      have hcm : cmpI (u + 1152921504606846976) d = 1 := by
       unfold cmpI
       have := HDU.out
       rw [if_neg (by omega), if_pos (by omega)]
      have hcd2 : decide (cmpI (u + 1152921504606846976) d < 0) = false := by rw [hcm]; decide
      have hcd3 : ¬ (cmpI (u + 1152921504606846976) d < 0) := by rw [hcm]; decide
      obtain ⟨W5, hW5⟩ : ∃ W : World, W = wc := ⟨wc, rfl⟩
      subst hW5
      clear hxo hxa hxc hbo hba hbc hS0 hcm HSC HS4 a0 b0 a1 b1 a2 b2 a3 b3 a4 b4 a5 b5
      go_wp2_with fail
      go_loopw [11, 12] (fun v s wr => ∃ V S : Nat, v = .int .i64 V ∧ s = .int .i64 S ∧ SB w d u wr ∧ u + V ≤ d ∧ (S = 0 ∧ d < u + V + 1 ∨ ∃ j : Nat, j ≤ 60 ∧ S = 2 ^ j ∧ d < u + V + 2 * S)) (fun _ s _ => (intOf s).toNat)
      case atStart => exact ⟨0, 1152921504606846976, rfl, rfl, HS5.out, by have := HDU.out; omega, .inr ⟨60, by decide, by decide, by have := HDU.out; omega⟩⟩
      case round =>
       obtain ⟨V, S, rfl, rfl, hsb, hle, hst⟩ := hrel
       have HS6 := Lib.hid hsb
       clear hsb
       obtain ⟨W1, rfl⟩ : ∃ W : World, W = wr := ⟨wr, rfl⟩
       by_cases h0 : S = 0
       · have hV : d = u + V := by
          rcases hst with ⟨_, h⟩ | ⟨j, _, h, _⟩
          · omega
          · exfalso; have : 0 < 2 ^ j := Nat.pow_pos (by decide); omega
         subst h0
         have hi : isum xs = -(V : Int) := by have := HU.out; omega
         have hw : wrap64 (-(V : Int)) = -(V : Int) := by have := HDU.out; unfold wrap64; omega
         clear hst hle
         go_wp2_with fail
         refine bodyPost_ret (results_tmp rfl _ _ _) rfl ?_
         refine ⟨?_, HS6.out.b⟩
         show Ending.returned (.int .i64 (wrap64 (-(V : Int)))) = _
         rw [hw, hi]
       · have hpos : 0 < S := by omega
         have hSI : (0 : Int) < S := by omega
         obtain ⟨j, hj, hS2, hlt2⟩ : ∃ j : Nat, j ≤ 60 ∧ S = 2 ^ j ∧ d < u + V + 2 * S := by
          rcases hst with ⟨h, _⟩ | h
          · omega
          · exact h
         have hS60 : S ≤ 1152921504606846976 := pow_sixty hj hS2
         have HJ := Lib.hid (And.intro hj hS2)
         have HL := Lib.hid hlt2
         clear hj hS2 hlt2 hst
         have hVb : V ≤ 1125899906842624000 := by have := HDU.out; omega
         obtain ⟨T, hT⟩ : ∃ T : Nat, T = V + S := ⟨_, rfl⟩
         have HT2 := Lib.hid hT
         have hw1 : wrap64 ((V : Int) + (S : Int)) = (T : Int) := by unfold wrap64; omega
         have hVT : (V : Int) + (S : Int) = (T : Int) := by omega
         have hw2 : IntKind.i64.wrap (T : Int) = (T : Int) := by rw [IntKind.wrap_i64]; omega
         have HOF : Hid (∀ W, Calls Tryz.prog 475 #[.int .i64 (T : Int)] W fun e w' => e = .returned (.agg #[.int .i64 (dg T 0), .int .i64 (dg T 1), .int .i64 (dg T 2), .int .i64 (dg T 3), .int .i64 (dg T 4), .int .i64 (dg T 5)]) ∧ Below W.heap.size W w') := Lib.hid (fun W => of_big T (by omega) W)
         have HVS : Hid (u + T < 1237940039285380274899124224) := Lib.hid (by have := HDU.out; omega)
         have HLE := Lib.hid hle
         obtain ⟨H, hH⟩ : ∃ H : Nat, H = S / 2 := ⟨_, rfl⟩
         have HH := Lib.hid hH
         have hdv : (S : Int).tdiv 2 = (H : Int) := by rw [Int.tdiv_eq_ediv_of_nonneg (by omega)]; omega
         have hdv2 : (S : Int) / 2 = (H : Int) := by omega
         clear hH
         have hS0 : Below W1.heap.size W1 W1.drew := sb_drew (Below.refl _ _)
         clear hle hT
         have a0 : W1.cell? ⟨w.heap.size, 0, none⟩ = some (.int .i64 (dg d 0)) := by rw [cell_b HS6.out.up]; rfl
         have a1 : W1.cell? ⟨w.heap.size, 1, none⟩ = some (.int .i64 (dg d 1)) := by rw [cell_b HS6.out.up]; rfl
         have a2 : W1.cell? ⟨w.heap.size, 2, none⟩ = some (.int .i64 (dg d 2)) := by rw [cell_b HS6.out.up]; rfl
         have a3 : W1.cell? ⟨w.heap.size, 3, none⟩ = some (.int .i64 (dg d 3)) := by rw [cell_b HS6.out.up]; rfl
         have a4 : W1.cell? ⟨w.heap.size, 4, none⟩ = some (.int .i64 (dg d 4)) := by rw [cell_b HS6.out.up]; rfl
         have a5 : W1.cell? ⟨w.heap.size, 5, none⟩ = some (.int .i64 (dg d 5)) := by rw [cell_b HS6.out.up]; rfl
         have b0 : W1.cell? ⟨w.heap.size + 1, 0, none⟩ = some (.int .i64 (dg u 0)) := by rw [cell_b HS6.out.dn]; rfl
         have b1 : W1.cell? ⟨w.heap.size + 1, 1, none⟩ = some (.int .i64 (dg u 1)) := by rw [cell_b HS6.out.dn]; rfl
         have b2 : W1.cell? ⟨w.heap.size + 1, 2, none⟩ = some (.int .i64 (dg u 2)) := by rw [cell_b HS6.out.dn]; rfl
         have b3 : W1.cell? ⟨w.heap.size + 1, 3, none⟩ = some (.int .i64 (dg u 3)) := by rw [cell_b HS6.out.dn]; rfl
         have b4 : W1.cell? ⟨w.heap.size + 1, 4, none⟩ = some (.int .i64 (dg u 4)) := by rw [cell_b HS6.out.dn]; rfl
         have b5 : W1.cell? ⟨w.heap.size + 1, 5, none⟩ = some (.int .i64 (dg u 5)) := by rw [cell_b HS6.out.dn]; rfl
         go_wp2_with fail
         go_region_held3 (fun w' => Below W1.heap.size W1 w' ∧ w'.cell? ⟨w.heap.size, 0, none⟩ = some (.int .i64 (dg d 0)) ∧ w'.cell? ⟨w.heap.size, 1, none⟩ = some (.int .i64 (dg d 1)) ∧ w'.cell? ⟨w.heap.size, 2, none⟩ = some (.int .i64 (dg d 2)) ∧ w'.cell? ⟨w.heap.size, 3, none⟩ = some (.int .i64 (dg d 3)) ∧ w'.cell? ⟨w.heap.size, 4, none⟩ = some (.int .i64 (dg d 4)) ∧ w'.cell? ⟨w.heap.size, 5, none⟩ = some (.int .i64 (dg d 5)) ∧ w'.cell? ⟨w.heap.size + 1, 0, none⟩ = some (.int .i64 (dg u 0)) ∧ w'.cell? ⟨w.heap.size + 1, 1, none⟩ = some (.int .i64 (dg u 1)) ∧ w'.cell? ⟨w.heap.size + 1, 2, none⟩ = some (.int .i64 (dg u 2)) ∧ w'.cell? ⟨w.heap.size + 1, 3, none⟩ = some (.int .i64 (dg u 3)) ∧ w'.cell? ⟨w.heap.size + 1, 4, none⟩ = some (.int .i64 (dg u 4)) ∧ w'.cell? ⟨w.heap.size + 1, 5, none⟩ = some (.int .i64 (dg u 5)))
          (first
           | (have hI : Below W1.heap.size W1 _ := (by first | assumption | exact sb_drew (by assumption))
              exact ⟨hI, (hI.cell (p := ⟨w.heap.size, 0, none⟩) (blk_b HS6.out.up)).trans a0, (hI.cell (p := ⟨w.heap.size, 1, none⟩) (blk_b HS6.out.up)).trans a1, (hI.cell (p := ⟨w.heap.size, 2, none⟩) (blk_b HS6.out.up)).trans a2, (hI.cell (p := ⟨w.heap.size, 3, none⟩) (blk_b HS6.out.up)).trans a3, (hI.cell (p := ⟨w.heap.size, 4, none⟩) (blk_b HS6.out.up)).trans a4, (hI.cell (p := ⟨w.heap.size, 5, none⟩) (blk_b HS6.out.up)).trans a5, (hI.cell (p := ⟨w.heap.size + 1, 0, none⟩) (blk_b HS6.out.dn)).trans b0, (hI.cell (p := ⟨w.heap.size + 1, 1, none⟩) (blk_b HS6.out.dn)).trans b1, (hI.cell (p := ⟨w.heap.size + 1, 2, none⟩) (blk_b HS6.out.dn)).trans b2, (hI.cell (p := ⟨w.heap.size + 1, 3, none⟩) (blk_b HS6.out.dn)).trans b3, (hI.cell (p := ⟨w.heap.size + 1, 4, none⟩) (blk_b HS6.out.dn)).trans b4, (hI.cell (p := ⟨w.heap.size + 1, 5, none⟩) (blk_b HS6.out.dn)).trans b5⟩)
           | go_keep)
          ((first
            | (go_at_call 475; with_reducible refine Calls.mono (HOF.out _) ?_; rintro e wo ⟨rfl, hbo⟩; have hxo : Below W1.heap.size W1 wo := sb_step (by assumption) hbo)
            | (go_at_call 473; with_reducible refine Calls.mono (add_bigE u T (by have := HVS.out; omega) _) ?_; rintro e wa ⟨rfl, hba⟩; have hxa : Below W1.heap.size W1 wa := sb_step (by assumption) hba)
            | (go_at_call 474; with_reducible refine Calls.mono (cmp_bigE (u + T) d (by have := HVS.out; omega) (by have := HDU.out; omega) _) ?_; rintro e wc ⟨rfl, hbc⟩; have hxc : Below W1.heap.size W1 wc := sb_step (by assumption) hbc)))
         have HS7 := Lib.hid (HS6.out.below hxc)
         clear hxo hxa hxc hbo hba hbc hS0 a0 b0 a1 b1 a2 b2 a3 b3 a4 b4 a5 b5
         by_cases hc : u + T ≤ d
         · have hd : decide (cmpI (u + T) d ≤ 0) = true := by
            unfold cmpI
            split
            · decide
            · rw [if_neg (by omega)]; decide
           have hd2 : cmpI (u + T) d ≤ 0 := by simpa using hd
           have HC := Lib.hid hc
           clear hc
           go_wp2_with fail
           go_roundw
           case rel =>
            refine ⟨T, H, by first | rfl | (rw [hw1]) | (rw [hw2]), by first | rfl | (rw [hdv]) | (rw [hdv2]), HS7.out, HC.out, ?_⟩
            obtain ⟨hj, hS2⟩ := HJ.out
            have hl := HL.out
            have hT3 := HT2.out
            have hH := HH.out
            cases j with
            | zero => exact .inl ⟨by omega, by omega⟩
            | succ j =>
              rw [Nat.pow_succ] at hS2
              have e9 : H = 2 ^ j := by omega
              exact .inr ⟨j, by omega, e9, by omega⟩
           case measure => have hH := HH.out; simp [intOf]; omega
         · have hd : decide (cmpI (u + T) d ≤ 0) = false := by
            unfold cmpI
            rw [if_neg (by omega), if_pos (by omega)]
            decide
           have hd2 : ¬ (cmpI (u + T) d ≤ 0) := by simpa using hd
           have HC := Lib.hid hc
           clear hc
           go_wp2_with fail
           go_roundw
           case rel =>
            refine ⟨V, H, rfl, by first | rfl | (rw [hdv]) | (rw [hdv2]), HS7.out, HLE.out, ?_⟩
            obtain ⟨hj, hS2⟩ := HJ.out
            have hl := HC.out
            have hT3 := HT2.out
            have hH := HH.out
            cases j with
            | zero => exact .inl ⟨by omega, by omega⟩
            | succ j =>
              rw [Nat.pow_succ] at hS2
              have e9 : H = 2 ^ j := by omega
              exact .inr ⟨j, by omega, e9, by omega⟩
           case measure => have hH := HH.out; simp [intOf]; omega
    · have hc : cmpI u d = (if d < u then 1 else 0) := by unfold cmpI; rw [if_neg hm]
      have hc0 : ¬ (cmpI u d < 0) := by rw [hc]; split <;> decide
      have hcd : decide (cmpI u d < 0) = false := by simpa using hc0
      clear hc
      go_wp2_with fail
      have HS4 := HS3
      obtain ⟨W4, rfl⟩ : ∃ W : World, W = w3 := ⟨w3, rfl⟩
      clear HS3 a0 af0 b0 bf0 a1 af1 b1 bf1 a2 af2 b2 bf2 a3 af3 b3 bf3 a4 af4 b4 bf4 a5 af5 b5 bf5
      have HDU : Hid (d ≤ u ∧ u + d ≤ 1125899906842624000) := Lib.hid (by have := HSN.out; omega)
      have HSC := HS4
      have hS0 : Below W4.heap.size W4 W4.drew := sb_drew (Below.refl _ _)
      have a0 : W4.cell? ⟨w.heap.size, 0, none⟩ = some (.int .i64 (dg u 0)) := by rw [cell_b HSC.out.up]; rfl
      have a1 : W4.cell? ⟨w.heap.size, 1, none⟩ = some (.int .i64 (dg u 1)) := by rw [cell_b HSC.out.up]; rfl
      have a2 : W4.cell? ⟨w.heap.size, 2, none⟩ = some (.int .i64 (dg u 2)) := by rw [cell_b HSC.out.up]; rfl
      have a3 : W4.cell? ⟨w.heap.size, 3, none⟩ = some (.int .i64 (dg u 3)) := by rw [cell_b HSC.out.up]; rfl
      have a4 : W4.cell? ⟨w.heap.size, 4, none⟩ = some (.int .i64 (dg u 4)) := by rw [cell_b HSC.out.up]; rfl
      have a5 : W4.cell? ⟨w.heap.size, 5, none⟩ = some (.int .i64 (dg u 5)) := by rw [cell_b HSC.out.up]; rfl
      have b0 : W4.cell? ⟨w.heap.size + 1, 0, none⟩ = some (.int .i64 (dg d 0)) := by rw [cell_b HSC.out.dn]; rfl
      have b1 : W4.cell? ⟨w.heap.size + 1, 1, none⟩ = some (.int .i64 (dg d 1)) := by rw [cell_b HSC.out.dn]; rfl
      have b2 : W4.cell? ⟨w.heap.size + 1, 2, none⟩ = some (.int .i64 (dg d 2)) := by rw [cell_b HSC.out.dn]; rfl
      have b3 : W4.cell? ⟨w.heap.size + 1, 3, none⟩ = some (.int .i64 (dg d 3)) := by rw [cell_b HSC.out.dn]; rfl
      have b4 : W4.cell? ⟨w.heap.size + 1, 4, none⟩ = some (.int .i64 (dg d 4)) := by rw [cell_b HSC.out.dn]; rfl
      have b5 : W4.cell? ⟨w.heap.size + 1, 5, none⟩ = some (.int .i64 (dg d 5)) := by rw [cell_b HSC.out.dn]; rfl
      go_region_held3 (fun w' => Below W4.heap.size W4 w' ∧ w'.cell? ⟨w.heap.size, 0, none⟩ = some (.int .i64 (dg u 0)) ∧ w'.cell? ⟨w.heap.size, 1, none⟩ = some (.int .i64 (dg u 1)) ∧ w'.cell? ⟨w.heap.size, 2, none⟩ = some (.int .i64 (dg u 2)) ∧ w'.cell? ⟨w.heap.size, 3, none⟩ = some (.int .i64 (dg u 3)) ∧ w'.cell? ⟨w.heap.size, 4, none⟩ = some (.int .i64 (dg u 4)) ∧ w'.cell? ⟨w.heap.size, 5, none⟩ = some (.int .i64 (dg u 5)) ∧ w'.cell? ⟨w.heap.size + 1, 0, none⟩ = some (.int .i64 (dg d 0)) ∧ w'.cell? ⟨w.heap.size + 1, 1, none⟩ = some (.int .i64 (dg d 1)) ∧ w'.cell? ⟨w.heap.size + 1, 2, none⟩ = some (.int .i64 (dg d 2)) ∧ w'.cell? ⟨w.heap.size + 1, 3, none⟩ = some (.int .i64 (dg d 3)) ∧ w'.cell? ⟨w.heap.size + 1, 4, none⟩ = some (.int .i64 (dg d 4)) ∧ w'.cell? ⟨w.heap.size + 1, 5, none⟩ = some (.int .i64 (dg d 5)))
       (first
        | (have hI : Below W4.heap.size W4 _ := (by first | assumption | exact sb_drew (by assumption))
           exact ⟨hI, (hI.cell (p := ⟨w.heap.size, 0, none⟩) (blk_b HSC.out.up)).trans a0, (hI.cell (p := ⟨w.heap.size, 1, none⟩) (blk_b HSC.out.up)).trans a1, (hI.cell (p := ⟨w.heap.size, 2, none⟩) (blk_b HSC.out.up)).trans a2, (hI.cell (p := ⟨w.heap.size, 3, none⟩) (blk_b HSC.out.up)).trans a3, (hI.cell (p := ⟨w.heap.size, 4, none⟩) (blk_b HSC.out.up)).trans a4, (hI.cell (p := ⟨w.heap.size, 5, none⟩) (blk_b HSC.out.up)).trans a5, (hI.cell (p := ⟨w.heap.size + 1, 0, none⟩) (blk_b HSC.out.dn)).trans b0, (hI.cell (p := ⟨w.heap.size + 1, 1, none⟩) (blk_b HSC.out.dn)).trans b1, (hI.cell (p := ⟨w.heap.size + 1, 2, none⟩) (blk_b HSC.out.dn)).trans b2, (hI.cell (p := ⟨w.heap.size + 1, 3, none⟩) (blk_b HSC.out.dn)).trans b3, (hI.cell (p := ⟨w.heap.size + 1, 4, none⟩) (blk_b HSC.out.dn)).trans b4, (hI.cell (p := ⟨w.heap.size + 1, 5, none⟩) (blk_b HSC.out.dn)).trans b5⟩)
        | go_keep)
       ((first
         | (go_at_call 475; with_reducible refine Calls.mono (of_big 1152921504606846976 (by decide) _) ?_; rintro e wo ⟨rfl, hbo⟩; have hxo : Below W4.heap.size W4 wo := sb_step (by assumption) hbo)
         | (go_at_call 473; with_reducible refine Calls.mono (add_bigE d 1152921504606846976 (by have := HDU.out; omega) _) ?_; rintro e wa ⟨rfl, hba⟩; have hxa : Below W4.heap.size W4 wa := sb_step (by assumption) hba)
         | (go_at_call 474; with_reducible refine Calls.mono (cmp_bigE (d + 1152921504606846976) u (by have := HDU.out; omega) (by have := HDU.out; omega) _) ?_; rintro e wc ⟨rfl, hbc⟩; have hxc : Below W4.heap.size W4 wc := sb_step (by assumption) hbc)))
      have HS5 := Lib.hid (HSC.out.below hxc)
      have hcm : cmpI (d + 1152921504606846976) u = 1 := by
       unfold cmpI
       have := HDU.out
       rw [if_neg (by omega), if_pos (by omega)]
      have hcd2 : decide (cmpI (d + 1152921504606846976) u < 0) = false := by rw [hcm]; decide
      have hcd3 : ¬ (cmpI (d + 1152921504606846976) u < 0) := by rw [hcm]; decide
      obtain ⟨W5, hW5⟩ : ∃ W : World, W = wc := ⟨wc, rfl⟩
      subst hW5
      clear hxo hxa hxc hbo hba hbc hS0 hcm HSC HS4 a0 b0 a1 b1 a2 b2 a3 b3 a4 b4 a5 b5
      go_wp2_with fail
      go_loopw [11, 12] (fun v s wr => ∃ V S : Nat, v = .int .i64 V ∧ s = .int .i64 S ∧ SB w u d wr ∧ d + V ≤ u ∧ (S = 0 ∧ u < d + V + 1 ∨ ∃ j : Nat, j ≤ 60 ∧ S = 2 ^ j ∧ u < d + V + 2 * S)) (fun _ s _ => (intOf s).toNat)
      case atStart => exact ⟨0, 1152921504606846976, rfl, rfl, HS5.out, by have := HDU.out; omega, .inr ⟨60, by decide, by decide, by have := HDU.out; omega⟩⟩
      case round =>
       obtain ⟨V, S, rfl, rfl, hsb, hle, hst⟩ := hrel
       have HS6 := Lib.hid hsb
       clear hsb
       obtain ⟨W1, rfl⟩ : ∃ W : World, W = wr := ⟨wr, rfl⟩
       by_cases h0 : S = 0
       · have hV : u = d + V := by
          rcases hst with ⟨_, h⟩ | ⟨j, _, h, _⟩
          · omega
          · exfalso; have : 0 < 2 ^ j := Nat.pow_pos (by decide); omega
         subst h0
         have hi : isum xs = (V : Int) := by have := HU.out; omega
         have hw : wrap64 (-(V : Int)) = -(V : Int) := by have := HDU.out; unfold wrap64; omega
         clear hst hle
         go_wp2_with fail
         refine bodyPost_ret (results_tmp rfl _ _ _) rfl ?_
         refine ⟨?_, HS6.out.b⟩
         show Ending.returned (.int .i64 (V : Int)) = _
         rw [hi]
       · have hpos : 0 < S := by omega
         have hSI : (0 : Int) < S := by omega
         obtain ⟨j, hj, hS2, hlt2⟩ : ∃ j : Nat, j ≤ 60 ∧ S = 2 ^ j ∧ u < d + V + 2 * S := by
          rcases hst with ⟨h, _⟩ | h
          · omega
          · exact h
         have hS60 : S ≤ 1152921504606846976 := pow_sixty hj hS2
         have HJ := Lib.hid (And.intro hj hS2)
         have HL := Lib.hid hlt2
         clear hj hS2 hlt2 hst
         have hVb : V ≤ 1125899906842624000 := by have := HDU.out; omega
         obtain ⟨T, hT⟩ : ∃ T : Nat, T = V + S := ⟨_, rfl⟩
         have HT2 := Lib.hid hT
         have hw1 : wrap64 ((V : Int) + (S : Int)) = (T : Int) := by unfold wrap64; omega
         have hVT : (V : Int) + (S : Int) = (T : Int) := by omega
         have hw2 : IntKind.i64.wrap (T : Int) = (T : Int) := by rw [IntKind.wrap_i64]; omega
         have HOF : Hid (∀ W, Calls Tryz.prog 475 #[.int .i64 (T : Int)] W fun e w' => e = .returned (.agg #[.int .i64 (dg T 0), .int .i64 (dg T 1), .int .i64 (dg T 2), .int .i64 (dg T 3), .int .i64 (dg T 4), .int .i64 (dg T 5)]) ∧ Below W.heap.size W w') := Lib.hid (fun W => of_big T (by omega) W)
         have HVS : Hid (d + T < 1237940039285380274899124224) := Lib.hid (by have := HDU.out; omega)
         have HLE := Lib.hid hle
         obtain ⟨H, hH⟩ : ∃ H : Nat, H = S / 2 := ⟨_, rfl⟩
         have HH := Lib.hid hH
         have hdv : (S : Int).tdiv 2 = (H : Int) := by rw [Int.tdiv_eq_ediv_of_nonneg (by omega)]; omega
         have hdv2 : (S : Int) / 2 = (H : Int) := by omega
         clear hH
         have hS0 : Below W1.heap.size W1 W1.drew := sb_drew (Below.refl _ _)
         clear hle hT
         have a0 : W1.cell? ⟨w.heap.size, 0, none⟩ = some (.int .i64 (dg u 0)) := by rw [cell_b HS6.out.up]; rfl
         have a1 : W1.cell? ⟨w.heap.size, 1, none⟩ = some (.int .i64 (dg u 1)) := by rw [cell_b HS6.out.up]; rfl
         have a2 : W1.cell? ⟨w.heap.size, 2, none⟩ = some (.int .i64 (dg u 2)) := by rw [cell_b HS6.out.up]; rfl
         have a3 : W1.cell? ⟨w.heap.size, 3, none⟩ = some (.int .i64 (dg u 3)) := by rw [cell_b HS6.out.up]; rfl
         have a4 : W1.cell? ⟨w.heap.size, 4, none⟩ = some (.int .i64 (dg u 4)) := by rw [cell_b HS6.out.up]; rfl
         have a5 : W1.cell? ⟨w.heap.size, 5, none⟩ = some (.int .i64 (dg u 5)) := by rw [cell_b HS6.out.up]; rfl
         have b0 : W1.cell? ⟨w.heap.size + 1, 0, none⟩ = some (.int .i64 (dg d 0)) := by rw [cell_b HS6.out.dn]; rfl
         have b1 : W1.cell? ⟨w.heap.size + 1, 1, none⟩ = some (.int .i64 (dg d 1)) := by rw [cell_b HS6.out.dn]; rfl
         have b2 : W1.cell? ⟨w.heap.size + 1, 2, none⟩ = some (.int .i64 (dg d 2)) := by rw [cell_b HS6.out.dn]; rfl
         have b3 : W1.cell? ⟨w.heap.size + 1, 3, none⟩ = some (.int .i64 (dg d 3)) := by rw [cell_b HS6.out.dn]; rfl
         have b4 : W1.cell? ⟨w.heap.size + 1, 4, none⟩ = some (.int .i64 (dg d 4)) := by rw [cell_b HS6.out.dn]; rfl
         have b5 : W1.cell? ⟨w.heap.size + 1, 5, none⟩ = some (.int .i64 (dg d 5)) := by rw [cell_b HS6.out.dn]; rfl
         go_wp2_with fail
         go_region_held3 (fun w' => Below W1.heap.size W1 w' ∧ w'.cell? ⟨w.heap.size, 0, none⟩ = some (.int .i64 (dg u 0)) ∧ w'.cell? ⟨w.heap.size, 1, none⟩ = some (.int .i64 (dg u 1)) ∧ w'.cell? ⟨w.heap.size, 2, none⟩ = some (.int .i64 (dg u 2)) ∧ w'.cell? ⟨w.heap.size, 3, none⟩ = some (.int .i64 (dg u 3)) ∧ w'.cell? ⟨w.heap.size, 4, none⟩ = some (.int .i64 (dg u 4)) ∧ w'.cell? ⟨w.heap.size, 5, none⟩ = some (.int .i64 (dg u 5)) ∧ w'.cell? ⟨w.heap.size + 1, 0, none⟩ = some (.int .i64 (dg d 0)) ∧ w'.cell? ⟨w.heap.size + 1, 1, none⟩ = some (.int .i64 (dg d 1)) ∧ w'.cell? ⟨w.heap.size + 1, 2, none⟩ = some (.int .i64 (dg d 2)) ∧ w'.cell? ⟨w.heap.size + 1, 3, none⟩ = some (.int .i64 (dg d 3)) ∧ w'.cell? ⟨w.heap.size + 1, 4, none⟩ = some (.int .i64 (dg d 4)) ∧ w'.cell? ⟨w.heap.size + 1, 5, none⟩ = some (.int .i64 (dg d 5)))
          (first
           | (have hI : Below W1.heap.size W1 _ := (by first | assumption | exact sb_drew (by assumption))
              exact ⟨hI, (hI.cell (p := ⟨w.heap.size, 0, none⟩) (blk_b HS6.out.up)).trans a0, (hI.cell (p := ⟨w.heap.size, 1, none⟩) (blk_b HS6.out.up)).trans a1, (hI.cell (p := ⟨w.heap.size, 2, none⟩) (blk_b HS6.out.up)).trans a2, (hI.cell (p := ⟨w.heap.size, 3, none⟩) (blk_b HS6.out.up)).trans a3, (hI.cell (p := ⟨w.heap.size, 4, none⟩) (blk_b HS6.out.up)).trans a4, (hI.cell (p := ⟨w.heap.size, 5, none⟩) (blk_b HS6.out.up)).trans a5, (hI.cell (p := ⟨w.heap.size + 1, 0, none⟩) (blk_b HS6.out.dn)).trans b0, (hI.cell (p := ⟨w.heap.size + 1, 1, none⟩) (blk_b HS6.out.dn)).trans b1, (hI.cell (p := ⟨w.heap.size + 1, 2, none⟩) (blk_b HS6.out.dn)).trans b2, (hI.cell (p := ⟨w.heap.size + 1, 3, none⟩) (blk_b HS6.out.dn)).trans b3, (hI.cell (p := ⟨w.heap.size + 1, 4, none⟩) (blk_b HS6.out.dn)).trans b4, (hI.cell (p := ⟨w.heap.size + 1, 5, none⟩) (blk_b HS6.out.dn)).trans b5⟩)
           | go_keep)
          ((first
            | (go_at_call 475; with_reducible refine Calls.mono (HOF.out _) ?_; rintro e wo ⟨rfl, hbo⟩; have hxo : Below W1.heap.size W1 wo := sb_step (by assumption) hbo)
            | (go_at_call 473; with_reducible refine Calls.mono (add_bigE d T (by have := HVS.out; omega) _) ?_; rintro e wa ⟨rfl, hba⟩; have hxa : Below W1.heap.size W1 wa := sb_step (by assumption) hba)
            | (go_at_call 474; with_reducible refine Calls.mono (cmp_bigE (d + T) u (by have := HVS.out; omega) (by have := HDU.out; omega) _) ?_; rintro e wc ⟨rfl, hbc⟩; have hxc : Below W1.heap.size W1 wc := sb_step (by assumption) hbc)))
         have HS7 := Lib.hid (HS6.out.below hxc)
         clear hxo hxa hxc hbo hba hbc hS0 a0 b0 a1 b1 a2 b2 a3 b3 a4 b4 a5 b5
         by_cases hc : d + T ≤ u
         · have hd : decide (cmpI (d + T) u ≤ 0) = true := by
            unfold cmpI
            split
            · decide
            · rw [if_neg (by omega)]; decide
           have hd2 : cmpI (d + T) u ≤ 0 := by simpa using hd
           have HC := Lib.hid hc
           clear hc
           go_wp2_with fail
           go_roundw
           case rel =>
            refine ⟨T, H, by first | rfl | (rw [hw1]) | (rw [hw2]), by first | rfl | (rw [hdv]) | (rw [hdv2]), HS7.out, HC.out, ?_⟩
            obtain ⟨hj, hS2⟩ := HJ.out
            have hl := HL.out
            have hT3 := HT2.out
            have hH := HH.out
            cases j with
            | zero => exact .inl ⟨by omega, by omega⟩
            | succ j =>
              rw [Nat.pow_succ] at hS2
              have e9 : H = 2 ^ j := by omega
              exact .inr ⟨j, by omega, e9, by omega⟩
           case measure => have hH := HH.out; simp [intOf]; omega
         · have hd : decide (cmpI (d + T) u ≤ 0) = false := by
            unfold cmpI
            rw [if_neg (by omega), if_pos (by omega)]
            decide
           have hd2 : ¬ (cmpI (d + T) u ≤ 0) := by simpa using hd
           have HC := Lib.hid hc
           clear hc
           go_wp2_with fail
           go_roundw
           case rel =>
            refine ⟨V, H, rfl, by first | rfl | (rw [hdv]) | (rw [hdv2]), HS7.out, HLE.out, ?_⟩
            obtain ⟨hj, hS2⟩ := HJ.out
            have hl := HC.out
            have hT3 := HT2.out
            have hH := HH.out
            cases j with
            | zero => exact .inl ⟨by omega, by omega⟩
            | succ j =>
              rw [Nat.pow_succ] at hS2
              have e9 : H = 2 ^ j := by omega
              exact .inr ⟨j, by omega, e9, by omega⟩
           case measure => have hH := HH.out; simp [intOf]; omega
end Go.Proofs.YtdfgedemolielaaGreat
