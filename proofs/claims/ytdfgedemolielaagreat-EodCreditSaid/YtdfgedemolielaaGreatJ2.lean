/- The document's big numbers: Cmp. -/
import Derived.Test.YtdfgedemolielaaGreatJ0
import Derived.WalkKit
import Derived.LoopN
import Derived.Below
import Derived.BigQuiet
import Derived.Test.YtdfgedemolielaaGreatJ1
namespace Go.Proofs.YtdfgedemolielaaGreat
open Go Go.RowKit Gv
theorem below_drewN {B n : Nat} {a w : World} (h : Below B a w) : Below B a (w.drewN n) := ⟨h.os, h.tape, h.output, h.size, h.block⟩
def cmpD : List Int → List Int → Int
 | x :: l, y :: m => if x < y then -1 else if x > y then 1 else cmpD l m
 | _, _ => 0
set_option maxRecDepth 100000 in
set_option maxHeartbeats 4000000 in
theorem cmp_ok (x0 x1 x2 x3 x4 x5 y0 y1 y2 y3 y4 y5 : Int) (w : World) : Calls Tryz.prog 474 #[.agg #[.int .i64 x0, .int .i64 x1, .int .i64 x2, .int .i64 x3, .int .i64 x4, .int .i64 x5], .agg #[.int .i64 y0, .int .i64 y1, .int .i64 y2, .int .i64 y3, .int .i64 y4, .int .i64 y5]] w
 fun e w' => e = .returned (.int .i64 (cmpD [x5, x4, x3, x2, x1, x0] [y5, y4, y3, y2, y1, y0])) ∧ Below w.heap.size w w' := by
 go_enter Tryz.func474, Tryz.ntmps474
 go_wp2
 refine wp_loop_rounds 7 ?_
 rw [rounds_succ]; go_wp2
 go_quiet (fail)
 go_wp2
 · rename_i c5
   go_ret
   refine ⟨by have hc : cmpD [x5, x4, x3, x2, x1, x0] [y5, y4, y3, y2, y1, y0] = -1 := (by simp only [cmpD]; (repeat' split) <;> omega); rw [hc]; rfl, ?_⟩
   repeat' apply below_drewN
   exact ((Below.refl _ w).alloc (Nat.le_refl _) _).alloc (by simp) _
 · rename_i c5
   go_quiet (fail)
   go_wp2
   · rename_i d5
     go_ret
     refine ⟨by have hc : cmpD [x5, x4, x3, x2, x1, x0] [y5, y4, y3, y2, y1, y0] = 1 := (by simp only [cmpD]; (repeat' split) <;> omega); rw [hc]; rfl, ?_⟩
     repeat' apply below_drewN
     exact ((Below.refl _ w).alloc (Nat.le_refl _) _).alloc (by simp) _
   · rename_i d5
     rw [rounds_succ]; go_wp2
     go_quiet (fail)
     go_wp2
     · rename_i c4
       go_ret
       refine ⟨by have hc : cmpD [x5, x4, x3, x2, x1, x0] [y5, y4, y3, y2, y1, y0] = -1 := (by simp only [cmpD]; (repeat' split) <;> omega); rw [hc]; rfl, ?_⟩
       repeat' apply below_drewN
       exact ((Below.refl _ w).alloc (Nat.le_refl _) _).alloc (by simp) _
     · rename_i c4
       go_quiet (fail)
       go_wp2
       · rename_i d4
         go_ret
         refine ⟨by have hc : cmpD [x5, x4, x3, x2, x1, x0] [y5, y4, y3, y2, y1, y0] = 1 := (by simp only [cmpD]; (repeat' split) <;> omega); rw [hc]; rfl, ?_⟩
         repeat' apply below_drewN
         exact ((Below.refl _ w).alloc (Nat.le_refl _) _).alloc (by simp) _
       · rename_i d4
         rw [rounds_succ]; go_wp2
         go_quiet (fail)
         go_wp2
         · rename_i c3
           go_ret
           refine ⟨by have hc : cmpD [x5, x4, x3, x2, x1, x0] [y5, y4, y3, y2, y1, y0] = -1 := (by simp only [cmpD]; (repeat' split) <;> omega); rw [hc]; rfl, ?_⟩
           repeat' apply below_drewN
           exact ((Below.refl _ w).alloc (Nat.le_refl _) _).alloc (by simp) _
         · rename_i c3
           go_quiet (fail)
           go_wp2
           · rename_i d3
             go_ret
             refine ⟨by have hc : cmpD [x5, x4, x3, x2, x1, x0] [y5, y4, y3, y2, y1, y0] = 1 := (by simp only [cmpD]; (repeat' split) <;> omega); rw [hc]; rfl, ?_⟩
             repeat' apply below_drewN
             exact ((Below.refl _ w).alloc (Nat.le_refl _) _).alloc (by simp) _
           · rename_i d3
             rw [rounds_succ]; go_wp2
             go_quiet (fail)
             go_wp2
             · rename_i c2
               go_ret
               refine ⟨by have hc : cmpD [x5, x4, x3, x2, x1, x0] [y5, y4, y3, y2, y1, y0] = -1 := (by simp only [cmpD]; (repeat' split) <;> omega); rw [hc]; rfl, ?_⟩
               repeat' apply below_drewN
               exact ((Below.refl _ w).alloc (Nat.le_refl _) _).alloc (by simp) _
             · rename_i c2
               go_quiet (fail)
               go_wp2
               · rename_i d2
                 go_ret
                 refine ⟨by have hc : cmpD [x5, x4, x3, x2, x1, x0] [y5, y4, y3, y2, y1, y0] = 1 := (by simp only [cmpD]; (repeat' split) <;> omega); rw [hc]; rfl, ?_⟩
                 repeat' apply below_drewN
                 exact ((Below.refl _ w).alloc (Nat.le_refl _) _).alloc (by simp) _
               · rename_i d2
                 rw [rounds_succ]; go_wp2
                 go_quiet (fail)
                 go_wp2
                 · rename_i c1
                   go_ret
                   refine ⟨by have hc : cmpD [x5, x4, x3, x2, x1, x0] [y5, y4, y3, y2, y1, y0] = -1 := (by simp only [cmpD]; (repeat' split) <;> omega); rw [hc]; rfl, ?_⟩
                   repeat' apply below_drewN
                   exact ((Below.refl _ w).alloc (Nat.le_refl _) _).alloc (by simp) _
                 · rename_i c1
                   go_quiet (fail)
                   go_wp2
                   · rename_i d1
                     go_ret
                     refine ⟨by have hc : cmpD [x5, x4, x3, x2, x1, x0] [y5, y4, y3, y2, y1, y0] = 1 := (by simp only [cmpD]; (repeat' split) <;> omega); rw [hc]; rfl, ?_⟩
                     repeat' apply below_drewN
                     exact ((Below.refl _ w).alloc (Nat.le_refl _) _).alloc (by simp) _
                   · rename_i d1
                     rw [rounds_succ]; go_wp2
                     go_quiet (fail)
                     go_wp2
                     · rename_i c0
                       go_ret
                       refine ⟨by have hc : cmpD [x5, x4, x3, x2, x1, x0] [y5, y4, y3, y2, y1, y0] = -1 := (by simp only [cmpD]; (repeat' split) <;> omega); rw [hc]; rfl, ?_⟩
                       repeat' apply below_drewN
                       exact ((Below.refl _ w).alloc (Nat.le_refl _) _).alloc (by simp) _
                     · rename_i c0
                       go_quiet (fail)
                       go_wp2
                       · rename_i d0
                         go_ret
                         refine ⟨by have hc : cmpD [x5, x4, x3, x2, x1, x0] [y5, y4, y3, y2, y1, y0] = 1 := (by simp only [cmpD]; (repeat' split) <;> omega); rw [hc]; rfl, ?_⟩
                         repeat' apply below_drewN
                         exact ((Below.refl _ w).alloc (Nat.le_refl _) _).alloc (by simp) _
                       · rename_i d0
                         rw [rounds_succ]; go_wp2
                         go_ret
                         refine ⟨by have hc : cmpD [x5, x4, x3, x2, x1, x0] [y5, y4, y3, y2, y1, y0] = 0 := (by simp only [cmpD]; (repeat' split) <;> omega); rw [hc]; rfl, ?_⟩
                         repeat' apply below_drewN
                         exact ((Below.refl _ w).alloc (Nat.le_refl _) _).alloc (by simp) _
end Go.Proofs.YtdfgedemolielaaGreat
/- The document's big numbers: most, by a loop that is told by what holds at its head. -/
namespace Go.Proofs.YtdfgedemolielaaGreat
open Go Go.RowKit Gv
theorem of3 (v : Int) (h0 : 0 ≤ v) (h1 : v < 9223372036854775808) : ∃ d0 d1 d2 : Int, (0 ≤ d0 ∧ d0 ≤ 1073741823) ∧ (0 ≤ d1 ∧ d1 ≤ 1073741823) ∧ (0 ≤ d2 ∧ d2 ≤ 7) ∧ v = d0 + 1073741824 * d1 + 1152921504606846976 * d2 ∧
 ∀ w : World, Calls Tryz.prog 475 #[.int .i64 v] w fun e w' => e = .returned (.agg #[.int .i64 d0, .int .i64 d1, .int .i64 d2, .int .i64 0, .int .i64 0, .int .i64 0]) ∧ Below w.heap.size w w' := by
 obtain ⟨m, rfl⟩ := Int.eq_ofNat_of_zero_le h0
 have e3 : dg m 3 = 0 := by unfold dg; rw [Nat.div_eq_of_lt (by omega)]
 have e4 : dg m 4 = 0 := by unfold dg; rw [Nat.div_eq_of_lt (by omega)]
 have e5 : dg m 5 = 0 := by unfold dg; rw [Nat.div_eq_of_lt (by omega)]
 have e0 : dg m 0 = m % 1073741824 := by unfold dg; rw [Nat.pow_zero, Nat.div_one]
 have e1 : dg m 1 = m / 1073741824 % 1073741824 := by unfold dg; rw [Nat.pow_one]
 have e2 : dg m 2 = m / 1152921504606846976 % 1073741824 := by unfold dg; rfl
 refine ⟨dg m 0, dg m 1, dg m 2, by omega, by omega, by omega, by omega, fun w => ?_⟩
 refine (of_ok m (by omega) w).mono ?_
 rintro e w' ⟨rfl, hb⟩
 refine ⟨?_, hb⟩
 unfold bigV
 rw [e3, e4, e5]
 rfl
def valD : List Int → Int
 | [] => 0
 | x :: l => x * 1073741824 ^ l.length + valD l
theorem valD_rng : ∀ (l : List Int), (∀ x ∈ l, 0 ≤ x ∧ x < 1073741824) → 0 ≤ valD l ∧ valD l < 1073741824 ^ l.length
 | [], _ => by simp [valD]
 | x :: l, h => by
   obtain ⟨h1, h2⟩ := valD_rng l fun y hy => h y (List.mem_cons_of_mem _ hy)
   obtain ⟨h3, h4⟩ := h x (List.mem_cons_self ..)
   have hp : (0 : Int) < 1073741824 ^ l.length := Int.pow_pos (by decide)
   have h5 : 0 ≤ x * 1073741824 ^ l.length := Int.mul_nonneg h3 (by omega)
   have h6 : (x + 1) * 1073741824 ^ l.length ≤ 1073741824 * 1073741824 ^ l.length := Int.mul_le_mul_of_nonneg_right (by omega) (by omega)
   rw [Int.add_mul, Int.one_mul] at h6
   simp only [valD, List.length_cons, Int.pow_succ]
   rw [Int.mul_comm (1073741824 ^ l.length) 1073741824]
   omega
theorem cmpD_ok : ∀ (l m : List Int), l.length = m.length → (∀ x ∈ l, 0 ≤ x ∧ x < 1073741824) → (∀ x ∈ m, 0 ≤ x ∧ x < 1073741824) → (-1 ≤ cmpD l m ∧ cmpD l m ≤ 1) ∧ (cmpD l m ≤ 0 ↔ valD l ≤ valD m)
 | [], [], _, _, _ => by simp [cmpD, valD]
 | [], y :: m, h, _, _ => by simp at h
 | x :: l, [], h, _, _ => by simp at h
 | x :: l, y :: m, hl, hx, hy => by
   have hlen : l.length = m.length := by simpa using hl
   obtain ⟨i1, i2⟩ := cmpD_ok l m hlen (fun z hz => hx z (List.mem_cons_of_mem _ hz)) (fun z hz => hy z (List.mem_cons_of_mem _ hz))
   obtain ⟨a1, a2⟩ := valD_rng l fun z hz => hx z (List.mem_cons_of_mem _ hz)
   obtain ⟨b1, b2⟩ := valD_rng m fun z hz => hy z (List.mem_cons_of_mem _ hz)
   have hp : (0 : Int) < 1073741824 ^ m.length := Int.pow_pos (by decide)
   rw [hlen] at a2
   simp only [cmpD, valD, hlen]
   by_cases h1 : x < y
   · rw [if_pos h1]
     have := Int.mul_le_mul_of_nonneg_right (show x + 1 ≤ y by omega) (show 0 ≤ (1073741824 : Int) ^ m.length by omega)
     rw [Int.add_mul, Int.one_mul] at this
     omega
   · rw [if_neg h1]
     by_cases h2 : x > y
     · rw [if_pos h2]
       have := Int.mul_le_mul_of_nonneg_right (show y + 1 ≤ x by omega) (show 0 ≤ (1073741824 : Int) ^ m.length by omega)
       rw [Int.add_mul, Int.one_mul] at this
       omega
     · rw [if_neg h2]
       obtain rfl : x = y := by omega
       omega
theorem cmp5 (x0 x1 x2 x3 x4 y0 y1 y2 y3 y4 : Int) (hx0 : 0 ≤ x0 ∧ x0 < 1073741824) (hx1 : 0 ≤ x1 ∧ x1 < 1073741824) (hx2 : 0 ≤ x2 ∧ x2 < 1073741824) (hx3 : 0 ≤ x3 ∧ x3 < 1073741824) (hx4 : 0 ≤ x4 ∧ x4 < 1073741824)
 (hy0 : 0 ≤ y0 ∧ y0 < 1073741824) (hy1 : 0 ≤ y1 ∧ y1 < 1073741824) (hy2 : 0 ≤ y2 ∧ y2 < 1073741824) (hy3 : 0 ≤ y3 ∧ y3 < 1073741824) (hy4 : 0 ≤ y4 ∧ y4 < 1073741824) :
 ∃ s : Int, (-1 ≤ s ∧ s ≤ 1) ∧ (s ≤ 0 ↔ x0 + 1073741824 * x1 + 1152921504606846976 * x2 + 1237940039285380274899124224 * x3 + 1329227995784915872903807060280344576 * x4 ≤ y0 + 1073741824 * y1 + 1152921504606846976 * y2 + 1237940039285380274899124224 * y3 + 1329227995784915872903807060280344576 * y4) ∧
 ∀ w : World, Calls Tryz.prog 474 #[.agg #[.int .i64 x0, .int .i64 x1, .int .i64 x2, .int .i64 x3, .int .i64 x4, .int .i64 0], .agg #[.int .i64 y0, .int .i64 y1, .int .i64 y2, .int .i64 y3, .int .i64 y4, .int .i64 0]] w
  fun e w' => e = .returned (.int .i64 s) ∧ Below w.heap.size w w' := by
 obtain ⟨h1, h2⟩ := cmpD_ok [0, x4, x3, x2, x1, x0] [0, y4, y3, y2, y1, y0] rfl (by simp; omega) (by simp; omega)
 refine ⟨cmpD [0, x4, x3, x2, x1, x0] [0, y4, y3, y2, y1, y0], h1, h2.trans ?_, fun w => cmp_ok x0 x1 x2 x3 x4 0 y0 y1 y2 y3 y4 0 w⟩
 simp only [valD, List.length_cons, List.length_nil, Nat.reduceAdd, Int.reducePow]
 omega
def agA : List V := [.sint .i64 0 [(0,1)], .sint .i64 0 [(1,1)], .sint .i64 0 [(2,1)], .sint .i64 0 [(3,1)], .sint .i64 0 [(4,1)], .int .i64 0]
def agC : List V := [.sint .i64 0 [(5,1)], .sint .i64 0 [(6,1)], .sint .i64 0 [(7,1)], .int .i64 0, .int .i64 0, .int .i64 0]
def agM : List V := [.sint .i64 0 [(13,1)], .sint .i64 0 [(14,1)], .sint .i64 0 [(15,1)], .int .i64 0, .int .i64 0, .int .i64 0]
def agP : List V := [.sint .i64 0 [(16,1)], .sint .i64 0 [(17,1)], .sint .i64 0 [(18,1)], .sint .i64 0 [(19,1)], .sint .i64 0 [(20,1)], .int .i64 0]
def mostT : List HT := [⟨475, [.sint .i64 0 [(12,1),(11,1),(9,1)]], .agg agM⟩, ⟨505, [.agg agM, .agg agC], .agg agP⟩, ⟨474, [.agg agP, .agg agA], .sint .i64 0 [(21,1)]⟩]
def mostBd : List (Int × Int) := [(0, 1073741823), (0, 1073741823), (0, 1073741823), (0, 1073741823), (0, 1073741823), (0, 1073741823), (0, 1073741823), (0, 7), (0, 1152921504606846977), (0, 1152921504606846977), (0, 1152921504606846977), (0, 576460752303423488), (0, 1), (0, 1073741823), (0, 1073741823), (0, 7), (0, 1073741823), (0, 1073741823), (0, 1073741823), (0, 1073741823), (0, 1073741823), (-1, 1)]
def mostNl : List NL := [⟨1, .i64, (0,[(10,1),(9,-1)]), (2,[]), 11⟩, ⟨2, .i64, (0,[(10,1),(9,-1)]), (2,[]), 12⟩]
def mostGe (i : Nat) : List (Int × List (Nat × Int)) := match i with
 | 0 => [(0,[(9,1),(10,-1)]), (0,[(9,1),(8,-1)]), (0,[(8,1),(9,-1)])]
 | 1 => [(-1,[(10,1),(9,-1)]), (0,[(21,-1)])]
 | _ => [(-1,[(10,1),(9,-1)]), (-1,[(21,1)])]
def mostBd0 : List (Int × Int) := mostBd.take 9
noncomputable def mostE0 : Env := evE Tryz.prog (fun _ => none) mostBd0 [] []
noncomputable def mostE (i : Nat) : Env := evE Tryz.prog (hkT mostT) mostBd (mostGe i) mostNl
noncomputable def mostS : LSpec where
 K := 9
 id := 0
 body := bodyOf 0 Tryz.f504
 W := [7, 8, 9, 11, 12, 13, 14, 15, 16, 17, 18, 19, 20, 21, 22, 23, 24, 25, 26, 27, 28, 29, 30, 31, 32, 33, 34]
 inv := [(7, .sint .i64 0 [(9,1)]), (8, .sint .i64 0 [(10,1)])]
 init := [(0, []), (1152921504606846977, [])]
 cases := [⟨mostE 0, 10, false, []⟩, ⟨mostE 1, 10, true, [(0, [(12,1),(11,1),(9,1)]), (0, [(10,1)])]⟩, ⟨mostE 2, 10, true, [(0, [(9,1)]), (-1, [(12,1),(11,1),(9,1)])]⟩]
 fin := [(7, .sint .i64 0 [(8,1)])]
 need := [3, 4]
noncomputable def mostLk (i : Nat) : Option (Fr → H → RX) := bif Nat.beq i 0 then some (loopG mostS Tryz.f504.ntmps) else none
theorem mostRun : ((runL mostE0 mostLk 10 Tryz.f504 [.agg agA, .agg agC, .int .i64 1152921504606846977] H0).isV (.sint .i64 0 [(8,1)])) = true := by kernel_rfl
def mostGood (σ : Nat → Int) : Prop := 0 ≤ σ 9 ∧ σ 9 ≤ σ 8 ∧ σ 8 ≤ σ 10 ∧ σ 10 ≤ 1152921504606846977
set_option maxRecDepth 100000 in
set_option maxHeartbeats 2000000 in
theorem most_ok (a0 a1 a2 a3 a4 c0 c1 c2 : Int) (ha0 : 0 ≤ a0 ∧ a0 ≤ 1073741823) (ha1 : 0 ≤ a1 ∧ a1 ≤ 1073741823) (ha2 : 0 ≤ a2 ∧ a2 ≤ 1073741823) (ha3 : 0 ≤ a3 ∧ a3 ≤ 1073741823) (ha4 : 0 ≤ a4 ∧ a4 ≤ 1073741823)
 (hc0 : 0 ≤ c0 ∧ c0 ≤ 1073741823) (hc1 : 0 ≤ c1 ∧ c1 ≤ 1073741823) (hc2 : 0 ≤ c2 ∧ c2 ≤ 7) (hC : 1 ≤ (c0 + 1073741824 * c1 + 1152921504606846976 * c2)) (v : Int) (hv : 0 ≤ v ∧ v ≤ 1152921504606846977)
 (hlo : v * (c0 + 1073741824 * c1 + 1152921504606846976 * c2) ≤ a0 + 1073741824 * a1 + 1152921504606846976 * a2 + 1237940039285380274899124224 * a3 + 1329227995784915872903807060280344576 * a4) (hhi : v = 1152921504606846977 ∨ a0 + 1073741824 * a1 + 1152921504606846976 * a2 + 1237940039285380274899124224 * a3 + 1329227995784915872903807060280344576 * a4 < (v + 1) * (c0 + 1073741824 * c1 + 1152921504606846976 * c2)) (w : World) :
 Calls Tryz.prog 504 #[.agg #[.int .i64 a0, .int .i64 a1, .int .i64 a2, .int .i64 a3, .int .i64 a4, .int .i64 0], .agg #[.int .i64 c0, .int .i64 c1, .int .i64 c2, .int .i64 0, .int .i64 0, .int .i64 0], .int .i64 1152921504606846977] w
  fun e w' => e = .returned (.int .i64 v) ∧ Below w.heap.size w w' := by
 obtain ⟨Av, hAv⟩ : ∃ z, z = a0 + 1073741824 * a1 + 1152921504606846976 * a2 + 1237940039285380274899124224 * a3 + 1329227995784915872903807060280344576 * a4 := ⟨_, rfl⟩
 obtain ⟨Cv, hCv⟩ : ∃ z, z = (c0 + 1073741824 * c1 + 1152921504606846976 * c2) := ⟨_, rfl⟩
 rw [← hAv, ← hCv] at hlo hhi
 rw [← hCv] at hC
 have hle : ∀ m : Int, m ≤ v → m * Cv ≤ Av := fun m hm => Int.le_trans (Int.mul_le_mul_of_nonneg_right hm (by omega)) hlo
 have hgt : ∀ m : Int, m ≤ 1152921504606846977 → v < m → Av < m * Cv := fun m hm hvm => by
  rcases hhi with h | h
  · omega
  · exact Int.lt_of_lt_of_le h (Int.mul_le_mul_of_nonneg_right (by omega) (by omega))
 obtain ⟨G, hG⟩ : ∃ G, G = mkGh [] [a0, a1, a2, a3, a4, c0, c1, c2, v] rfl := ⟨_, rfl⟩
 have g0 : G.σ 0 = a0 := by rw [hG]; rfl
 have g1 : G.σ 1 = a1 := by rw [hG]; rfl
 have g2 : G.σ 2 = a2 := by rw [hG]; rfl
 have g3 : G.σ 3 = a3 := by rw [hG]; rfl
 have g4 : G.σ 4 = a4 := by rw [hG]; rfl
 have g5 : G.σ 5 = c0 := by rw [hG]; rfl
 have g6 : G.σ 6 = c1 := by rw [hG]; rfl
 have g7 : G.σ 7 = c2 := by rw [hG]; rfl
 have g8 : G.σ 8 = v := by rw [hG]; rfl
 have hm : G.mono = False := by rw [hG]; rfl
 have hsem : LSem Tryz.prog mostS G mostGood (fun σ => (σ 10 - σ 9).toNat) := by
  refine ⟨fun σ' hσ hi => ?_, fun σ' hσ hgood => ?_⟩
  · have e8 : σ' 8 = v := (hσ 8 (by decide)).trans g8
    have e9 : σ' 9 = 0 := hi 0 (0, []) rfl
    have e10 : σ' 10 = 1152921504606846977 := hi 1 (1152921504606846977, []) rfl
    unfold mostGood
    omega
  · obtain ⟨k1, k2, k3, k4⟩ := hgood
    have e0 : σ' 0 = a0 := (hσ 0 (by decide)).trans g0
    have e1 : σ' 1 = a1 := (hσ 1 (by decide)).trans g1
    have e2 : σ' 2 = a2 := (hσ 2 (by decide)).trans g2
    have e3 : σ' 3 = a3 := (hσ 3 (by decide)).trans g3
    have e4 : σ' 4 = a4 := (hσ 4 (by decide)).trans g4
    have e5 : σ' 5 = c0 := (hσ 5 (by decide)).trans g5
    have e6 : σ' 6 = c1 := (hσ 6 (by decide)).trans g6
    have e7 : σ' 7 = c2 := (hσ 7 (by decide)).trans g7
    have e8 : σ' 8 = v := (hσ 8 (by decide)).trans g8
    obtain ⟨lo, hlo9⟩ : ∃ z, z = σ' 9 := ⟨_, rfl⟩
    obtain ⟨hi, hhi10⟩ : ∃ z, z = σ' 10 := ⟨_, rfl⟩
    rw [← hlo9] at k1 k2
    rw [← hhi10] at k3 k4
    rw [e8] at k2 k3
    obtain ⟨q, hq⟩ : ∃ z : Int, z = (hi - lo) / 2 := ⟨_, rfl⟩
    obtain ⟨r, hr⟩ : ∃ z : Int, z = (hi - lo) % 2 := ⟨_, rfl⟩
    obtain ⟨d0, d1, d2, rd0, rd1, rd2, hd, cof⟩ := of3 (lo + q + r) (by omega) (by omega)
    obtain ⟨p0, p1, p2, p3, p4, p5, rp0, rp1, rp2, rp3, rp4, rp5, hp, cmul⟩ := mul3 d0 d1 d2 c0 c1 c2 rd0 rd1 rd2 hc0 hc1 hc2
    subst rp5
    obtain ⟨s, rs, hs, ccmp⟩ := cmp5 p0 p1 p2 p3 p4 a0 a1 a2 a3 a4 rp0 rp1 rp2 rp3 rp4 (by omega) (by omega) (by omega) (by omega) (by omega)
    have hprod : (lo + q + r) * Cv = d0 * c0 + 1073741824 * (d0 * c1 + d1 * c0) + 1152921504606846976 * (d0 * c2 + d1 * c1 + d2 * c0) + 1237940039285380274899124224 * (d1 * c2 + d2 * c1) + 1329227995784915872903807060280344576 * (d2 * c2) := by
     rw [hd, hCv]
     simp only [Int.add_mul, Int.mul_add, Int.mul_assoc, Int.mul_left_comm d0 1073741824 c1, Int.mul_left_comm d0 1152921504606846976 c2, Int.mul_left_comm d1 1073741824 c1, Int.mul_left_comm d1 1152921504606846976 c2, Int.mul_left_comm d2 1073741824 c1, Int.mul_left_comm d2 1152921504606846976 c2]
     omega
    have hsle : s ≤ 0 ↔ (lo + q + r) * Cv ≤ Av := by rw [hprod, ← hp, hAv]; exact hs
    obtain ⟨σ2, hσ2⟩ : ∃ z, z = extσ σ' 11 [q, r, d0, d1, d2, p0, p1, p2, p3, p4, s] := ⟨_, rfl⟩
    have hbd : bdOk σ2 mostBd 0 := by
     rw [hσ2]
     simp only [mostBd, bdOk, Nat.reduceAdd]
     simp only [extσ, Nat.reduceLT, if_true, if_false, Nat.reduceSub, List.getD_cons_succ, List.getD_cons_zero, e0, e1, e2, e3, e4, e5, e6, e7, e8, ← hlo9, ← hhi10]
     and_intros <;> first | trivial | omega
    have hfacts : ∀ i, geOk σ2 (mostGe i) → ∀ G2 : Gh, G2.σ = σ2 → (∀ i, i < 1000 → G2.ε i = G.ε i) → G2.mono = G.mono → EnvOk (mostE i) Tryz.prog G2 ∧ FnOk (mostE i) Tryz.prog G2 := by
     intro i hge G2 hσ2' _ hmono
     have hm2 : ¬ G2.mono := by rw [hmono, hm]; exact id
     have s0 : G2.σ 0 = a0 := by rw [hσ2', hσ2]; exact e0
     have s1 : G2.σ 1 = a1 := by rw [hσ2', hσ2]; exact e1
     have s2 : G2.σ 2 = a2 := by rw [hσ2', hσ2]; exact e2
     have s3 : G2.σ 3 = a3 := by rw [hσ2', hσ2]; exact e3
     have s4 : G2.σ 4 = a4 := by rw [hσ2', hσ2]; exact e4
     have s5 : G2.σ 5 = c0 := by rw [hσ2', hσ2]; exact e5
     have s6 : G2.σ 6 = c1 := by rw [hσ2', hσ2]; exact e6
     have s7 : G2.σ 7 = c2 := by rw [hσ2', hσ2]; exact e7
     have s9 : G2.σ 9 = lo := by rw [hσ2', hσ2]; exact hlo9.symm
     have s10 : G2.σ 10 = hi := by rw [hσ2', hσ2]; exact hhi10.symm
     have s11 : G2.σ 11 = q := by rw [hσ2', hσ2]; rfl
     have s12 : G2.σ 12 = r := by rw [hσ2', hσ2]; rfl
     have s13 : G2.σ 13 = d0 := by rw [hσ2', hσ2]; rfl
     have s14 : G2.σ 14 = d1 := by rw [hσ2', hσ2]; rfl
     have s15 : G2.σ 15 = d2 := by rw [hσ2', hσ2]; rfl
     have s16 : G2.σ 16 = p0 := by rw [hσ2', hσ2]; rfl
     have s17 : G2.σ 17 = p1 := by rw [hσ2', hσ2]; rfl
     have s18 : G2.σ 18 = p2 := by rw [hσ2', hσ2]; rfl
     have s19 : G2.σ 19 = p3 := by rw [hσ2', hσ2]; rfl
     have s20 : G2.σ 20 = p4 := by rw [hσ2', hσ2]; rfl
     have s21 : G2.σ 21 = s := by rw [hσ2', hσ2]; rfl
     have hnl : nlOk G2 mostNl := by
      refine ⟨.inr (.inl ⟨rfl, by show (2 + 0 : Int) ≠ 0; omega, ?_⟩), .inr (.inr (.inl ⟨rfl, by show (2 + 0 : Int) ≠ 0; omega, ?_⟩)), trivial⟩
      · show IntKind.i64.wrap (((0 + (1 * G2.σ 10 + (-1 * G2.σ 9 + 0)))).tdiv (2 + 0)) = G2.σ 11
        rw [s9, s10, s11, Int.tdiv_eq_ediv_of_nonneg (by omega), IntKind.wrap_i64]
        omega
      · show ((0 + (1 * G2.σ 10 + (-1 * G2.σ 9 + 0)))).tmod (2 + 0) = G2.σ 12
        rw [s9, s10, s12, Int.tmod_eq_emod_of_nonneg (by omega)]
        omega
     have F : Facts G2 mostBd (mostGe i) mostNl := ⟨by rw [hσ2']; exact hbd, by rw [hσ2']; exact hge, hnl⟩
     have cM : ∀ φ, conc G2 φ (.agg agM) = some (.agg #[.int .i64 d0, .int .i64 d1, .int .i64 d2, .int .i64 0, .int .i64 0, .int .i64 0]) := fun φ => by simp [agM, concL, conc, den, s13, s14, s15]
     have cC : ∀ φ, conc G2 φ (.agg agC) = some (.agg #[.int .i64 c0, .int .i64 c1, .int .i64 c2, .int .i64 0, .int .i64 0, .int .i64 0]) := fun φ => by simp [agC, concL, conc, den, s5, s6, s7]
     have cP : ∀ φ, conc G2 φ (.agg agP) = some (.agg #[.int .i64 p0, .int .i64 p1, .int .i64 p2, .int .i64 p3, .int .i64 p4, .int .i64 0]) := fun φ => by simp [agP, concL, conc, den, s16, s17, s18, s19, s20]
     have cA : ∀ φ, conc G2 φ (.agg agA) = some (.agg #[.int .i64 a0, .int .i64 a1, .int .i64 a2, .int .i64 a3, .int .i64 a4, .int .i64 0]) := fun φ => by simp [agA, concL, conc, den, s0, s1, s2, s3, s4]
     have cm : ∀ φ, conc G2 φ (.sint .i64 0 [(12,1),(11,1),(9,1)]) = some (.int .i64 (lo + q + r)) := fun φ => by
      rw [conc]
      show some (Value.int .i64 (0 + (1 * G2.σ 12 + (1 * G2.σ 11 + (1 * G2.σ 9 + 0))))) = _
      rw [s9, s11, s12, show (0 : Int) + (1 * r + (1 * q + (1 * lo + 0))) = lo + q + r from by omega]
     have cs : ∀ φ, conc G2 φ (.sint .i64 0 [(21,1)]) = some (.int .i64 s) := fun φ => by simp [conc, den, s21]
     have two : ∀ {x y : V} {u v : Value}, (∀ φ, conc G2 φ x = some u) → (∀ φ, conc G2 φ y = some v) → ∀ φ, concL G2 φ [x, y] = some [u, v] := fun hx hy φ => concL_cons.2 ⟨_, _, hx φ, concL_cons.2 ⟨_, _, hy φ, concL_nil, rfl⟩, rfl⟩
     have one : ∀ {x : V} {u : Value}, (∀ φ, conc G2 φ x = some u) → ∀ φ, concL G2 φ [x] = some [u] := fun hx φ => concL_cons.2 ⟨_, _, hx φ, concL_nil, rfl⟩
     refine ⟨evE_ok progOkB F.ends (geOk_at F.ge) (nlOk_at F.nl), evE_fn progOkB (hkT_ok progOkB mostT (fun t ht => ?_) hm2)⟩
     simp only [mostT, List.mem_cons, List.not_mem_nil, or_false] at ht
     rcases ht with rfl | rfl | rfl
     · exact HTOk.of Tryz.func475 rfl (one cm) cM cof
     · exact HTOk.of Tryz.func505 rfl (two cM cC) cP cmul
     · exact HTOk.of Tryz.func474 rfl (two cP cA) cs ccmp
    have t8 : σ2 8 = v := by rw [hσ2]; exact e8
    have t9 : σ2 9 = lo := by rw [hσ2]; exact hlo9.symm
    have t10 : σ2 10 = hi := by rw [hσ2]; exact hhi10.symm
    have t11 : σ2 11 = q := by rw [hσ2]; rfl
    have t12 : σ2 12 = r := by rw [hσ2]; rfl
    have t21 : σ2 21 = s := by rw [hσ2]; rfl
    have hlow : ∀ i, i < mostS.K + mostS.init.length → σ2 i = σ' i := fun i hi => by rw [hσ2]; exact extσ_lo hi
    by_cases hlh : lo < hi
    · by_cases hcm : s ≤ 0
      · have hmid : (lo + q + r) * Cv ≤ Av := hsle.1 hcm
        have hmv : lo + q + r ≤ v := by
         by_cases hx : lo + q + r ≤ v
         · exact hx
         · have := hgt (lo + q + r) (by omega) (by omega)
           omega
        refine ⟨⟨mostE 1, 10, true, [(0, [(12,1),(11,1),(9,1)]), (0, [(10,1)])]⟩, by simp [mostS], σ2, hlow, hfacts 1 (by simp [mostGe, geOk, den, t9, t10, t21]; omega), fun _ σ3 h3 hsub => ?_⟩
        have u8 : σ3 8 = v := (h3 8 (by decide)).trans g8
        have u9 : σ3 9 = 0 + (1 * σ2 12 + (1 * σ2 11 + (1 * σ2 9 + 0))) := hsub 0 _ rfl
        have u10 : σ3 10 = 0 + (1 * σ2 10 + 0) := hsub 1 _ rfl
        rw [t9, t11, t12] at u9
        rw [t10] at u10
        unfold mostGood
        rw [u8, u9, u10, ← hlo9, ← hhi10]
        omega
      · have hmid : ¬ (lo + q + r) * Cv ≤ Av := fun h => hcm (hsle.2 h)
        have hmv : v < lo + q + r := by
         by_cases hx : v < lo + q + r
         · exact hx
         · exact absurd (hle (lo + q + r) (by omega)) hmid
        refine ⟨⟨mostE 2, 10, true, [(0, [(9,1)]), (-1, [(12,1),(11,1),(9,1)])]⟩, by simp [mostS], σ2, hlow, hfacts 2 (by simp [mostGe, geOk, den, t9, t10, t21]; omega), fun _ σ3 h3 hsub => ?_⟩
        have u8 : σ3 8 = v := (h3 8 (by decide)).trans g8
        have u9 : σ3 9 = 0 + (1 * σ2 9 + 0) := hsub 0 _ rfl
        have u10 : σ3 10 = -1 + (1 * σ2 12 + (1 * σ2 11 + (1 * σ2 9 + 0))) := hsub 1 _ rfl
        rw [t9] at u9
        rw [t9, t11, t12] at u10
        unfold mostGood
        rw [u8, u9, u10, ← hlo9, ← hhi10]
        omega
    · exact ⟨⟨mostE 0, 10, false, []⟩, by simp [mostS], σ2, hlow, hfacts 0 (by simp [mostGe, geOk, den, t8, t9, t10]; omega), fun h => by cases h⟩
 have hE : ∀ G1, GLe 9 G G1 → EnvOk mostE0 Tryz.prog G1 := fun G1 gg => by
  have b : bdOk G1.σ mostBd0 0 := by
   simp only [mostBd0, mostBd, List.take, bdOk, Nat.reduceAdd]
   rw [gg.σ 0 (by decide), gg.σ 1 (by decide), gg.σ 2 (by decide), gg.σ 3 (by decide), gg.σ 4 (by decide), gg.σ 5 (by decide), gg.σ 6 (by decide), gg.σ 7 (by decide), gg.σ 8 (by decide), g0, g1, g2, g3, g4, g5, g6, g7, g8]
   and_intros <;> first | trivial | omega
  exact evE_ok progOkB (Facts.ends (ge := []) (nl := []) ⟨b, trivial, trivial⟩) (fun f hf => by cases hf) (fun n hn => by cases hn)
 have hF : ∀ G1, GLe 9 G G1 → FnOk mostE0 Tryz.prog G1 := fun G1 gg => evE_fn progOkB (fun _ _ h => (nomatch h))
 have hrun := mostRun
 unfold RV.isV at hrun
 cases hr : runL mostE0 mostLk 10 Tryz.f504 [.agg agA, .agg agC, .int .i64 1152921504606846977] H0 with
 | bad m i => rw [hr] at hrun; cases hrun
 | ok x h' =>
   rw [hr] at hrun
   have hx := sameV_eq hrun
   subst hx
   have r0 : HRel G (fun _ => none) H0 w := ⟨fun b x l hb => (nomatch hb), fun b b' x x' l l' hb => (nomatch hb), fun b _ => rfl⟩
   have hul : concL G (fun _ => none) [.agg agA, .agg agC, .int .i64 1152921504606846977] = some [.agg #[.int .i64 a0, .int .i64 a1, .int .i64 a2, .int .i64 a3, .int .i64 a4, .int .i64 0], .agg #[.int .i64 c0, .int .i64 c1, .int .i64 c2, .int .i64 0, .int .i64 0, .int .i64 0], .int .i64 1152921504606846977] := by
    simp [agA, agC, concL, conc, den, g0, g1, g2, g3, g4, g5, g6, g7]
   refine (runL_ok (K := 9) (G := G) hE hF Tryz.func504 rfl (lk_one (by kernel_rfl) (loop_piece hsem)) hr hul r0 (fun _ _ _ => rfl)).mono ?_
   rintro e w' ⟨u, rfl, G2, gg, φ', hu, r', f', x⟩
   have hv2 : conc G2 φ' (.sint .i64 0 [(8,1)]) = some (.int .i64 v) := by
    rw [conc]
    show some (Value.int .i64 (0 + (1 * G2.σ 8 + 0))) = _
    rw [gg.σ 8 (by decide), g8, show (0 : Int) + (1 * v + 0) = v from by omega]
   rw [hv2] at hu
   cases hu
   refine ⟨rfl, f'.os, f'.tape, f'.output, f'.size, fun k hk => f'.block k hk ?_⟩
   rintro ⟨b, y, l, hb, _⟩
   exact (nomatch hb)
end Go.Proofs.YtdfgedemolielaaGreat
/- The document's MulDiv: a contract, and a hook at numbers. -/
namespace Go.Proofs.YtdfgedemolielaaGreat
open Go Go.RowKit Gv
def mdX : List V := [.sint .i64 0 [(3,1)], .sint .i64 0 [(4,1)], .sint .i64 0 [(5,1)], .int .i64 0, .int .i64 0, .int .i64 0]
def mdY : List V := [.sint .i64 0 [(6,1)], .sint .i64 0 [(7,1)], .sint .i64 0 [(8,1)], .int .i64 0, .int .i64 0, .int .i64 0]
def mdP : List V := [.sint .i64 0 [(9,1)], .sint .i64 0 [(10,1)], .sint .i64 0 [(11,1)], .sint .i64 0 [(12,1)], .sint .i64 0 [(13,1)], .int .i64 0]
def mdZ : List V := [.sint .i64 0 [(14,1)], .sint .i64 0 [(15,1)], .sint .i64 0 [(16,1)], .int .i64 0, .int .i64 0, .int .i64 0]
def mdT : List HT := [⟨475, [.sint .i64 0 [(0,1)]], .agg mdX⟩, ⟨475, [.sint .i64 0 [(1,1)]], .agg mdY⟩, ⟨505, [.agg mdX, .agg mdY], .agg mdP⟩, ⟨475, [.sint .i64 0 [(2,1)]], .agg mdZ⟩, ⟨504, [.agg mdP, .agg mdZ, .int .i64 1152921504606846977], .sint .i64 0 [(17,1)]⟩]
def mdBd : List (Int × Int) := [(0, 9223372036854775807), (0, 9223372036854775807), (1, 9223372036854775807), (0, 1073741823), (0, 1073741823), (0, 7), (0, 1073741823), (0, 1073741823), (0, 7), (0, 1073741823), (0, 1073741823), (0, 1073741823), (0, 1073741823), (0, 1073741823), (0, 1073741823), (0, 1073741823), (0, 7), (0, 1152921504606846977)]
def mdGe (o : Bool) : List (Int × List (Nat × Int)) := if o then [(-1152921504606846977,[(17,1)])] else [(1152921504606846976,[(17,-1)])]
theorem mdRun0 : ((callN (evE Tryz.prog (hkT mdT) mdBd (mdGe false) []) 10 477 [.sint .i64 0 [(0,1)], .sint .i64 0 [(1,1)], .sint .i64 0 [(2,1)]] H0).isV (.tuple [.sint .i64 0 [(17,1)], .int .i64 0])) = true := by kernel_rfl
theorem mdRun1 : ((callN (evE Tryz.prog (hkT mdT) mdBd (mdGe true) []) 10 477 [.sint .i64 0 [(0,1)], .sint .i64 0 [(1,1)], .sint .i64 0 [(2,1)]] H0).isV (.tuple [.int .i64 0, .int .i64 12])) = true := by kernel_rfl
set_option maxRecDepth 100000 in
set_option maxHeartbeats 2000000 in
theorem muldiv_ok (a b c : Int) (ha : 0 ≤ a ∧ a ≤ 9223372036854775807) (hb : 0 ≤ b ∧ b ≤ 9223372036854775807) (hc : 1 ≤ c ∧ c ≤ 9223372036854775807) (w : World) :
 Calls Tryz.prog 477 #[.int .i64 a, .int .i64 b, .int .i64 c] w fun e w' => e = .returned (mdV a b c) ∧ Below w.heap.size w w' := by
 obtain ⟨x0, x1, x2, rx0, rx1, rx2, hx, cx⟩ := of3 a ha.1 (by omega)
 obtain ⟨y0, y1, y2, ry0, ry1, ry2, hy, cy⟩ := of3 b hb.1 (by omega)
 obtain ⟨z0, z1, z2, rz0, rz1, rz2, hz, cz⟩ := of3 c (by omega) (by omega)
 obtain ⟨p0, p1, p2, p3, p4, p5, rp0, rp1, rp2, rp3, rp4, rp5, hp, cmul⟩ := mul3 x0 x1 x2 y0 y1 y2 rx0 rx1 rx2 ry0 ry1 ry2
 subst rp5
 have hprod : a * b = p0 + 1073741824 * p1 + 1152921504606846976 * p2 + 1237940039285380274899124224 * p3 + 1329227995784915872903807060280344576 * p4 := by
  rw [hp, hx, hy]
  simp only [Int.add_mul, Int.mul_add, Int.mul_assoc, Int.mul_left_comm x0 1073741824 y1, Int.mul_left_comm x0 1152921504606846976 y2, Int.mul_left_comm x1 1073741824 y1, Int.mul_left_comm x1 1152921504606846976 y2, Int.mul_left_comm x2 1073741824 y1, Int.mul_left_comm x2 1152921504606846976 y2]
  omega
 obtain ⟨q, hq⟩ : ∃ z, z = a * b / c := ⟨_, rfl⟩
 have hab : 0 ≤ a * b := Int.mul_nonneg ha.1 hb.1
 have hq0 : 0 ≤ q := by rw [hq]; exact Int.ediv_nonneg hab (by omega)
 have hq1 : q * c ≤ a * b := by rw [hq]; exact Int.ediv_mul_le _ (by omega)
 have hq2 : a * b < (q + 1) * c := by rw [hq]; exact Int.lt_ediv_add_one_mul_self _ (by omega)
 obtain ⟨v, hv⟩ : ∃ z : Int, z = if q ≤ 1152921504606846977 then q else 1152921504606846977 := ⟨_, rfl⟩
 have hv0 : 0 ≤ v ∧ v ≤ 1152921504606846977 := by rw [hv]; split <;> omega
 have hvq : v ≤ q := by rw [hv]; split <;> omega
 have hv1 : v * c ≤ a * b := Int.le_trans (Int.mul_le_mul_of_nonneg_right hvq (by omega)) hq1
 have hv2 : v = 1152921504606846977 ∨ a * b < (v + 1) * c := by
  by_cases hqb : q ≤ 1152921504606846977
  · rw [if_pos hqb] at hv; subst hv; exact .inr hq2
  · rw [if_neg hqb] at hv; exact .inl hv
 have cmost := most_ok p0 p1 p2 p3 p4 z0 z1 z2 (by omega) (by omega) (by omega) (by omega) (by omega) rz0 rz1 rz2 (by omega) v hv0 (by rw [← hprod, ← hz]; exact hv1) (by rw [← hprod, ← hz]; exact hv2)
 obtain ⟨G, hG⟩ : ∃ G, G = mkGh [] [a, b, c, x0, x1, x2, y0, y1, y2, p0, p1, p2, p3, p4, z0, z1, z2, v] rfl := ⟨_, rfl⟩
 have s0 : G.σ 0 = a := by rw [hG]; rfl
 have s1 : G.σ 1 = b := by rw [hG]; rfl
 have s2 : G.σ 2 = c := by rw [hG]; rfl
 have s3 : G.σ 3 = x0 := by rw [hG]; rfl
 have s4 : G.σ 4 = x1 := by rw [hG]; rfl
 have s5 : G.σ 5 = x2 := by rw [hG]; rfl
 have s6 : G.σ 6 = y0 := by rw [hG]; rfl
 have s7 : G.σ 7 = y1 := by rw [hG]; rfl
 have s8 : G.σ 8 = y2 := by rw [hG]; rfl
 have s9 : G.σ 9 = p0 := by rw [hG]; rfl
 have s10 : G.σ 10 = p1 := by rw [hG]; rfl
 have s11 : G.σ 11 = p2 := by rw [hG]; rfl
 have s12 : G.σ 12 = p3 := by rw [hG]; rfl
 have s13 : G.σ 13 = p4 := by rw [hG]; rfl
 have s14 : G.σ 14 = z0 := by rw [hG]; rfl
 have s15 : G.σ 15 = z1 := by rw [hG]; rfl
 have s16 : G.σ 16 = z2 := by rw [hG]; rfl
 have s17 : G.σ 17 = v := by rw [hG]; rfl
 have hm : ¬ G.mono := by rw [hG]; exact fun h => h
 have hbd : bdOk G.σ mdBd 0 := by
  simp only [mdBd, bdOk, Nat.reduceAdd, s0, s1, s2, s3, s4, s5, s6, s7, s8, s9, s10, s11, s12, s13, s14, s15, s16, s17]
  and_intros <;> first | trivial | omega
 have agX : ∀ φ, conc G φ (.agg mdX) = some (.agg #[.int .i64 x0, .int .i64 x1, .int .i64 x2, .int .i64 0, .int .i64 0, .int .i64 0]) := fun φ => by simp [mdX, concL, conc, den, s3, s4, s5]
 have agY : ∀ φ, conc G φ (.agg mdY) = some (.agg #[.int .i64 y0, .int .i64 y1, .int .i64 y2, .int .i64 0, .int .i64 0, .int .i64 0]) := fun φ => by simp [mdY, concL, conc, den, s6, s7, s8]
 have agZ : ∀ φ, conc G φ (.agg mdZ) = some (.agg #[.int .i64 z0, .int .i64 z1, .int .i64 z2, .int .i64 0, .int .i64 0, .int .i64 0]) := fun φ => by simp [mdZ, concL, conc, den, s14, s15, s16]
 have agP : ∀ φ, conc G φ (.agg mdP) = some (.agg #[.int .i64 p0, .int .i64 p1, .int .i64 p2, .int .i64 p3, .int .i64 p4, .int .i64 0]) := fun φ => by simp [mdP, concL, conc, den, s9, s10, s11, s12, s13]
 have ia : ∀ φ, conc G φ (.sint .i64 0 [(0,1)]) = some (.int .i64 a) := fun φ => by simp [conc, den, s0]
 have ib : ∀ φ, conc G φ (.sint .i64 0 [(1,1)]) = some (.int .i64 b) := fun φ => by simp [conc, den, s1]
 have ic : ∀ φ, conc G φ (.sint .i64 0 [(2,1)]) = some (.int .i64 c) := fun φ => by simp [conc, den, s2]
 have iv : ∀ φ, conc G φ (.sint .i64 0 [(17,1)]) = some (.int .i64 v) := fun φ => by simp [conc, den, s17]
 have iB : ∀ φ, conc G φ (.int .i64 1152921504606846977) = some (.int .i64 1152921504606846977) := fun φ => by simp [conc]
 have one : ∀ {x : V} {u : Value}, (∀ φ, conc G φ x = some u) → ∀ φ, concL G φ [x] = some [u] := fun hx φ => concL_cons.2 ⟨_, _, hx φ, concL_nil, rfl⟩
 have two : ∀ {x y : V} {u v : Value}, (∀ φ, conc G φ x = some u) → (∀ φ, conc G φ y = some v) → ∀ φ, concL G φ [x, y] = some [u, v] := fun hx hy φ => concL_cons.2 ⟨_, _, hx φ, one hy φ, rfl⟩
 have three : ∀ {x y z : V} {u v t : Value}, (∀ φ, conc G φ x = some u) → (∀ φ, conc G φ y = some v) → (∀ φ, conc G φ z = some t) → ∀ φ, concL G φ [x, y, z] = some [u, v, t] := fun hx hy hz φ => concL_cons.2 ⟨_, _, hx φ, two hy hz φ, rfl⟩
 have hh : HooksOk Tryz.prog G (hkT mdT) := hkT_ok progOkB mdT (fun t ht => by
  simp only [mdT, List.mem_cons, List.not_mem_nil, or_false] at ht
  rcases ht with rfl | rfl | rfl | rfl | rfl
  · exact HTOk.of Tryz.func475 rfl (one ia) agX cx
  · exact HTOk.of Tryz.func475 rfl (one ib) agY cy
  · exact HTOk.of Tryz.func505 rfl (two agX agY) agP cmul
  · exact HTOk.of Tryz.func475 rfl (one ic) agZ cz
  · exact HTOk.of Tryz.func504 rfl (three agP agZ iB) iv cmost) hm
 unfold mdV
 rw [← hq]
 by_cases hqm : q ≤ 1152921504606846976
 · rw [if_pos (show q ≤ 1152921504606846977 by omega)] at hv
   subst hv
   rw [if_pos hqm]
   exact run_val (G := G) (ge := mdGe false) (nl := []) progOkB ⟨hbd, by simp [mdGe, geOk, den, s17]; omega, trivial⟩ hh Tryz.func477 rfl (three ia ib ic _) mdRun0 (fun φ => by simp [concL, conc, den, s17]) w
 · have hvB : v = 1152921504606846977 := by rw [hv]; split <;> omega
   rw [if_neg hqm]
   exact run_val (G := G) (ge := mdGe true) (nl := []) progOkB ⟨hbd, by simp [mdGe, geOk, den, s17]; omega, trivial⟩ hh Tryz.func477 rfl (three ia ib ic _) mdRun1 (fun φ => by simp [concL, conc]) w
set_option maxRecDepth 100000 in
theorem mdH_ok {G : Gh} (hm : ¬ G.mono) : HookOk Tryz.prog G 477 mdH := by
 intro call _ l h v h' e φ w ul hl r _
 unfold mdH at e
 split at e
 · rename_i a b c
   obtain ⟨hc, e⟩ := bif_ok e
   simp only [Bool.and_eq_true, nble, decide_eq_true_eq] at hc
   obtain ⟨h1, h2, h3, h4⟩ := hc
   have hul : ul = [.int .i64 (a : Int), .int .i64 (b : Int), .int .i64 (c : Int)] := by
    simp [concL, conc] at hl
    exact hl.symm
   subst hul
   rw [run_enter Tryz.func477 (prog_name progOkB Tryz.func477) rfl]
   refine (muldiv_ok a b c (by omega) (by omega) (by omega) w).mono ?_
   rintro e2 w2 ⟨rfl, hb⟩
   have hcast : ((a : Int) * b / c) = ((a * b / c : Nat) : Int) := by push_cast; rfl
   have hV : mdV a b c = if a * b / c ≤ 1152921504606846976 then .tuple #[.int .i64 ((a * b / c : Nat) : Int), .int .i64 0] else .tuple #[.int .i64 0, .int .i64 12] := by
    unfold mdV
    rw [hcast]
    by_cases hq : a * b / c ≤ 1152921504606846976
    · rw [if_pos hq, if_pos (by omega)]
    · rw [if_neg hq, if_neg (by omega)]
   cases hq : Nat.ble (a * b / c) 1152921504606846976 with
   | true =>
     rw [hq, cond_true] at e
     rw [nble, decide_eq_true_eq] at hq
     cases e
     refine ⟨_, rfl, below_post hm r hb ?_⟩
     rw [hV, if_pos hq]
     simp [conc, concL]
   | false =>
     rw [hq, cond_false] at e
     rw [nble, decide_eq_false_iff_not] at hq
     cases e
     refine ⟨_, rfl, below_post hm r hb ?_⟩
     rw [hV, if_neg hq]
     simp [conc, concL]
 · cases e
end Go.Proofs.YtdfgedemolielaaGreat
/- Worth, the document's. -/
namespace Go.Proofs.YtdfgedemolielaaGreat
open Go Go.RowKit Gv
def woR : List HT := [⟨477, [.sint .i64 0 [(0,1)], .sint .i64 0 [(1,1)], .int .i64 1], .tuple [.sint .i64 0 [(3,1)], .int .i64 0]⟩, ⟨477, [.sint .i64 0 [(3,1)], .sint .i64 10000 [(2,-1)], .int .i64 10000], .tuple [.sint .i64 0 [(4,1)], .int .i64 0]⟩]
theorem woRunR : ((callN (evE Tryz.prog (hkT woR) woBd [] []) 10 503 woA H0).isV (.tuple [.sint .i64 0 [(4,1)], .int .i64 0])) = true := by kernel_rfl
set_option maxRecDepth 100000 in
set_option maxHeartbeats 1000000 in
theorem worthR (q p c : Int) (hq : 0 ≤ q ∧ q ≤ 9223372036854775807) (hp : 0 ≤ p ∧ p ≤ 9223372036854775807) (hc : 0 ≤ c ∧ c ≤ 10000) (h : q * p ≤ 1152921504606846976) (w : World) :
 Calls Tryz.prog 503 #[.int .i64 q, .int .i64 p, .int .i64 c] w fun e w' => e = .returned (.tuple #[.int .i64 (ndW p c q), .int .i64 0]) ∧ Below w.heap.size w w' := by
 obtain ⟨x, hx⟩ : ∃ z : Int, z = q * p := ⟨_, rfl⟩
 have hx0 : 0 ≤ x := by rw [hx]; exact Int.mul_nonneg hq.1 hp.1
 rw [← hx] at h
 obtain ⟨y, hy⟩ : ∃ z : Int, z = ndW p c q := ⟨_, rfl⟩
 have ry : 0 ≤ y ∧ y ≤ 1152921504606846976 := by rw [hy]; exact ndW_rng hq.1 hp.1 hc (by rw [← hx]; exact h)
 have hy2 : x * (10000 - c) / 10000 = y := by rw [hy, hx]; rfl
 rw [← hy]
 obtain ⟨G, hG⟩ : ∃ G, G = mkGh [] [q, p, c, x, y] rfl := ⟨_, rfl⟩
 have s0 : G.σ 0 = q := by rw [hG]; rfl
 have s1 : G.σ 1 = p := by rw [hG]; rfl
 have s2 : G.σ 2 = c := by rw [hG]; rfl
 have s3 : G.σ 3 = x := by rw [hG]; rfl
 have s4 : G.σ 4 = y := by rw [hG]; rfl
 have hm : ¬ G.mono := by rw [hG]; exact fun h => h
 have F : Facts G woBd [] [] := ⟨by rw [hG]; exact ⟨hq, hp, hc, ⟨hx0, h⟩, ry, trivial⟩, trivial, trivial⟩
 have harg : concL G (fun _ => none) woA = some [.int .i64 q, .int .i64 p, .int .i64 c] := by simp [woA, concL, conc, den, s0, s1, s2]
 have hcut : ∀ φ, conc G φ (.sint .i64 10000 [(2,-1)]) = some (.int .i64 (10000 - c)) := fun φ => by
  rw [conc]
  show some (Value.int .i64 (10000 + (-1 * G.σ 2 + 0))) = _
  rw [s2, show (10000 : Int) + (-1 * c + 0) = 10000 - c from by omega]
 have i3 : ∀ φ, conc G φ (.sint .i64 0 [(3,1)]) = some (.int .i64 x) := fun φ => by simp [conc, den, s3]
 have i4 : ∀ φ, conc G φ (.tuple [.sint .i64 0 [(4,1)], .int .i64 0]) = some (.tuple #[.int .i64 y, .int .i64 0]) := fun φ => by simp [concL, conc, den, s4]
 have l2 : ∀ φ, concL G φ [.sint .i64 0 [(3,1)], .sint .i64 10000 [(2,-1)], .int .i64 10000] = some [.int .i64 x, .int .i64 (10000 - c), .int .i64 10000] := fun φ =>
  concL_cons.2 ⟨_, _, i3 φ, concL_cons.2 ⟨_, _, hcut φ, concL_cons.2 ⟨_, _, by rw [conc], concL_nil, rfl⟩, rfl⟩, rfl⟩
 have hh : HooksOk Tryz.prog G (hkT woR) := hkT_ok progOkB woR (fun t ht => by
  simp only [woR, List.mem_cons, List.not_mem_nil, or_false] at ht
  rcases ht with rfl | rfl
  · refine HTOk.of Tryz.func477 rfl (ul := [.int .i64 q, .int .i64 p, .int .i64 1]) (u := .tuple #[.int .i64 x, .int .i64 0]) (fun φ => by simp [concL, conc, den, s0, s1]) (fun φ => by simp [concL, conc, den, s3]) (fun w => ?_)
    have := muldiv_ok q p 1 hq hp (by omega) w
    rwa [md_val (z := x) (by rw [← hx, Int.ediv_one]) h] at this
  · refine HTOk.of Tryz.func477 rfl l2 i4 (fun w => ?_)
    have := muldiv_ok x (10000 - c) 10000 (by omega) (by omega) (by omega) w
    rwa [md_val hy2 ry.2] at this) hm
 exact run_val (G := G) progOkB F hh Tryz.func503 rfl harg woRunR i4 w
end Go.Proofs.YtdfgedemolielaaGreat
/- Need, the document's: a contract, and a hook at numbers. -/
namespace Go.Proofs.YtdfgedemolielaaGreat
open Go Go.RowKit Gv
def neT : List HT := [⟨503, [.sint .i64 0 [(3,1)], .sint .i64 0 [(1,1)], .sint .i64 0 [(2,1)]], .tuple [.sint .i64 0 [(5,1)], .int .i64 0]⟩]
def neGe (o : Bool) : List (Int × List (Nat × Int)) := if o then [(0,[(5,1),(0,-1)])] else [(-1,[(0,1),(5,-1)])]
noncomputable def neSr : LSpec := ndS Tryz.f544 503 11 12 [11, 12, 13, 14, 15, 45, 46, 47, 48, 49, 50, 51, 52, 53, 54, 55, 56, 57, 58, 59, 60, 61, 62, 63, 64, 65, 66] (0,[(3,1)])
noncomputable def neEr (o : Bool) : Env := evE Tryz.prog (hkT neT) ndBd0 (neGe o) neNl
noncomputable def neLr (i : Nat) : Option (Fr → H → RX) := bif Nat.beq i 0 then some (loopG neSr Tryz.f544.ntmps) else none
theorem neRunR : ((runL (neEr true) neLr 10 Tryz.f544 neA H0).isV (.tuple [.sint .i64 0 [(4,1)], .int .i64 0])) = true := by kernel_rfl
theorem neRunR0 : ((callN (neEr false) 10 544 neA H0).isV (.tuple [.int .i64 0, .int .i64 32])) = true := by kernel_rfl
set_option maxRecDepth 100000 in
set_option maxHeartbeats 2000000 in
theorem needR (val p c : Int) (hval : 0 ≤ val ∧ val ≤ 9223372036854775807) (hp : 2 ≤ p ∧ p ≤ 9223372036854775807) (hc : 0 ≤ c ∧ c ≤ 9999) (w : World) :
 Calls Tryz.prog 544 #[.int .i64 val, .int .i64 p, .int .i64 c] w fun e w' => e = .returned (neV val p c) ∧ Below w.heap.size w w' := by
 obtain ⟨k, hk⟩ : ∃ z : Int, z = p * (10000 - c) := ⟨_, rfl⟩
 have hk0 : 0 < k := by rw [hk]; exact Int.mul_pos (by omega) (by omega)
 obtain ⟨V, hV⟩ : ∃ z : Int, z = (val * 10000 + k - 1) / k := ⟨_, rfl⟩
 have hV1 : V * k ≤ val * 10000 + k - 1 := by rw [hV]; exact div_lo hk0
 have hV2 : val * 10000 + k - 1 < (V + 1) * k := by rw [hV]; exact div_hi hk0
 have hV0 : 0 ≤ V := by rw [hV]; exact Int.ediv_nonneg (by omega) (by omega)
 rw [Int.add_mul, Int.one_mul] at hV2
 obtain ⟨top, htop⟩ : ∃ z : Int, z = 1152921504606846976 / p := ⟨_, rfl⟩
 have htp : top * p ≤ 1152921504606846976 := by rw [htop]; exact div_lo (by omega)
 have rtop : 0 ≤ top ∧ top ≤ 1152921504606846976 := by
  rw [htop]
  exact ⟨Int.ediv_nonneg (by omega) (by omega), Int.ediv_le_self _ (by omega)⟩
 have hWk : ∀ m : Int, ndW p c m = m * k / 10000 := fun m => by unfold ndW; rw [hk, Int.mul_assoc]
 have up : ∀ m : Int, V ≤ m → val ≤ ndW p c m := fun m hm => by
  rw [hWk]
  have := Int.mul_le_mul_of_nonneg_right hm (show 0 ≤ k by omega)
  exact (Int.le_ediv_iff_mul_le (by omega)).2 (by omega)
 have down : ∀ m : Int, m < V → ndW p c m < val := fun m hm => by
  rw [hWk]
  have := Int.mul_le_mul_of_nonneg_right (show m + 1 ≤ V by omega) (show 0 ≤ k by omega)
  rw [Int.add_mul, Int.one_mul] at this
  exact (Int.ediv_lt_iff_lt_mul (by omega)).2 (by omega)
 have inM : ∀ m : Int, 0 ≤ m → m ≤ top → m * p ≤ 1152921504606846976 := fun m h0 hm => Int.le_trans (Int.mul_le_mul_of_nonneg_right hm (by omega)) htp
 have rW : ∀ m : Int, 0 ≤ m → m ≤ top → 0 ≤ ndW p c m ∧ ndW p c m ≤ 1152921504606846976 := fun m h0 hm => ndW_rng h0 (by omega) (by omega) (inM m h0 hm)
 have cW := fun (m : Int) (h0 : 0 ≤ m) (hm : m ≤ top) (w : World) => worthR m p c ⟨h0, by omega⟩ (by omega) (by omega) (inM m h0 hm) w
 obtain ⟨wt, hwt⟩ : ∃ z : Int, z = ndW p c top := ⟨_, rfl⟩
 have rwt : 0 ≤ wt ∧ wt ≤ 1152921504606846976 := by rw [hwt]; exact rW top rtop.1 (Int.le_refl _)
 obtain ⟨v, hv⟩ : ∃ z : Int, z = if V ≤ top then V else top + 1 := ⟨_, rfl⟩
 have rv : 0 ≤ v ∧ v ≤ 1152921504606846977 := by rw [hv]; split <;> omega
 have hvt : v ≤ top + 1 := by rw [hv]; split <;> omega
 obtain ⟨G, hG⟩ : ∃ G, G = mkGh [] [val, p, c, top, v, wt] rfl := ⟨_, rfl⟩
 have s0 : G.σ 0 = val := by rw [hG]; rfl
 have s1 : G.σ 1 = p := by rw [hG]; rfl
 have s2 : G.σ 2 = c := by rw [hG]; rfl
 have s3 : G.σ 3 = top := by rw [hG]; rfl
 have s4 : G.σ 4 = v := by rw [hG]; rfl
 have s5 : G.σ 5 = wt := by rw [hG]; rfl
 have hm : G.mono = False := by rw [hG]; rfl
 have hc' : 0 ≤ c ∧ c ≤ 10000 := by omega
 have hbd : bdOk G.σ ndBd0 0 := by rw [hG]; exact ⟨hval, hp, hc', rtop, rv, rwt, trivial⟩
 have harg : concL G (fun _ => none) neA = some [.int .i64 val, .int .i64 p, .int .i64 c] := by simp [neA, concL, conc, den, s0, s1, s2]
 have fp : (0 + (1 * p + 0) : Int) ≠ 0 := by omega
 have hdivp : IntKind.i64.wrap ((1152921504606846976 + 0 : Int).tdiv (0 + (1 * p + 0))) = top := by
  simp only [Int.zero_add, Int.add_zero, Int.one_mul]
  rw [Int.tdiv_eq_ediv_of_nonneg (by omega), ← htop, IntKind.wrap_i64]
  omega
 have hnl : nlOk G neNl := by
  rw [hG]
  exact ⟨.inr (.inl ⟨rfl, fp, hdivp⟩), trivial⟩
 have agree : ∀ {G1 : Gh}, GLe 6 G G1 → bdOk G1.σ ndBd0 0 ∧ nlOk G1 neNl := by
  intro G1 g
  refine ⟨bd_congr (σ := G.σ) (fun i hi => g.σ i (by simpa [ndBd0] using hi)) hbd, ?_⟩
  simp only [neNl, nlOk, NLOk, nlMore, den] at hnl ⊢
  rw [g.σ 1 (by decide), g.σ 3 (by decide)]
  exact hnl
 have upG : ∀ m : Int, G.σ 4 ≤ m → m ≤ G.σ 3 → G.σ 0 ≤ ndW (G.σ 1) (G.σ 2) m := fun m h1 h2 => by
  rw [s0, s1, s2]
  rw [s4] at h1
  rw [s3] at h2
  refine up m ?_
  rw [hv] at h1
  split at h1 <;> omega
 have downG : ∀ m : Int, 0 ≤ m → m < G.σ 4 → ndW (G.σ 1) (G.σ 2) m < G.σ 0 := fun m _ h1 => by
  rw [s0, s1, s2]
  rw [s4] at h1
  refine down m ?_
  rw [hv] at h1
  split at h1 <;> omega
 unfold neV
 rw [← hk, ← hV, ← htop]
 have hh : ∀ G1, GLe 6 G G1 → HooksOk Tryz.prog G1 (hkT neT) := fun G1 g => hkT_ok progOkB neT (fun t ht => by
  simp only [neT, List.mem_cons, List.not_mem_nil, or_false] at ht
  subst ht
  have z1 : G1.σ 1 = p := (g.σ 1 (by decide)).trans s1
  have z2 : G1.σ 2 = c := (g.σ 2 (by decide)).trans s2
  have z3 : G1.σ 3 = top := (g.σ 3 (by decide)).trans s3
  have z5 : G1.σ 5 = wt := (g.σ 5 (by decide)).trans s5
  refine HTOk.of Tryz.func503 rfl (ul := [.int .i64 top, .int .i64 p, .int .i64 c]) (u := .tuple #[.int .i64 wt, .int .i64 0]) (fun φ => by simp [concL, conc, den, z1, z2, z3]) (fun φ => by simp [concL, conc, den, z5]) (fun w => ?_)
  have := cW top rtop.1 (Int.le_refl _) w
  rwa [← hwt] at this) (by rw [g.mono, hm]; exact id)
 by_cases h : V ≤ top
 · rw [if_pos h] at hv
   subst hv
   rw [if_pos h]
   have hge : val ≤ wt := by rw [hwt]; exact up top h
   have hE : ∀ G1, GLe 6 G G1 → EnvOk (neEr true) Tryz.prog G1 := fun G1 g => by
    obtain ⟨x1, x2⟩ := agree g
    have F : Facts G1 ndBd0 (neGe true) neNl := ⟨x1, by simp only [neGe, if_true, geOk, and_true, den]; rw [g.σ 5 (by decide), g.σ 0 (by decide), s5, s0]; omega, x2⟩
    exact evE_ok progOkB F.ends (geOk_at F.ge) (nlOk_at F.nl)
   refine runL_val (K := 6) (G := G) hE (fun G1 g => evE_fn progOkB (hh G1 g)) Tryz.func544 rfl (lk_one (by kernel_rfl) (loop_piece (nd_sem hm hbd _ _ 11 12 _ (0,[(3,1)]) top (by show 0 + (1 * G.σ 3 + 0) = top; rw [s3]; omega) (by omega) (by rw [s3]; omega) Tryz.func503 rfl
    (fun m h0 h1 => by rw [s3] at h1; rw [s1, s2]; exact ⟨rW m h0 h1, fun w => cW m h0 h1 w⟩) upG downG (by rw [s4]; exact rv.1) (by rw [s4]; exact h)))) neRunR harg (fun G1 g φ => ?_) w
   simp [concL, conc, den, g.σ 4 (by decide), s4]
 · rw [if_neg h]
   have hge : wt < val := by rw [hwt]; exact down top (by omega)
   exact run_val (G := G) (ge := neGe false) (nl := neNl) progOkB ⟨hbd, by simp only [neGe, Bool.false_eq_true, if_false, geOk, and_true, den]; rw [s5, s0]; omega, hnl⟩ (hh G (GLe.refl _ _)) Tryz.func544 rfl harg neRunR0 (fun φ => by simp [concL, conc]) w
set_option maxRecDepth 100000 in
theorem neR_ok {G : Gh} (hm : ¬ G.mono) : HookOk Tryz.prog G 544 neH := by
 intro call _ l h v h' e φ w ul hl r _
 unfold neH at e
 split at e
 · rename_i a p c
   obtain ⟨hc, e⟩ := bif_ok e
   simp only [Bool.and_eq_true, nble, decide_eq_true_eq] at hc
   obtain ⟨h1, h2, h3, h4⟩ := hc
   have hul : ul = [.int .i64 (a : Int), .int .i64 (p : Int), .int .i64 (c : Int)] := by
    simp [concL, conc] at hl
    exact hl.symm
   subst hul
   rw [run_enter Tryz.func544 (prog_name progOkB Tryz.func544) rfl]
   refine (needR a p c (by omega) (by omega) (by omega) w).mono ?_
   rintro e2 w2 ⟨rfl, hb⟩
   have hV := neV_nat a p c h2 h4
   cases hq : Nat.ble ((a * 10000 + p * (10000 - c) - 1) / (p * (10000 - c))) (1152921504606846976 / p) with
   | true =>
     rw [hq, cond_true] at e
     rw [nble, decide_eq_true_eq] at hq
     cases e
     refine ⟨_, rfl, below_post hm r hb ?_⟩
     rw [hV, if_pos hq]
     simp [conc, concL]
   | false =>
     rw [hq, cond_false] at e
     rw [nble, decide_eq_false_iff_not] at hq
     cases e
     refine ⟨_, rfl, below_post hm r hb ?_⟩
     rw [hV, if_neg hq]
     simp [conc, concL]
 · cases e
end Go.Proofs.YtdfgedemolielaaGreat
