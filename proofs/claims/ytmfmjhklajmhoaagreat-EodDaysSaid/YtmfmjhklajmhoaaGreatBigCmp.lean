/- The document's big numbers: Cmp. -/
import Derived.Test.YtmfmjhklajmhoaaGreatDv
import Derived.WalkKit
import Derived.LoopN
import Derived.Below
import Derived.BigQuiet
namespace Go.Proofs.YtmfmjhklajmhoaaGreat
open Go Go.RowKit Gv
theorem below_drewN {B n : Nat} {a w : World} (h : Below B a w) : Below B a (w.drewN n) := ⟨h.os, h.tape, h.output, h.size, h.block⟩
def cmpD : List Int → List Int → Int
 | x :: l, y :: m => if x < y then -1 else if x > y then 1 else cmpD l m
 | _, _ => 0
set_option maxRecDepth 100000 in
set_option maxHeartbeats 4000000 in
theorem cmp_ok (x0 x1 x2 x3 x4 x5 y0 y1 y2 y3 y4 y5 : Int) (w : World) : Calls Tryz.prog 485 #[.agg #[.int .i64 x0, .int .i64 x1, .int .i64 x2, .int .i64 x3, .int .i64 x4, .int .i64 x5], .agg #[.int .i64 y0, .int .i64 y1, .int .i64 y2, .int .i64 y3, .int .i64 y4, .int .i64 y5]] w
 fun e w' => e = .returned (.int .i64 (cmpD [x5, x4, x3, x2, x1, x0] [y5, y4, y3, y2, y1, y0])) ∧ Below w.heap.size w w' := by
 go_enter Tryz.func485, Tryz.ntmps485
 go_wp2
 refine wp_loop_rounds 7 ?_
 rw [rounds_succ]; go_wp2
 go_quiet (fail)
 go_wp2
 · rename_i c5
   go_ret
   refine ⟨by have hc : cmpD [x5, x4, x3, x2, x1, x0] [y5, y4, y3, y2, y1, y0] = -1 := (by simp only [cmpD]; (repeat' split) <;> omega); rw [hc]; rfl, ?_⟩
   repeat' apply below_drewN
   exact ((Below.refl _ w).alloc (Nat.le_refl _) _).alloc (by simp) _
 · rename_i c5
   go_quiet (fail)
   go_wp2
   · rename_i d5
     go_ret
     refine ⟨by have hc : cmpD [x5, x4, x3, x2, x1, x0] [y5, y4, y3, y2, y1, y0] = 1 := (by simp only [cmpD]; (repeat' split) <;> omega); rw [hc]; rfl, ?_⟩
     repeat' apply below_drewN
     exact ((Below.refl _ w).alloc (Nat.le_refl _) _).alloc (by simp) _
   · rename_i d5
     rw [rounds_succ]; go_wp2
     go_quiet (fail)
     go_wp2
     · rename_i c4
       go_ret
       refine ⟨by have hc : cmpD [x5, x4, x3, x2, x1, x0] [y5, y4, y3, y2, y1, y0] = -1 := (by simp only [cmpD]; (repeat' split) <;> omega); rw [hc]; rfl, ?_⟩
       repeat' apply below_drewN
       exact ((Below.refl _ w).alloc (Nat.le_refl _) _).alloc (by simp) _
     · rename_i c4
       go_quiet (fail)
       go_wp2
       · rename_i d4
         go_ret
         refine ⟨by have hc : cmpD [x5, x4, x3, x2, x1, x0] [y5, y4, y3, y2, y1, y0] = 1 := (by simp only [cmpD]; (repeat' split) <;> omega); rw [hc]; rfl, ?_⟩
         repeat' apply below_drewN
         exact ((Below.refl _ w).alloc (Nat.le_refl _) _).alloc (by simp) _
       · rename_i d4
         rw [rounds_succ]; go_wp2
         go_quiet (fail)
         go_wp2
         · rename_i c3
           go_ret
           refine ⟨by have hc : cmpD [x5, x4, x3, x2, x1, x0] [y5, y4, y3, y2, y1, y0] = -1 := (by simp only [cmpD]; (repeat' split) <;> omega); rw [hc]; rfl, ?_⟩
           repeat' apply below_drewN
           exact ((Below.refl _ w).alloc (Nat.le_refl _) _).alloc (by simp) _
         · rename_i c3
           go_quiet (fail)
           go_wp2
           · rename_i d3
             go_ret
             refine ⟨by have hc : cmpD [x5, x4, x3, x2, x1, x0] [y5, y4, y3, y2, y1, y0] = 1 := (by simp only [cmpD]; (repeat' split) <;> omega); rw [hc]; rfl, ?_⟩
             repeat' apply below_drewN
             exact ((Below.refl _ w).alloc (Nat.le_refl _) _).alloc (by simp) _
           · rename_i d3
             rw [rounds_succ]; go_wp2
             go_quiet (fail)
             go_wp2
             · rename_i c2
               go_ret
               refine ⟨by have hc : cmpD [x5, x4, x3, x2, x1, x0] [y5, y4, y3, y2, y1, y0] = -1 := (by simp only [cmpD]; (repeat' split) <;> omega); rw [hc]; rfl, ?_⟩
               repeat' apply below_drewN
               exact ((Below.refl _ w).alloc (Nat.le_refl _) _).alloc (by simp) _
             · rename_i c2
               go_quiet (fail)
               go_wp2
               · rename_i d2
                 go_ret
                 refine ⟨by have hc : cmpD [x5, x4, x3, x2, x1, x0] [y5, y4, y3, y2, y1, y0] = 1 := (by simp only [cmpD]; (repeat' split) <;> omega); rw [hc]; rfl, ?_⟩
                 repeat' apply below_drewN
                 exact ((Below.refl _ w).alloc (Nat.le_refl _) _).alloc (by simp) _
               · rename_i d2
                 rw [rounds_succ]; go_wp2
                 go_quiet (fail)
                 go_wp2
                 · rename_i c1
                   go_ret
                   refine ⟨by have hc : cmpD [x5, x4, x3, x2, x1, x0] [y5, y4, y3, y2, y1, y0] = -1 := (by simp only [cmpD]; (repeat' split) <;> omega); rw [hc]; rfl, ?_⟩
                   repeat' apply below_drewN
                   exact ((Below.refl _ w).alloc (Nat.le_refl _) _).alloc (by simp) _
                 · rename_i c1
                   go_quiet (fail)
                   go_wp2
                   · rename_i d1
                     go_ret
                     refine ⟨by have hc : cmpD [x5, x4, x3, x2, x1, x0] [y5, y4, y3, y2, y1, y0] = 1 := (by simp only [cmpD]; (repeat' split) <;> omega); rw [hc]; rfl, ?_⟩
                     repeat' apply below_drewN
                     exact ((Below.refl _ w).alloc (Nat.le_refl _) _).alloc (by simp) _
                   · rename_i d1
                     rw [rounds_succ]; go_wp2
                     go_quiet (fail)
                     go_wp2
                     · rename_i c0
                       go_ret
                       refine ⟨by have hc : cmpD [x5, x4, x3, x2, x1, x0] [y5, y4, y3, y2, y1, y0] = -1 := (by simp only [cmpD]; (repeat' split) <;> omega); rw [hc]; rfl, ?_⟩
                       repeat' apply below_drewN
                       exact ((Below.refl _ w).alloc (Nat.le_refl _) _).alloc (by simp) _
                     · rename_i c0
                       go_quiet (fail)
                       go_wp2
                       · rename_i d0
                         go_ret
                         refine ⟨by have hc : cmpD [x5, x4, x3, x2, x1, x0] [y5, y4, y3, y2, y1, y0] = 1 := (by simp only [cmpD]; (repeat' split) <;> omega); rw [hc]; rfl, ?_⟩
                         repeat' apply below_drewN
                         exact ((Below.refl _ w).alloc (Nat.le_refl _) _).alloc (by simp) _
                       · rename_i d0
                         rw [rounds_succ]; go_wp2
                         go_ret
                         refine ⟨by have hc : cmpD [x5, x4, x3, x2, x1, x0] [y5, y4, y3, y2, y1, y0] = 0 := (by simp only [cmpD]; (repeat' split) <;> omega); rw [hc]; rfl, ?_⟩
                         repeat' apply below_drewN
                         exact ((Below.refl _ w).alloc (Nat.le_refl _) _).alloc (by simp) _
end Go.Proofs.YtmfmjhklajmhoaaGreat
