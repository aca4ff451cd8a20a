/- cmd.Do at a nil and at a zero hall. -/
import Derived.Test.YtgmbppfkkiobhaaGreatCmdCheck
namespace Go.Proofs.YtgmbppfkkiobhaaGreat.Wire
open Go Go.RowKit Go.Lib Gv
/-- Do's answer there. -/
def doE (E : Int) : Int := if E = 0 then 1 else E
def DoPost (E : Int) (w : World) (en : Ending) (w' : World) : Prop := en = .returned (.agg #[.int .i64 (doE E), .slice none 0 0, .slice none 0 0]) ∧ Below w.heap.size w w'
/-- A hall that is none, or a zero one. -/
def NoHall (w : World) (v : Value) : Prop := v = .pointer none ∨ ∃ g, v = .pointer (some ⟨g, 0, none⟩) ∧ w.cell? ⟨g, 0, none⟩ = some (.pointer none)
set_option maxRecDepth 20000 in
set_option maxHeartbeats 4000000 in
theorem do_any (pv : Value) (kind : Int) (party : ByteArray) (A : Option Addr) (n c : Nat) (nums : List Int) (A' : Option Addr) (m c' : Nat) (E : Int) (w : World)
    (hc : ∀ w, IntsAt w A nums → Calls Tryz.prog 23 #[.agg #[.int .i64 kind, .string party, .slice A n c, .slice A' m c']] w (CheckPost E w)) (hx : IntsAt w A nums) (hp : NoHall w pv) :
    Calls Tryz.prog 22 #[pv, .agg #[.int .i64 kind, .string party, .slice A n c, .slice A' m c']] w (DoPost E w) := by
  have HC := Lib.hid hc
  have HX := Lib.hid hx
  clear hc hx
  rcases hp with rfl | ⟨g, rfl, hg⟩
  all_goals
    go_enter Tryz.func22, Tryz.ntmps22
    go_wp2_with fail
    refine (HC.out _ ((HX.out.grown (World.grownBy_alloc w _ none)).grown (World.grownBy_alloc _ _ none))).mono ?_
    rintro e w1 ⟨rfl, hb1⟩
    have hsz : ((w.alloc (cmdBox kind party A n c A' m c')).alloc (.cells rep0 67)).heap.size = w.heap.size + 2 := by simp
    have hr0 : ((w.alloc (cmdBox kind party A n c A' m c')).alloc (.cells rep0 67)).heap[w.heap.size + 1]? = some (.cells rep0 67 (0, 0)) := by
      have := heap_alloc_new (w.alloc (cmdBox kind party A n c A' m c')) (.cells rep0 67)
      simpa using this
    have hb1' : Below (w.heap.size + 2) ((w.alloc (cmdBox kind party A n c A' m c')).alloc (.cells rep0 67)) w1 := by rw [← hsz]; exact hb1
    have HRB : Hid (w1.heap[w.heap.size + 1]? = some (.cells rep0 67 (0, 0))) := Lib.hid ((hb1'.block _ (by omega)).trans hr0)
    have HB1 : Hid (Below w.heap.size w w1) := Lib.hid ((((Below.refl _ w).alloc (Nat.le_refl _) _).alloc (by simp) _).trans (hb1'.mono (by omega)))
    clear hb1 hb1' hsz hr0
    have r0 : w1.cell? ⟨w.heap.size + 1, 0, none⟩ = some (.int .i64 0) := by rw [cell_p HRB.out]; rfl
    have r1 : w1.cell? ⟨w.heap.size + 1, 1, none⟩ = some (.slice none 0 0) := by rw [cell_p HRB.out]; rfl
    have r2 : w1.cell? ⟨w.heap.size + 1, 2, none⟩ = some (.slice none 0 0) := by rw [cell_p HRB.out]; rfl
    have f0 : w1.frozen? ⟨w.heap.size + 1, 0, none⟩ = false := frozen_p HRB.out
    have f1 : w1.frozen? ⟨w.heap.size + 1, 1, none⟩ = false := frozen_p HRB.out
    have f2 : w1.frozen? ⟨w.heap.size + 1, 2, none⟩ = false := frozen_p HRB.out
    try have hg1 : w1.cell? ⟨g, 0, none⟩ = some (.pointer none) := (HB1.out.cell (p := ⟨g, 0, none⟩) (World.block_lt_of_cell? w _ hg)).trans hg
    have h7 : ∀ x : Int, (((w1.setCell ⟨w.heap.size + 1, 0, none⟩ (.int .i64 x)).setCell ⟨w.heap.size + 1, 1, none⟩ (.slice none 0 0)).setCell ⟨w.heap.size + 1, 2, none⟩ (.slice none 0 0)).heap[w.heap.size + 1]? = some (.cells #[.int .i64 x, .slice none 0 0, .slice none 0 0] 67 (0, 0)) := fun x => set3 HRB.out _ _ _
    have g7 : ∀ x : Int, Below w.heap.size w (((w1.setCell ⟨w.heap.size + 1, 0, none⟩ (.int .i64 x)).setCell ⟨w.heap.size + 1, 1, none⟩ (.slice none 0 0)).setCell ⟨w.heap.size + 1, 2, none⟩ (.slice none 0 0)) := fun x => below_grown HB1.out (grown3 w1 (w.heap.size + 1) _ _ _) HB1.out.size (by rintro g ⟨rfl⟩; omega)
    have H7 := Lib.hid h7
    have G7 := Lib.hid g7
    clear h7 g7
    by_cases hE : E = 0
    · subst hE
      go_wp2_with fail
      have HZ := Lib.hid (And.intro (H7.out 1) (G7.out 1))
      generalize (((w1.setCell ⟨w.heap.size + 1, 0, none⟩ (.int .i64 1)).setCell ⟨w.heap.size + 1, 1, none⟩ (.slice none 0 0)).setCell ⟨w.heap.size + 1, 2, none⟩ (.slice none 0 0)) = W7 at HZ ⊢
      have e0 : W7.cell? ⟨w.heap.size + 1, 0, none⟩ = some (.int .i64 1) := by rw [cell_p HZ.out.1]; rfl
      have e1 : W7.cell? ⟨w.heap.size + 1, 1, none⟩ = some (.slice none 0 0) := by rw [cell_p HZ.out.1]; rfl
      have e2 : W7.cell? ⟨w.heap.size + 1, 2, none⟩ = some (.slice none 0 0) := by rw [cell_p HZ.out.1]; rfl
      refine bodyPost_ret (v := .agg #[.int .i64 1, .slice none 0 0, .slice none 0 0]) (by simp [results, Tryz.results22, go_sem, e0, e1, e2]) rfl ?_
      exact ⟨by simp [doE], HZ.out.2⟩
    · have hb1 : (E == 0) = false := by simpa using hE
      have hb2 : (E != 0) = true := by simpa using hE
      have HE := Lib.hid hE
      clear hE
      go_wp2_with fail
      have HZ := Lib.hid (And.intro (H7.out E) (G7.out E))
      generalize (((w1.setCell ⟨w.heap.size + 1, 0, none⟩ (.int .i64 E)).setCell ⟨w.heap.size + 1, 1, none⟩ (.slice none 0 0)).setCell ⟨w.heap.size + 1, 2, none⟩ (.slice none 0 0)) = W7 at HZ ⊢
      have e0 : W7.cell? ⟨w.heap.size + 1, 0, none⟩ = some (.int .i64 E) := by rw [cell_p HZ.out.1]; rfl
      have e1 : W7.cell? ⟨w.heap.size + 1, 1, none⟩ = some (.slice none 0 0) := by rw [cell_p HZ.out.1]; rfl
      have e2 : W7.cell? ⟨w.heap.size + 1, 2, none⟩ = some (.slice none 0 0) := by rw [cell_p HZ.out.1]; rfl
      refine bodyPost_ret (v := .agg #[.int .i64 E, .slice none 0 0, .slice none 0 0]) (by simp [results, Tryz.results22, go_sem, e0, e1, e2]) rfl ?_
      exact ⟨by rw [doE, if_neg HE.out], HZ.out.2⟩
end Go.Proofs.YtgmbppfkkiobhaaGreat.Wire
