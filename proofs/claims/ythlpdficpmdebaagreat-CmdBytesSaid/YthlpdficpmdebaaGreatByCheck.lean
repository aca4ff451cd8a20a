/- cmd.Check: the same answer in every world. -/
import Derived.Test.YthlpdficpmdebaaGreatJ13
import Derived.Test.YthlpdficpmdebaaGreatByTab
import Derived.Deep.RegionHeld3
namespace Go.Proofs.YthlpdficpmdebaaGreat.Wire
open Go Go.RowKit Go.Lib Gv
theorem far5 (w1 : World) (q : Nat) (p : Addr) (h : q ≠ p.block) (a b c d e : Value) : (((((w1.setCell ⟨q, 0, none⟩ a).setCell ⟨q, 1, none⟩ b).setCell ⟨q, 2, none⟩ c).setCell ⟨q, 3, none⟩ d).setCell ⟨q, 4, none⟩ e).cell? p = w1.cell? p := by
  have hh : ∀ (W : World) (i : Nat) (u : Value), (W.setCell ⟨q, i, none⟩ u).cell? p = W.cell? p := fun W i u => World.cell?_of_block (Below.heap_setCell _ _ _ _ (fun e => h e.symm))
  rw [hh, hh, hh, hh, hh]
/-- What Check says. -/
def chkE (is r any : Bool) (m t wh : Int) (bank emp : Bool) : Int :=
  if is = false ∨ m ≠ t ∨ r = false then 1 else if any = true then 1 else if (wh = 1 ∧ bank = false) ∨ (wh = 2 ∧ (bank = true ∨ emp = true)) then 22 else 0
structure Mid (kind : Int) (party : ByteArray) (A : Option Addr) (n c : Nat) (nums : List Int) (A' : Option Addr) (m c' : Nat) (wh t n0 s : Int) (T : Option Addr) (tr : List Int) (tc : Nat) (w W : World) (p3 : Nat) : Prop where
  s_ : W.heap[p3]? = some (.cells #[.int .i64 wh, .int .i64 t, .int .i64 n0, .int .i64 s, .slice T tr.length tc] 111 (0, 0))
  c_ : W.heap[w.heap.size]? = some (cmdBox kind party A n c A' m c')
  a_ : IntsAt W A nums
  t_ : IntsAt W T tr
  b_ : Below w.heap.size w W
section
variable {kind : Int} {party : ByteArray} {A : Option Addr} {n c : Nat} {nums : List Int} {A' : Option Addr} {m c' : Nat} {wh t n0 s : Int} {T : Option Addr} {tr : List Int} {tc : Nat} {w W W0 w1 : World} {p3 : Nat}
theorem Mid.to (h : Mid kind party A n c nums A' m c' wh t n0 s T tr tc w W p3) (hb : Below W.heap.size W w1) : Mid kind party A n c nums A' m c' wh t n0 s T tr tc w w1 p3 :=
  have hg : W.grownBy w1 none := only_of_below hb _
  ⟨(hb.block _ (blk_lt h.s_)).trans h.s_, (hb.block _ (blk_lt h.c_)).trans h.c_, h.a_.grown hg, h.t_.grown hg, h.b_.trans (hb.mono h.b_.size)⟩
theorem Mid.cells (h : Mid kind party A n c nums A' m c' wh t n0 s T tr tc w W p3) : W.cell? ⟨p3, 0, none⟩ = some (.int .i64 wh) ∧ W.cell? ⟨p3, 1, none⟩ = some (.int .i64 t) ∧ W.cell? ⟨p3, 2, none⟩ = some (.int .i64 n0) ∧ W.cell? ⟨p3, 3, none⟩ = some (.int .i64 s) ∧ W.cell? ⟨p3, 4, none⟩ = some (.slice T tr.length tc) := by
  refine ⟨?_, ?_, ?_, ?_, ?_⟩ <;> (rw [cell_p h.s_]; rfl)
theorem mid1 (hb : Below W0.heap.size W0 w1) (hc : W0.heap[w.heap.size]? = some (cmdBox kind party A n c A' m c')) (h0 : Below w.heap.size w W0) (ha : IntsAt W0 A nums) (ht : IntsAt w1 T tr) :
    Mid kind party A n c nums A' m c' wh t n0 s T tr tc w (w1.alloc (.cells #[.int .i64 wh, .int .i64 t, .int .i64 n0, .int .i64 s, .slice T tr.length tc] 111)) w1.heap.size :=
  have hc1 := (hb.block _ (blk_lt hc)).trans hc
  ⟨heap_alloc_new w1 _, (Below.heap_alloc w1 _ _ (blk_lt hc1)).trans hc1, (ha.grown (only_of_below hb none)).grown (World.grownBy_alloc w1 _ none), ht.grown (World.grownBy_alloc w1 _ none),
    (h0.trans (hb.mono h0.size)).alloc (Nat.le_trans h0.size hb.size) _⟩
theorem set5 {r : Nat} {x0 x1 x2 x3 x4 : Value} {ty : TypeId} (h : w1.heap[r]? = some (.cells #[x0, x1, x2, x3, x4] ty (0, 0))) (y0 y1 y2 y3 y4 : Value) :
    (((((w1.setCell ⟨r, 0, none⟩ y0).setCell ⟨r, 1, none⟩ y1).setCell ⟨r, 2, none⟩ y2).setCell ⟨r, 3, none⟩ y3).setCell ⟨r, 4, none⟩ y4).heap[r]? = some (.cells #[y0, y1, y2, y3, y4] ty (0, 0)) :=
  Go.Lib.heap_setCell_same (i := 4) (Go.Lib.heap_setCell_same (i := 3) (Go.Lib.heap_setCell_same (i := 2) (Go.Lib.heap_setCell_same (i := 1) (Go.Lib.heap_setCell_same (i := 0) h y0) y1) y2) y3) y4
theorem mid3 (hb : Below (W0.heap.size + 1) (W0.alloc (.cells #[.int .i64 0, .int .i64 0, .int .i64 0, .int .i64 0, .slice none 0 0] 111)) w1) (hc : W0.heap[w.heap.size]? = some (cmdBox kind party A n c A' m c')) (h0 : Below w.heap.size w W0) (hlt : w.heap.size < W0.heap.size) (ha : IntsAt W0 A nums) (ht : IntsAt w1 T tr) (hge : ∀ ad, T = some ad → W0.heap.size + 1 ≤ ad.block) :
    Mid kind party A n c nums A' m c' wh t n0 s T tr tc w (((((w1.setCell ⟨W0.heap.size, 0, none⟩ (.int .i64 wh)).setCell ⟨W0.heap.size, 1, none⟩ (.int .i64 t)).setCell ⟨W0.heap.size, 2, none⟩ (.int .i64 n0)).setCell ⟨W0.heap.size, 3, none⟩ (.int .i64 s)).setCell ⟨W0.heap.size, 4, none⟩ (.slice T tr.length tc)) W0.heap.size := by
  have hz : w1.heap[W0.heap.size]? = some (.cells #[.int .i64 0, .int .i64 0, .int .i64 0, .int .i64 0, .slice none 0 0] 111 (0, 0)) := (hb.block _ (by omega)).trans (heap_alloc_new W0 _)
  have hg : w1.grownBy (((((w1.setCell ⟨W0.heap.size, 0, none⟩ (.int .i64 wh)).setCell ⟨W0.heap.size, 1, none⟩ (.int .i64 t)).setCell ⟨W0.heap.size, 2, none⟩ (.int .i64 n0)).setCell ⟨W0.heap.size, 3, none⟩ (.int .i64 s)).setCell ⟨W0.heap.size, 4, none⟩ (.slice T tr.length tc)) (some W0.heap.size) :=
    ((((grownBy_setCell w1 _ 0 _).trans (grownBy_setCell _ _ 1 _)).trans (grownBy_setCell _ _ 2 _)).trans (grownBy_setCell _ _ 3 _)).trans (grownBy_setCell _ _ 4 _)
  have hc1 : w1.heap[w.heap.size]? = some (cmdBox kind party A n c A' m c') := (hb.block _ (by omega)).trans ((Below.heap_alloc W0 _ _ hlt).trans hc)
  have hb1 : Below w.heap.size w w1 := (h0.alloc h0.size _).trans (hb.mono (by have := h0.size; omega))
  have hA1 : IntsAt w1 A nums := by
    intro hne
    obtain ⟨ad, rfl, hcs⟩ := ha hne
    refine ⟨ad, rfl, fun j x hx => ?_⟩
    have hl := World.block_lt_of_cell? W0 _ (hcs j x hx)
    exact (hb.cell (p := ad.add j) (by omega)).trans ((World.cell?_alloc_lt _ _ _ hl).trans (hcs j x hx))
  have hAb : nums ≠ [] → ∀ ad, A = some ad → ad.block ≠ W0.heap.size := by
    intro hne ad had
    obtain ⟨ad', h1, hcs⟩ := ha hne
    rw [had] at h1
    injection h1 with h1
    subst h1
    have hpos : 0 < nums.length := List.length_pos_iff.2 hne
    have hl := World.block_lt_of_cell? W0 _ (hcs 0 _ (List.getElem?_eq_getElem hpos))
    rw [add_block] at hl
    omega
  have keepI : ∀ {B : Option Addr} {xs : List Int}, IntsAt w1 B xs → (xs ≠ [] → ∀ ad, B = some ad → ad.block ≠ W0.heap.size) → IntsAt (((((w1.setCell ⟨W0.heap.size, 0, none⟩ (.int .i64 wh)).setCell ⟨W0.heap.size, 1, none⟩ (.int .i64 t)).setCell ⟨W0.heap.size, 2, none⟩ (.int .i64 n0)).setCell ⟨W0.heap.size, 3, none⟩ (.int .i64 s)).setCell ⟨W0.heap.size, 4, none⟩ (.slice T tr.length tc)) B xs := by
    intro B xs h1 h2 hne
    obtain ⟨ad, rfl, hcs⟩ := h1 hne
    exact ⟨ad, rfl, fun j x hx => hg.cell (hcs j x hx) (by rw [add_block]; intro e; injection e with e; exact h2 hne ad rfl e)⟩
  exact ⟨set5 hz _ _ _ _ _, (hg.block _ (blk_lt hc1) (by intro e; injection e with e; omega)).trans hc1, keepI hA1 hAb, keepI ht (fun _ ad had => by have := hge ad had; omega), below_grown hb1 hg hb1.size (by rintro g ⟨rfl⟩; omega)⟩
end
def CheckPost (E : Int) (w : World) (en : Ending) (w' : World) : Prop := en = .returned (.int .i64 E) ∧ Below w.heap.size w w'
/-- What the program's Check says of a command. -/
def chkP (kind : Int) (party : ByteArray) (nums : List Int) (n m : Nat) : Int :=
  chkE (shT kind).1 (fitB (shT kind).2.2.2.1 (shT kind).2.2.2.2.1 n) (anyB nums (shT kind).2.2.2.2.2) m (shT kind).2.2.1 (shT kind).2.1 (decide (party.toList = [66, 65, 78, 75])) (decide (party.toList = []))
set_option maxRecDepth 20000 in
set_option maxHeartbeats 4000000 in
theorem check_any (kind : Int) (party : ByteArray) (A : Option Addr) (n c : Nat) (nums : List Int) (A' : Option Addr) (m c' : Nat) (hk : okI kind) (hn : nums.length = n) (hn2 : n ≤ maxLen) (hm2 : m ≤ maxLen) : ∃ E : Int, E = chkP kind party nums n m ∧ ∀ w, IntsAt w A nums →
    Calls Tryz.prog 14 #[.agg #[.int .i64 kind, .string party, .slice A n c, .slice A' m c']] w (CheckPost E w) := by
  obtain ⟨is, wh, t, n0, s, tr, hshT, ⟨hg1, hg2, hg3, hg4⟩, hlook⟩ := shape_of kind hk
  obtain ⟨r, hrf, hr, hfits⟩ := fits_any wh t n0 s n hg1 hg2
  refine ⟨chkE is r (anyB nums tr) m t wh (decide (party.toList = [66, 65, 78, 75])) (decide (party.toList = [])), by rw [chkP, hshT, hrf], fun w hx => ?_⟩
  clear hshT hrf
  obtain ⟨E, hE⟩ : ∃ E, chkE is r (anyB nums tr) (m : Int) t wh (decide (party.toList = [66, 65, 78, 75])) (decide (party.toList = [])) = E := ⟨_, rfl⟩
  rw [hE]
  have HE := Lib.hid hE
  clear hE
  have HLOOK := Lib.hid hlook
  have HFITS := Lib.hid hfits
  have HR := Lib.hid hr
  have HG3 := Lib.hid hg3
  have HG4 := Lib.hid hg4
  have HX := Lib.hid hx
  have HN := Lib.hid hn
  have HN2 := Lib.hid hn2
  have HM2 := Lib.hid hm2
  clear hlook hfits hr hg3 hg4 hx hn hn2 hm2 hg1 hg2
  go_enter Tryz.func14, Tryz.ntmps14
  go_wp2_with fail
  have hB0 : (w.alloc (cmdBox kind party A n c A' m c')).heap[w.heap.size]? = some (cmdBox kind party A n c A' m c') := heap_alloc_new w _
  obtain ⟨W0, hW0⟩ : ∃ W0, w.alloc (cmdBox kind party A n c A' m c') = W0 := ⟨_, rfl⟩
  have HBX : Hid (W0.heap[w.heap.size]? = some (cmdBox kind party A n c A' m c')) := Lib.hid (by rw [← hW0]; exact hB0)
  have HB0 : Hid (Below w.heap.size w W0) := Lib.hid (by rw [← hW0]; exact (Below.refl _ w).alloc (Nat.le_refl _) _)
  have HX0 : Hid (IntsAt W0 A nums) := Lib.hid (by rw [← hW0]; exact HX.out.grown (World.grownBy_alloc w _ none))
  unfold cmdBox at hW0
  rw [hW0]
  have HXL := Lib.hid (blk_lt HBX.out)
  clear hB0 hW0
  obtain ⟨k0, k1, k2, k3⟩ := cmdBox_cells HBX.out
  go_region_held3 (fun w' => w'.cell? ⟨w.heap.size, 0, none⟩ = some (.int .i64 kind))
    (first
      | go_keep
      | (rw [far5 _ _ _ (by have := HXL.out; show W0.heap.size ≠ w.heap.size; omega)]; exact (hb1.cell (p := ⟨w.heap.size, 0, none⟩) (by have := HXL.out; simp; omega)).trans ((World.cell?_alloc_lt _ _ _ HXL.out).trans k0))
      | exact (World.cell?_alloc_lt _ _ _ (Nat.lt_of_lt_of_le HXL.out hb1.size)).trans ((hb1.cell (p := ⟨w.heap.size, 0, none⟩) HXL.out).trans k0)
      | exact (hb1.cell (p := ⟨w.heap.size, 0, none⟩) HXL.out).trans k0
      | exact (hb1.cell (p := ⟨w.heap.size, 0, none⟩) (by have := HXL.out; simp; omega)).trans ((World.cell?_alloc_lt _ _ _ HXL.out).trans k0))
    ((first
      | (go_at_call 51
         refine (HLOOK.out _).mono ?_
         rintro e w1 ⟨mb, T, tc, rfl, hb1, hi1, hge1, hlk⟩
         have hlk1 := hlk w1 (Below.refl _ _)
         have hlk2 := hlk w1.drew (below_drewN' (Below.refl _ w1) 1)
         have hlk3 := hlk (w1.alloc (.cells #[.int .i64 0, .int .i64 0, .int .i64 0, .int .i64 0, .slice none 0 0] 111)) ((Below.refl _ w1).alloc (Nat.le_refl _) _)
         have hlk4 := hlk (w1.alloc (.cells #[.int .i64 0, .int .i64 0, .int .i64 0, .int .i64 0, .slice none 0 0] 111)).drew (below_drewN' ((Below.refl _ w1).alloc (Nat.le_refl _) _) 1)
         (try (have hz : w1.heap[W0.heap.size]? = some (.cells #[.int .i64 0, .int .i64 0, .int .i64 0, .int .i64 0, .slice none 0 0] 111) := (hb1.block _ (by simp)).trans (heap_alloc_new W0 _)
               have z0 : w1.cell? ⟨W0.heap.size, 0, none⟩ = some (.int .i64 0) := (cell_p hz).trans rfl
               have z1 : w1.cell? ⟨W0.heap.size, 1, none⟩ = some (.int .i64 0) := (cell_p hz).trans rfl
               have z2 : w1.cell? ⟨W0.heap.size, 2, none⟩ = some (.int .i64 0) := (cell_p hz).trans rfl
               have z3 : w1.cell? ⟨W0.heap.size, 3, none⟩ = some (.int .i64 0) := (cell_p hz).trans rfl
               have z4 : w1.cell? ⟨W0.heap.size, 4, none⟩ = some (.slice none 0 0) := (cell_p hz).trans rfl
               have y0 : w1.frozen? ⟨W0.heap.size, 0, none⟩ = false := frozen_p hz
               have y1 : w1.frozen? ⟨W0.heap.size, 1, none⟩ = false := frozen_p hz
               have y2 : w1.frozen? ⟨W0.heap.size, 2, none⟩ = false := frozen_p hz
               have y3 : w1.frozen? ⟨W0.heap.size, 3, none⟩ = false := frozen_p hz
               have y4 : w1.frozen? ⟨W0.heap.size, 4, none⟩ = false := frozen_p hz
               clear hz))
         have HI1 := Lib.hid hi1
         have HGE1 := Lib.hid hge1
         clear hlk hi1 hge1)))
  all_goals clear hlk1 hlk2 hlk3 hlk4
  all_goals first
    | (have HM := Lib.hid (mid1 (c := c) (A' := A') (m := m) (c' := c') (wh := wh) (t := t) (n0 := n0) (s := s) (tc := tc) (below_un hb1) HBX.out HB0.out HX0.out HI1.out)
       generalize w1.alloc (.cells #[.int .i64 wh, .int .i64 t, .int .i64 n0, .int .i64 s, .slice T tr.length tc] 111) = W at *)
    | (have hb1' : Below (W0.heap.size + 1) (W0.alloc (.cells #[.int .i64 0, .int .i64 0, .int .i64 0, .int .i64 0, .slice none 0 0] 111)) w1 := by
         have := below_un hb1
         simpa using this
       have HM := Lib.hid (mid3 (c := c) (A' := A') (m := m) (c' := c') (wh := wh) (t := t) (n0 := n0) (s := s) (tc := tc) hb1' HBX.out HB0.out HXL.out HX0.out HI1.out (fun ad had => by have := HGE1.out ad had; simp at this; omega))
       clear hb1'
       generalize (((((w1.setCell ⟨W0.heap.size, 0, none⟩ (.int .i64 wh)).setCell ⟨W0.heap.size, 1, none⟩ (.int .i64 t)).setCell ⟨W0.heap.size, 2, none⟩ (.int .i64 n0)).setCell ⟨W0.heap.size, 3, none⟩ (.int .i64 s)).setCell ⟨W0.heap.size, 4, none⟩ (.slice T tr.length tc)) = W at *)
  all_goals
    clear hb1
    obtain ⟨s0, s1, s2, s3, s4⟩ := HM.out.cells
    obtain ⟨c0, c1, c2, c3⟩ := cmdBox_cells HM.out.c_
    clear k0 k1 k2 k3
    cases is with
    | false =>
      go_wp2_with fail
      refine bodyPost_ret (results_tmp rfl _ _ _) rfl ?_
      exact ⟨by rw [← HE.out]; simp [chkE], HM.out.b_⟩
    | true =>
      by_cases hmt : (m : Int) = t
      · obtain ⟨tt, rfl⟩ : ∃ tt : Nat, t = tt := ⟨m, hmt.symm⟩
        have hmt2 : m = tt := by omega
        subst hmt2
        clear hmt
        go_wp2_with fail
        refine (HFITS.out T tr.length tc _).mono ?_
        rintro e w5 ⟨rfl, hb5⟩
        have HM5 := Lib.hid (HM.out.to hb5)
        clear hb5 s0 s1 s2 s3 s4 c0 c1 c2 c3
        obtain ⟨s0, s1, s2, s3, s4⟩ := HM5.out.cells
        obtain ⟨c0, c1, c2, c3⟩ := cmdBox_cells HM5.out.c_
        cases r with
        | false =>
          go_wp2_with fail
          refine bodyPost_ret (results_tmp rfl _ _ _) rfl ?_
          exact ⟨by rw [← HE.out]; simp [chkE], HM5.out.b_⟩
        | true =>
          obtain ⟨any, hany⟩ : ∃ any, anyB nums tr = any := ⟨_, rfl⟩
          have hct := contains_any w.heap.size kind party A n c A' m c' nums T tr.length tc tr w5 HM5.out.c_ HM5.out.a_ HN.out HM5.out.t_ rfl HG3.out (fun i hi => by have h1 := HG4.out i hi; have h2 := HR.out rfl; omega)
          rw [hany] at hct
          have hE2 := HE.out
          rw [hany] at hE2
          have HE2 := Lib.hid hE2
          have HCT := Lib.hid hct
          clear hct hany hE2
          go_wp2_with fail
          refine HCT.out.mono ?_
          rintro e w6 ⟨rfl, rfl⟩
          cases any with
          | true =>
            go_wp2_with fail
            refine bodyPost_ret (results_tmp rfl _ _ _) rfl ?_
            exact ⟨by rw [← HE2.out]; simp [chkE], HM5.out.b_⟩
          | false =>
            go_wp2_with fail
            all_goals
              refine bodyPost_ret (results_tmp rfl _ _ _) rfl ?_
              refine ⟨?_, HM5.out.b_⟩
              rw [← HE2.out]
              simp_all [chkE]
      · have hb0 : ((m : Int) == t) = false := by rw [beq_eq_false_iff_ne]; exact hmt
        have hb2 : ((m : Int) != t) = true := by rw [bne_iff_ne]; exact hmt
        have HMT := Lib.hid hmt
        clear hmt
        go_wp2_with fail
        refine bodyPost_ret (results_tmp rfl _ _ _) rfl ?_
        refine ⟨?_, HM.out.b_⟩
        rw [← HE.out]
        unfold chkE
        rw [if_pos (.inr (.inl HMT.out))]
        rfl
end Go.Proofs.YthlpdficpmdebaaGreat.Wire
