/- SamePledges, SameTake, SameSet: equal sets answer true. -/
import Derived.Test.YtgmbppfkkiobhaaGreatChkA
import Derived.Test.YtgmbppfkkiobhaaGreatChkPutD
import Derived.Deep.RegionHeld3
namespace Go.Proofs.YtgmbppfkkiobhaaGreat.Wire
open Go Go.RowKit Go.Lib
set_option maxRecDepth 20000 in
set_option maxHeartbeats 1000000 in
theorem samePl_any (A A' : Option Addr) (n c c' : Nat) (xs : List PlD) (w : World) (hx : PlsAt w A xs) (hx' : PlsAt w A' xs) (hn : n = xs.length) (hn2 : n ≤ 1000) :
    Calls Tryz.prog 129 #[.slice A n c, .slice A' n c'] w fun en w' => en = .returned (.bool true) ∧ ∃ m, w' = w.drewN m := by
  have HX := Lib.hid hx
  have HX' := Lib.hid hx'
  have HNN := Lib.hid hn
  clear hx hx' hn
  go_enter Tryz.func129, Tryz.ntmps129
  go_wp2_with fail
  go_loopw [5] (fun i wr => ∃ (k m : Nat), i = .int .i64 k ∧ k ≤ n ∧ wr = w.drewN m) (fun i _ => n - (intOf i).toNat)
  case atStart => exact ⟨0, 0, rfl, Nat.zero_le _, rfl⟩
  case round =>
    obtain ⟨k, m, rfl, hk, rfl⟩ := hrel
    by_cases hlt : k < n
    · have hxl : k < xs.length := by have := HNN.out; omega
      obtain ⟨ad, hA, hcs⟩ := HX.out (by intro e0; rw [e0] at hxl; simp at hxl)
      obtain ⟨ad', hA', hcs'⟩ := HX'.out (by intro e0; rw [e0] at hxl; simp at hxl)
      subst hA
      subst hA'
      obtain ⟨g1, g2⟩ := hcs k _ (List.getElem?_eq_getElem hxl)
      obtain ⟨g3, g4⟩ := hcs' k _ (List.getElem?_eq_getElem hxl)
      obtain ⟨bs, hbs, _⟩ := str8_ex xs[k].asset
      rw [hbs] at g1 g3
      generalize xs[k].qty = qy at g2 g4
      have g1d : w.cell? (ad.add (k * 2)) = some (.string bs) := g1
      have g2d : w.cell? ⟨(ad.add (k * 2)).block, (ad.add (k * 2)).off + 1, none⟩ = some (.int .i64 qy) := by rw [← fld1, add_add]; exact g2
      have g3d : w.cell? (ad'.add (k * 2)) = some (.string bs) := g3
      have g4d : w.cell? ⟨(ad'.add (k * 2)).block, (ad'.add (k * 2)).off + 1, none⟩ = some (.int .i64 qy) := by rw [← fld1, add_add]; exact g4
      have hi0 : (0 : Int) ≤ k := by omega
      have hi1 : (k : Int) < n := by omega
      clear hcs hcs' hbs g2 g4
      go_wp2_with fail
      go_quiet (fail)
      go_wp2_with fail
      go_roundw
      case rel => exact ⟨k + 1, _, by go_num, by omega, rfl⟩
      case measure => simp [intOf]; omega
    · go_wp2_with fail
      refine bodyPost_ret (results_tmp rfl _ _ _) rfl ?_
      exact ⟨rfl, _, rfl⟩
theorem below_dn {B : Nat} {a w : World} (h : Below B a w) (n : Nat) : Below B a (w.drewN n) := h.trans ⟨rfl, rfl, rfl, Nat.le_refl _, fun _ _ => rfl⟩
set_option maxRecDepth 20000 in
set_option maxHeartbeats 1000000 in
theorem sameTk_any (a b : ByteArray) (am : Int) (Q Q' : Option Addr) (n c c' : Nat) (xs : List PlD) (w : World) (hx : PlsAt w Q xs) (hx' : PlsAt w Q' xs) (hn : n = xs.length) (hn2 : n ≤ 1000) :
    Calls Tryz.prog 44 #[.agg #[.string a, .string b, .int .i64 am, .slice Q n c], .agg #[.string a, .string b, .int .i64 am, .slice Q' n c']] w fun en w' => en = .returned (.bool true) ∧ Below w.heap.size w w' := by
  have HX := Lib.hid hx
  have HX' := Lib.hid hx'
  have HNN := Lib.hid hn
  clear hx hx' hn
  have HB : Hid (∀ o1 o2, Below w.heap.size w ((w.alloc o1).alloc o2)) := Lib.hid (fun o1 o2 => ((Below.refl w.heap.size w).alloc (Nat.le_refl _) o1).alloc (by simp) o2)
  go_enter Tryz.func44, Tryz.ntmps44
  go_wp2_with (go_at_call 129
               refine (samePl_any Q Q' n c c' xs _ (PlsAt.below (HB.out _ _) HX.out) (PlsAt.below (HB.out _ _) HX'.out) HNN.out hn2).mono ?_
               rintro e w1 ⟨rfl, m1, rfl⟩)
  refine bodyPost_ret (results_tmp rfl _ _ _) rfl ?_
  exact ⟨rfl, below_dn (HB.out _ _) _⟩
theorem below_dr (w : World) : Below w.heap.size w w.drew := ⟨rfl, rfl, rfl, Nat.le_refl _, fun _ _ => rfl⟩
structure SW (w : World) (v1 v2 v3 v4 : Value) (wr : World) : Prop where
  hb : Below w.heap.size w wr
  b1 : wr.heap[w.heap.size]? = some (.cells #[v1, v2] 37 (0, 0))
  b2 : wr.heap[w.heap.size + 1]? = some (.cells #[v3, v4] 37 (0, 0))
theorem SW.drewN {w wr : World} {v1 v2 v3 v4 : Value} (h : SW w v1 v2 v3 v4 wr) (n : Nat) : SW w v1 v2 v3 v4 (wr.drewN n) := ⟨below_dn h.hb n, h.b1, h.b2⟩
theorem SW.below {w wr w' : World} {v1 v2 v3 v4 : Value} (h : SW w v1 v2 v3 v4 wr) (hb : Below wr.heap.size wr w') : SW w v1 v2 v3 v4 w' :=
  ⟨h.hb.trans (hb.mono h.hb.size), (hb.block _ (blk_lt h.b1)).trans h.b1, (hb.block _ (blk_lt h.b2)).trans h.b2⟩
set_option maxRecDepth 20000 in
set_option maxHeartbeats 1000000 in
theorem sameSet_any (L L' T T' : Option Addr) (n c c' m d d' : Nat) (x : SetD) (w : World) (hx : SetAt w L n T m x) (hx' : SetAt w L' n T' m x) (hin : SetIn x) :
    Calls Tryz.prog 16 #[.agg #[.slice L n c, .slice T m d], .agg #[.slice L' n c', .slice T' m d']] w fun en w' => en = .returned (.bool true) ∧ Below w.heap.size w w' := by
  obtain ⟨hn, hl, hm, ht⟩ := hx
  obtain ⟨-, hl', -, ht'⟩ := hx'
  have hn2 : n ≤ 200 := by have := hin.1; omega
  have hm2 : m ≤ 200 := by have := hin.2.1; omega
  have HIN := Lib.hid hin
  have HL := Lib.hid hl
  have HL' := Lib.hid hl'
  have HT := Lib.hid ht
  have HT' := Lib.hid ht'
  have HN := Lib.hid hn
  have HM := Lib.hid hm
  clear hl hl' ht ht' hn hm hin
  go_enter Tryz.func16, Tryz.ntmps16
  go_wp2_with fail
  have HW : Hid (SW w (.slice L n c) (.slice T m d) (.slice L' n c') (.slice T' m d') ((w.alloc (.cells #[.slice L n c, .slice T m d] 37 (0, 0))).alloc (.cells #[.slice L' n c', .slice T' m d'] 37 (0, 0)))) := Lib.hid
    ⟨((Below.refl w.heap.size w).alloc (Nat.le_refl _) _).alloc (by simp) _, (Below.heap_alloc _ _ _ (by simp)).trans (heap_alloc_new w _), by have := heap_alloc_new (w.alloc (.cells #[.slice L n c, .slice T m d] 37 (0, 0))) (.cells #[.slice L' n c', .slice T' m d'] 37 (0, 0)); simpa using this⟩
  go_loopw [5] (fun i wr => ∃ k : Nat, i = .int .i64 k ∧ k ≤ n ∧ SW w (.slice L n c) (.slice T m d) (.slice L' n c') (.slice T' m d') wr) (fun i _ => n - (intOf i).toNat)
  case atStart => exact ⟨0, rfl, Nat.zero_le _, HW.out⟩
  case round =>
    obtain ⟨k, rfl, hk, hsw⟩ := hrel
    have HS := Lib.hid hsw
    clear hsw
    obtain ⟨W1, rfl⟩ : ∃ W : World, W = wr := ⟨wr, rfl⟩
    have b0 : W1.cell? ⟨w.heap.size, 0, none⟩ = some (.slice L n c) := by rw [cell_p HS.out.b1]; rfl
    have b1 : W1.cell? ⟨w.heap.size + 1, 0, none⟩ = some (.slice L' n c') := by rw [cell_p HS.out.b2]; rfl
    by_cases hlt : k < n
    · have hxl : k < x.legs.length := by have := HN.out; omega
      obtain ⟨ad, hA, hcs⟩ := (LegsAt.below HS.out.hb HL.out) (by intro e0; rw [e0] at hxl; simp at hxl)
      obtain ⟨ad', hA', hcs'⟩ := (LegsAt.below HS.out.hb HL'.out) (by intro e0; rw [e0] at hxl; simp at hxl)
      subst hA
      subst hA'
      obtain ⟨g1, g2⟩ := hcs k _ (List.getElem?_eq_getElem hxl)
      obtain ⟨g3, g4⟩ := hcs' k _ (List.getElem?_eq_getElem hxl)
      generalize x.legs[k].id = iv at g1 g3
      generalize x.legs[k].qty = qy at g2 g4
      have g2d : W1.cell? ⟨(ad.add (k * 2)).block, (ad.add (k * 2)).off + 1, none⟩ = some (.int .i64 qy) := by rw [← fld1, add_add]; exact g2
      have g4d : W1.cell? ⟨(ad'.add (k * 2)).block, (ad'.add (k * 2)).off + 1, none⟩ = some (.int .i64 qy) := by rw [← fld1, add_add]; exact g4
      have hi0 : (0 : Int) ≤ k := by omega
      have hi1 : (k : Int) < n := by omega
      clear hcs hcs' g2 g4
      go_wp2_with fail
      go_quiet (fail)
      go_wp2_with fail
      go_roundw
      case rel => exact ⟨k + 1, by go_num, by omega, HS.out.drewN _⟩
      case measure => simp [intOf]; omega
    · go_wp2_with fail
      clear b0 b1
      go_loopw [6] (fun i wr => ∃ k : Nat, i = .int .i64 k ∧ k ≤ m ∧ SW w (.slice L n c) (.slice T m d) (.slice L' n c') (.slice T' m d') wr) (fun i _ => m - (intOf i).toNat)
      case atStart => exact ⟨0, rfl, Nat.zero_le _, HS.out⟩
      case round =>
        obtain ⟨k2, rfl, hk2, hsw⟩ := hrel
        have HS2 := Lib.hid hsw
        clear hsw
        obtain ⟨W2, rfl⟩ : ∃ W : World, W = wr := ⟨wr, rfl⟩
        have b0 : W2.cell? ⟨w.heap.size, 1, none⟩ = some (.slice T m d) := by rw [cell_p HS2.out.b1]; rfl
        have b1 : W2.cell? ⟨w.heap.size + 1, 1, none⟩ = some (.slice T' m d') := by rw [cell_p HS2.out.b2]; rfl
        by_cases hlt2 : k2 < m
        · have hxl : k2 < x.takes.length := by have := HM.out; omega
          have hin := HIN.out.2.2.2 _ (List.getElem_mem hxl)
          obtain ⟨ad, hA, hcs⟩ := (TakesAt.below HS2.out.hb HT.out) (by intro e0; rw [e0] at hxl; simp at hxl)
          obtain ⟨ad', hA', hcs'⟩ := (TakesAt.below HS2.out.hb HT'.out) (by intro e0; rw [e0] at hxl; simp at hxl)
          subst hA
          subst hA'
          obtain ⟨Q1, pn, c1, g0, g1, g2, g3, hpn, hpl⟩ := hcs k2 _ (List.getElem?_eq_getElem hxl)
          obtain ⟨Q2, pn', c2, g0', g1', g2', g3', hpn', hpl'⟩ := hcs' k2 _ (List.getElem?_eq_getElem hxl)
          have hpe : pn' = pn := by omega
          subst hpe
          have hp1 : pn' ≤ 1000 := by have := hin.2.2.2.1; omega
          generalize x.takes[k2] = y at g0 g1 g2 g3 g0' g1' g2' g3' hpn hpl hpn' hpl'
          obtain ⟨sa, hsa, _⟩ := str8_ex y.acc
          obtain ⟨sb, hsb, _⟩ := str8_ex y.ccy
          rw [hsa] at g0 g0'
          rw [hsb] at g1 g1'
          have HP1 := Lib.hid (PlsAt.below (below_dr W2) hpl)
          have HP2 := Lib.hid (PlsAt.below (below_dr W2) hpl')
          have HPN := Lib.hid hpn
          generalize y.amount = am at g2 g2'
          have a1 : W2.cell? ⟨(ad.add (k2 * 4)).block, (ad.add (k2 * 4)).off + 1, none⟩ = some (.string sb) := by rw [← fld1, add_add]; exact g1
          have a2 : W2.cell? ⟨(ad.add (k2 * 4)).block, (ad.add (k2 * 4)).off + 2, none⟩ = some (.int .i64 am) := by rw [show (⟨(ad.add (k2 * 4)).block, (ad.add (k2 * 4)).off + 2, none⟩ : Addr) = (ad.add (k2 * 4)).add 2 from rfl, add_add]; exact g2
          have a3 : W2.cell? ⟨(ad.add (k2 * 4)).block, (ad.add (k2 * 4)).off + 3, none⟩ = some (.slice Q1 pn' c1) := by rw [show (⟨(ad.add (k2 * 4)).block, (ad.add (k2 * 4)).off + 3, none⟩ : Addr) = (ad.add (k2 * 4)).add 3 from rfl, add_add]; exact g3
          have d1 : W2.cell? ⟨(ad'.add (k2 * 4)).block, (ad'.add (k2 * 4)).off + 1, none⟩ = some (.string sb) := by rw [← fld1, add_add]; exact g1'
          have d2 : W2.cell? ⟨(ad'.add (k2 * 4)).block, (ad'.add (k2 * 4)).off + 2, none⟩ = some (.int .i64 am) := by rw [show (⟨(ad'.add (k2 * 4)).block, (ad'.add (k2 * 4)).off + 2, none⟩ : Addr) = (ad'.add (k2 * 4)).add 2 from rfl, add_add]; exact g2'
          have d3 : W2.cell? ⟨(ad'.add (k2 * 4)).block, (ad'.add (k2 * 4)).off + 3, none⟩ = some (.slice Q2 pn' c2) := by rw [show (⟨(ad'.add (k2 * 4)).block, (ad'.add (k2 * 4)).off + 3, none⟩ : Addr) = (ad'.add (k2 * 4)).add 3 from rfl, add_add]; exact g3'
          have hi0 : (0 : Int) ≤ k2 := by omega
          have hi1 : (k2 : Int) < m := by omega
          clear hcs hcs' g1 g2 g3 g1' g2' g3' hpn hpl hpn' hpl' hsa hsb hin
          go_wp2_with fail
          go_region_held3 (fun w' => w'.cell? ⟨w.heap.size, 1, none⟩ = some (.slice (some ad) m d) ∧ w'.cell? ⟨w.heap.size + 1, 1, none⟩ = some (.slice (some ad') m d') ∧
              w'.cell? (ad.add (k2 * 4)) = some (.string sa) ∧ w'.cell? ⟨(ad.add (k2 * 4)).block, (ad.add (k2 * 4)).off + 1, none⟩ = some (.string sb) ∧ w'.cell? ⟨(ad.add (k2 * 4)).block, (ad.add (k2 * 4)).off + 2, none⟩ = some (.int .i64 am) ∧ w'.cell? ⟨(ad.add (k2 * 4)).block, (ad.add (k2 * 4)).off + 3, none⟩ = some (.slice Q1 pn' c1) ∧
              w'.cell? (ad'.add (k2 * 4)) = some (.string sa) ∧ w'.cell? ⟨(ad'.add (k2 * 4)).block, (ad'.add (k2 * 4)).off + 1, none⟩ = some (.string sb) ∧ w'.cell? ⟨(ad'.add (k2 * 4)).block, (ad'.add (k2 * 4)).off + 2, none⟩ = some (.int .i64 am) ∧ w'.cell? ⟨(ad'.add (k2 * 4)).block, (ad'.add (k2 * 4)).off + 3, none⟩ = some (.slice Q2 pn' c2))
            (first
              | (go_split_ands
                 refine ⟨?_, ?_, ?_, ?_, ?_, ?_, ?_, ?_, ?_, ?_⟩
                 all_goals exact cell_below hb6 (by assumption))
              | go_keep)
            ((first
              | (go_at_call 44; refine (sameTk_any sa sb am Q1 Q2 pn' c1 c2 y.pl _ HP1.out HP2.out HPN.out hp1).mono ?_; rintro e w6 ⟨rfl, hb6⟩)))
          go_wp2_with fail
          go_roundw
          case rel => exact ⟨k2 + 1, by go_num, by omega, HS2.out.below ((below_dr W2).trans hb6)⟩
          case measure => simp [intOf]; omega
        · go_wp2_with fail
          refine bodyPost_ret (results_tmp rfl _ _ _) rfl ?_
          exact ⟨rfl, HS2.out.hb⟩
end Go.Proofs.YtgmbppfkkiobhaaGreat.Wire
