/- cmd.GetReply. -/
import Derived.Test.YthlpdficpmdebaaGreatJ9
import Derived.Test.YthlpdficpmdebaaGreatJ1
namespace Go.Proofs.YthlpdficpmdebaaGreat.Wire
open Go Go.RowKit Go.Lib
/-- GetReply's end. -/
def GetRPost (b : ByteArray) (w : World) (en : Ending) (w' : World) : Prop :=
  Below w.heap.size w w' ∧ ((rEnd (repR (bl b)).2 = 0 ∧ ∃ v1 v2 n1 n2, en = .returned (.tuple #[.agg #[.int .i64 (repR (bl b)).1.1, v1, v2], .int .i64 0]) ∧
      (repR (bl b)).1.2.1.length = n1 ∧ w'.ownsRow w.heap.size 3 1 v1 n1 (ints (repR (bl b)).1.2.1) ∧ (repR (bl b)).1.2.2.length = n2 ∧ w'.ownsRow w.heap.size 9 1 v2 n2 (strs (repR (bl b)).1.2.2)) ∨
    (rEnd (repR (bl b)).2 ≠ 0 ∧ en = .returned (.tuple #[.agg rep0, .int .i64 (rEnd (repR (bl b)).2)])))
set_option maxRecDepth 20000 in
set_option maxHeartbeats 2000000 in
theorem getR_any (b : ByteArray) (w : World) (hb : b.size ≤ 1000000000000) : Calls Tryz.prog 22 #[.string b] w (GetRPost b w) := by
  go_enter Tryz.func22, Tryz.ntmps22
  go_wp2_with fail
  refine (newR_any b _ (by omega)).mono ?_
  rintro e w1 ⟨⟨p, rfl, hp, hR1⟩, hb1⟩
  have hp' : w.heap.size + 1 ≤ p := by simpa using hp
  have HP := Lib.hid hp'
  have HB1 : Hid (Below w.heap.size w w1) := Lib.hid (((Below.refl _ w).alloc (Nat.le_refl _) _).trans (hb1.mono (by simp)))
  have HRB1 : Hid (w1.heap[w.heap.size]? = some (.cells rep0 28 (0, 0))) := Lib.hid (box_at hb1)
  have HR1 := Lib.hid hR1
  clear hp hp' hb1 hR1
  go_wp2_with fail
  refine (rNum_s p ⟨0, bl b⟩ b 0 _ HR1.out rfl (by omega) hb).mono ?_
  rintro e w2 ⟨rfl, hg2, at2, hat2, hR2, hl2⟩
  obtain ⟨kind, hkind⟩ : ∃ x, (rNum ⟨0, bl b⟩).1 = x := ⟨_, rfl⟩
  obtain ⟨s2, hs2⟩ : ∃ s, (rNum ⟨0, bl b⟩).2 = s := ⟨_, rfl⟩
  rw [hs2] at hR2 hl2
  rw [hkind]
  have HKIND := Lib.hid hkind
  have HS2 := Lib.hid hs2
  have HR2 := Lib.hid hR2
  have HL2 := Lib.hid hl2
  have HB2 : Hid (Below w.heap.size w w2) := Lib.hid (below_grown HB1.out hg2 HB1.out.size (by rintro g ⟨rfl⟩; have := HP.out; omega))
  have HRB2 := Lib.hid ((hg2.block _ (blk_lt HRB1.out) (by intro h; injection h with h; have := HP.out; omega)).trans HRB1.out)
  clear hkind hs2 hR2 hl2 hg2
  go_wp2_with fail
  refine (get_any p s2 b at2 2000 100 _ (HR2.out.alloc _) HL2.out hat2 hb (by decide) (by decide)).mono ?_
  rintro e w5 ⟨v1, v2, n1, n2, rfl, hg5, hn1, hown1, hn2, hown2, at5, hat5, hR5, hl5⟩
  obtain ⟨A1, k1, rfl⟩ := own_form hown1
  obtain ⟨A2, k2, rfl⟩ := own_form hown2
  have hpq : p ≠ w2.heap.size := by have := blk_lt HR2.out; omega
  have hQ5 : w5.heap[w2.heap.size]? = some (.cells #[.int .i64 kind, .slice none 0 0, .slice none 0 0] 28 (0, 0)) :=
    (hg5.block w2.heap.size (by simp) (by intro h; injection h with h; exact hpq h.symm)).trans (heap_alloc_new w2 _)
  have hrl := blk_lt HRB2.out
  have hRB5 : w5.heap[w.heap.size]? = some (.cells rep0 28 (0, 0)) :=
    (hg5.block w.heap.size (by simp; omega) (by intro h; injection h with h; have := HP.out; omega)).trans ((Below.heap_alloc w2 _ _ hrl).trans HRB2.out)
  have hB5 : Below w.heap.size w w5 := below_grown (HB2.out.alloc HB2.out.size _) hg5 (by have := HB2.out.size; simp; omega) (by rintro g ⟨rfl⟩; have := HP.out; omega)
  have q2 : w5.cell? ⟨w2.heap.size, 1, none⟩ = some (.slice none 0 0) := by rw [cell_p hQ5]; rfl
  have q3 : w5.cell? ⟨w2.heap.size, 2, none⟩ = some (.slice none 0 0) := by rw [cell_p hQ5]; rfl
  have f2 : w5.frozen? ⟨w2.heap.size, 1, none⟩ = false := frozen_p hQ5
  have f3 : w5.frozen? ⟨w2.heap.size, 2, none⟩ = false := frozen_p hQ5
  have hsz4 : w.heap.size < w2.heap.size := hrl
  have hg6 : w5.grownBy ((w5.setCell ⟨w2.heap.size, 1, none⟩ (.slice A1 n1 k1)).setCell ⟨w2.heap.size, 2, none⟩ (.slice A2 n2 k2)) (some w2.heap.size) := (grownBy_setCell w5 w2.heap.size 1 _).trans (grownBy_setCell _ w2.heap.size 2 _)
  have hQ6 : ((w5.setCell ⟨w2.heap.size, 1, none⟩ (.slice A1 n1 k1)).setCell ⟨w2.heap.size, 2, none⟩ (.slice A2 n2 k2)).heap[w2.heap.size]? = some (.cells #[.int .i64 kind, .slice A1 n1 k1, .slice A2 n2 k2] 28 (0, 0)) :=
    Go.Lib.heap_setCell_same (i := 2) (Go.Lib.heap_setCell_same (i := 1) hQ5 _) _
  have hown16 := hown1.kept hg6 (.inr (own_ne hown1 hQ5 (by decide)))
  have hown26 := hown2.kept hg6 (.inr (own_ne hown2 hQ5 (by decide)))
  have hR6 := hR5.grown hg6 (by intro h; injection h with h; exact hpq h.symm)
  have hRB6 := (hg6.block w.heap.size (blk_lt hRB5) (by intro h; injection h with h; omega)).trans hRB5
  have hB6 := below_grown hB5 hg6 hB5.size (by rintro g ⟨rfl⟩; omega)
  have HQ6 := Lib.hid hQ6
  have HOW1 := Lib.hid hown16
  have HOW2 := Lib.hid hown26
  have HR6 := Lib.hid hR6
  have HRB6 := Lib.hid hRB6
  have HB6 := Lib.hid hB6
  have HN1 := Lib.hid hn1
  have HN2 := Lib.hid hn2
  have HL5 := Lib.hid hl5
  clear hg5 hn1 hown1 hn2 hown2 hR5 hl5 hpq hQ5 hRB5 hB5 hg6 hQ6 hown16 hown26 hR6 hRB6 hB6 hrl hsz4
  go_wp2_with fail
  generalize (w5.setCell ⟨w2.heap.size, 1, none⟩ (.slice A1 n1 k1)).setCell ⟨w2.heap.size, 2, none⟩ (.slice A2 n2 k2) = W6 at HQ6 HOW1 HOW2 HR6 HRB6 HB6 ⊢
  clear q2 q3 f2 f3
  have hc : repR (bl b) = ((kind, (rGet 2000 100 s2).1), (rGet 2000 100 s2).2) := by
    simp only [repR, HKIND.out, HS2.out]
  obtain ⟨E, hEE⟩ : ∃ E, rEnd (rGet 2000 100 s2).2 = E := ⟨_, rfl⟩
  have hend := end_any p (rGet 2000 100 s2).2.e b at5 W6 HR6.out hat5 hb
  rw [← HL5.out] at hend
  have hend2 : Calls Tryz.prog 44 #[.pointer (some ⟨p, 0, none⟩)] W6 fun en w' => en = .returned (.int .i64 E) ∧ ∃ n, w' = W6.drewN n := by rw [← hEE]; exact hend
  have HEND := Lib.hid hend2
  have HC := Lib.hid hc
  have HEE := Lib.hid hEE
  clear hend hend2 hc hEE
  refine HEND.out.mono ?_
  rintro e1 w7 ⟨rfl, n7, rfl⟩
  have r0 : W6.cell? ⟨w.heap.size, 0, none⟩ = some (.int .i64 0) := by rw [cell_p HRB6.out]; rfl
  have r1 : W6.cell? ⟨w.heap.size, 1, none⟩ = some (.slice none 0 0) := by rw [cell_p HRB6.out]; rfl
  have r2 : W6.cell? ⟨w.heap.size, 2, none⟩ = some (.slice none 0 0) := by rw [cell_p HRB6.out]; rfl
  have rf0 : W6.frozen? ⟨w.heap.size, 0, none⟩ = false := frozen_p HRB6.out
  have rf1 : W6.frozen? ⟨w.heap.size, 1, none⟩ = false := frozen_p HRB6.out
  have rf2 : W6.frozen? ⟨w.heap.size, 2, none⟩ = false := frozen_p HRB6.out
  by_cases hE : E = 0
  · subst hE
    have p0 : W6.cell? ⟨w2.heap.size, 0, none⟩ = some (.int .i64 kind) := by rw [cell_p HQ6.out]; rfl
    have p1 : W6.cell? ⟨w2.heap.size, 1, none⟩ = some (.slice A1 n1 k1) := by rw [cell_p HQ6.out]; rfl
    have p2 : W6.cell? ⟨w2.heap.size, 2, none⟩ = some (.slice A2 n2 k2) := by rw [cell_p HQ6.out]; rfl
    have h7 := set3 (w7 := W6.drewN n7) HRB6.out (.int .i64 kind) (.slice A1 n1 k1) (.slice A2 n2 k2)
    have g7 := grown3 (W6.drewN n7) w.heap.size (.int .i64 kind) (.slice A1 n1 k1) (.slice A2 n2 k2)
    have H7 := Lib.hid h7
    have G7 := Lib.hid g7
    clear h7 g7
    go_wp2_with fail
    generalize (((W6.drewN n7).setCell ⟨w.heap.size, 0, none⟩ (.int .i64 kind)).setCell ⟨w.heap.size, 1, none⟩ (.slice A1 n1 k1)).setCell ⟨w.heap.size, 2, none⟩ (.slice A2 n2 k2) = W7 at H7 G7 ⊢
    have e0 : W7.cell? ⟨w.heap.size, 0, none⟩ = some (.int .i64 kind) := by rw [cell_p H7.out]; rfl
    have e1 : W7.cell? ⟨w.heap.size, 1, none⟩ = some (.slice A1 n1 k1) := by rw [cell_p H7.out]; rfl
    have e2 : W7.cell? ⟨w.heap.size, 2, none⟩ = some (.slice A2 n2 k2) := by rw [cell_p H7.out]; rfl
    refine bodyPost_ret (v := .tuple #[.agg #[.int .i64 kind, .slice A1 n1 k1, .slice A2 n2 k2], .int .i64 0]) (by simp [results, Tryz.results22, go_sem, e0, e1, e2]) rfl ?_
    have hbs := HB2.out.size
    refine ⟨below_grown (below_drewN' HB6.out n7) G7.out HB6.out.size (by rintro g ⟨rfl⟩; exact Nat.le_refl _), .inl ⟨by rw [HC.out]; exact HEE.out, .slice A1 n1 k1, .slice A2 n2 k2, n1, n2, by rw [HC.out], by rw [HC.out]; exact HN1.out, ?_, by rw [HC.out]; exact HN2.out, ?_⟩⟩
    · rw [HC.out]
      exact (show (W6.drewN n7).ownsRow w.heap.size _ _ _ _ _ from own_base HOW1.out (by simp; omega)).kept G7.out (.inr (own_ne HOW1.out HRB6.out (by decide)))
    · rw [HC.out]
      exact (show (W6.drewN n7).ownsRow w.heap.size _ _ _ _ _ from own_base HOW2.out (by simp; omega)).kept G7.out (.inr (own_ne HOW2.out HRB6.out (by decide)))
  · have hb1 : (E == 0) = false := by simpa using hE
    have hb2 : (E != 0) = true := by simpa using hE
    have HE := Lib.hid hE
    clear hE
    have h7 := set3 (w7 := W6.drewN n7) HRB6.out (.int .i64 0) (.slice none 0 0) (.slice none 0 0)
    have g7 := grown3 (W6.drewN n7) w.heap.size (.int .i64 0) (.slice none 0 0) (.slice none 0 0)
    have H7 := Lib.hid h7
    have G7 := Lib.hid g7
    clear h7 g7
    go_wp2_with fail
    generalize (((W6.drewN n7).setCell ⟨w.heap.size, 0, none⟩ (.int .i64 0)).setCell ⟨w.heap.size, 1, none⟩ (.slice none 0 0)).setCell ⟨w.heap.size, 2, none⟩ (.slice none 0 0) = W7 at H7 G7 ⊢
    have e0 : W7.cell? ⟨w.heap.size, 0, none⟩ = some (.int .i64 0) := by rw [cell_p H7.out]; rfl
    have e1 : W7.cell? ⟨w.heap.size, 1, none⟩ = some (.slice none 0 0) := by rw [cell_p H7.out]; rfl
    have e2 : W7.cell? ⟨w.heap.size, 2, none⟩ = some (.slice none 0 0) := by rw [cell_p H7.out]; rfl
    refine bodyPost_ret (v := .tuple #[.agg rep0, .int .i64 E]) (by simp [results, Tryz.results22, go_sem, e0, e1, e2, rep0]) rfl ?_
    exact ⟨below_grown (below_drewN' HB6.out n7) G7.out HB6.out.size (by rintro g ⟨rfl⟩; exact Nat.le_refl _), .inr ⟨by rw [HC.out]; show rEnd (rGet 2000 100 s2).2 ≠ 0; rw [HEE.out]; exact HE.out, by rw [HC.out]; show _ = Ending.returned (.tuple #[.agg rep0, .int .i64 (rEnd (rGet 2000 100 s2).2)]); rw [HEE.out]⟩⟩
end Go.Proofs.YthlpdficpmdebaaGreat.Wire
/- complinebook.Room. -/
namespace Go.Proofs.YthlpdficpmdebaaGreat.Wire
open Go Go.RowKit Go.Lib
def SomeInt (w : World) (en : Ending) (w' : World) : Prop := (∃ r : Int, en = .returned (.int .i64 r)) ∧ w = w'
set_option maxRecDepth 20000 in
set_option maxHeartbeats 1000000 in
theorem room_any (left : Int) (A : Option Addr) (n c : Nat) (xs : List Int) (w : World) (hx : IntsAt w A xs) (hn : xs.length = n) (hn2 : n ≤ 1000000) :
    Calls Tryz.prog 28 #[.int .i64 left, .slice A n c] w (SomeInt w) := by
  have HX := Lib.hid hx
  have HNN := Lib.hid hn
  clear hx hn
  go_enter Tryz.func28, Tryz.ntmps28
  go_wp2_with fail
  go_loop [0, 5] (fun l i => ∃ (a : Int) (k : Nat), l = .int .i64 a ∧ i = .int .i64 k ∧ k ≤ n) (fun _ i => n - (intOf i).toNat)
  case atStart => exact ⟨left, 0, rfl, rfl, Nat.zero_le _⟩
  case round =>
    obtain ⟨a, k, rfl, rfl, hk⟩ := hrel
    by_cases hlt : k < n
    · have hxl : k < xs.length := by have := HNN.out; omega
      obtain ⟨ad, hA, hcs⟩ := HX.out (by intro e0; rw [e0] at hxl; simp at hxl)
      subst hA
      have hcell : w.cell? (ad.add k) = some (.int .i64 xs[k]) := hcs k _ (List.getElem?_eq_getElem hxl)
      generalize xs[k] = x at hcell
      clear hcs
      go_wp2_with fail
      case roundEnd =>
        go_round
        case rel => exact ⟨_, k + 1, rfl, by go_num, by omega⟩
        case measure => simp [intOf]; omega
      all_goals
        refine bodyPost_ret (results_tmp rfl _ _ _) rfl ?_
        exact ⟨⟨_, rfl⟩, rfl⟩
    · go_wp2_with fail
      refine bodyPost_ret (results_tmp rfl _ _ _) rfl ?_
      exact ⟨⟨_, rfl⟩, rfl⟩
end Go.Proofs.YthlpdficpmdebaaGreat.Wire
/- The law's own helpers: SameInts, SameTexts. -/
namespace Go.Proofs.YthlpdficpmdebaaGreat.Wire
open Go Go.RowKit Go.Lib
theorem IntsAt.own {w : World} {base n c : Nat} {A : Option Addr} {xs : List Int} (h : w.ownsRow base 3 1 (.slice A n c) n (ints xs)) : IntsAt w A xs := by
  intro hne
  rcases h.2 with ⟨hv, rfl⟩ | ⟨g, cap, cur, hv, _⟩
  · exfalso
    have := h.1
    simp [ints] at this
    exact hne this
  · injection hv with hA
    subst hA
    exact ⟨_, rfl, fun j x hx => h.cells (g := g) rfl j _ (by simp [ints, hx])⟩
theorem bal (l : List UInt8) : (⟨l.toArray⟩ : ByteArray) = ⟨l.toArray⟩ := rfl
def bas (xs : List (List UInt8)) : List ByteArray := xs.map fun l => ⟨l.toArray⟩
theorem TextsAt.own {w : World} {base n c : Nat} {A : Option Addr} {xs : List (List UInt8)} (h : w.ownsRow base 9 1 (.slice A n c) n (strs xs)) : TextsAt w A (bas xs) := by
  intro hne
  rcases h.2 with ⟨hv, rfl⟩ | ⟨g, cap, cur, hv, _⟩
  · exfalso
    have := h.1
    simp [strs] at this
    exact hne (by simp [bas, this])
  · injection hv with hA
    subst hA
    refine ⟨_, rfl, fun j x hx => h.cells (g := g) rfl j _ ?_⟩
    simp only [bas, List.getElem?_map, Option.map_eq_some_iff] at hx
    obtain ⟨l, hl, rfl⟩ := hx
    simp [strs, hl]
set_option maxRecDepth 20000 in
set_option maxHeartbeats 1000000 in
theorem sameInts_any (A A' : Option Addr) (n c c' : Nat) (xs : List Int) (w : World) (hx : IntsAt w A xs) (hx' : IntsAt w A' xs) (hn : xs.length = n) (hn2 : n ≤ 1000000) :
    Calls Tryz.prog 49 #[.slice A n c, .slice A' n c'] w fun en w' => en = .returned (.bool true) ∧ ∃ m, w' = w.drewN m := by
  have HX := Lib.hid hx
  have HX' := Lib.hid hx'
  have HNN := Lib.hid hn
  clear hx hx' hn
  go_enter Tryz.func49, Tryz.ntmps49
  go_wp2_with fail
  go_loopw [5] (fun i wr => ∃ (k m : Nat), i = .int .i64 k ∧ k ≤ n ∧ wr = w.drewN m) (fun i _ => n - (intOf i).toNat)
  case atStart => exact ⟨0, 0, rfl, Nat.zero_le _, rfl⟩
  case round =>
    obtain ⟨k, m, rfl, hk, rfl⟩ := hrel
    by_cases hlt : k < n
    · have hxl : k < xs.length := by have := HNN.out; omega
      obtain ⟨ad, hA, hcs⟩ := HX.out (by intro e0; rw [e0] at hxl; simp at hxl)
      obtain ⟨ad', hA', hcs'⟩ := HX'.out (by intro e0; rw [e0] at hxl; simp at hxl)
      subst hA
      subst hA'
      have hcell : w.cell? (ad.add k) = some (.int .i64 xs[k]) := hcs k _ (List.getElem?_eq_getElem hxl)
      have hcell' : w.cell? (ad'.add k) = some (.int .i64 xs[k]) := hcs' k _ (List.getElem?_eq_getElem hxl)
      generalize xs[k] = x at hcell hcell'
      clear hcs hcs'
      go_wp2_with fail
      go_quiet (fail)
      go_wp2_with fail
      go_roundw
      case rel => exact ⟨k + 1, _, by go_num, by omega, rfl⟩
      case measure => simp [intOf]; omega
    · go_wp2_with fail
      refine bodyPost_ret (results_tmp rfl _ _ _) rfl ?_
      exact ⟨rfl, _, rfl⟩
set_option maxRecDepth 20000 in
set_option maxHeartbeats 1000000 in
theorem sameTexts_any (A A' : Option Addr) (n c c' : Nat) (xs : List ByteArray) (w : World) (hx : TextsAt w A xs) (hx' : TextsAt w A' xs) (hn : xs.length = n) (hn2 : n ≤ 1000000) :
    Calls Tryz.prog 50 #[.slice A n c, .slice A' n c'] w fun en w' => en = .returned (.bool true) ∧ ∃ m, w' = w.drewN m := by
  have HX := Lib.hid hx
  have HX' := Lib.hid hx'
  have HNN := Lib.hid hn
  clear hx hx' hn
  go_enter Tryz.func50, Tryz.ntmps50
  go_wp2_with fail
  go_loopw [5] (fun i wr => ∃ (k m : Nat), i = .int .i64 k ∧ k ≤ n ∧ wr = w.drewN m) (fun i _ => n - (intOf i).toNat)
  case atStart => exact ⟨0, 0, rfl, Nat.zero_le _, rfl⟩
  case round =>
    obtain ⟨k, m, rfl, hk, rfl⟩ := hrel
    by_cases hlt : k < n
    · have hxl : k < xs.length := by have := HNN.out; omega
      obtain ⟨ad, hA, hcs⟩ := HX.out (by intro e0; rw [e0] at hxl; simp at hxl)
      obtain ⟨ad', hA', hcs'⟩ := HX'.out (by intro e0; rw [e0] at hxl; simp at hxl)
      subst hA
      subst hA'
      have hcell : w.cell? (ad.add k) = some (.string xs[k]) := hcs k _ (List.getElem?_eq_getElem hxl)
      have hcell' : w.cell? (ad'.add k) = some (.string xs[k]) := hcs' k _ (List.getElem?_eq_getElem hxl)
      generalize xs[k] = x at hcell hcell'
      clear hcs hcs'
      go_wp2_with fail
      go_quiet (fail)
      go_wp2_with fail
      go_roundw
      case rel => exact ⟨k + 1, _, by go_num, by omega, rfl⟩
      case measure => simp [intOf]; omega
    · go_wp2_with fail
      refine bodyPost_ret (results_tmp rfl _ _ _) rfl ?_
      exact ⟨rfl, _, rfl⟩
end Go.Proofs.YthlpdficpmdebaaGreat.Wire
