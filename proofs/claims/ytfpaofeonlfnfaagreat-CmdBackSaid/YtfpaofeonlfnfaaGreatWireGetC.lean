/- cmd.Get, cmd.GetReply. -/
import Derived.Test.YtfpaofeonlfnfaaGreatWireGet
namespace Go.Proofs.YtfpaofeonlfnfaaGreat.Wire
open Go Go.RowKit Go.Lib
theorem own_form {w : World} {base e size n : Nat} {v : Value} {xs : List Value} (h : w.ownsRow base e size v n xs) : ∃ A c, v = .slice A n c := by
  rcases h.2 with ⟨rfl, rfl⟩ | ⟨g, cap, cur, rfl, _⟩
  · exact ⟨none, 0, rfl⟩
  · exact ⟨_, cap, rfl⟩
theorem below_drewN' {B : Nat} {a w : World} (h : Below B a w) (n : Nat) : Below B a (w.drewN n) := ⟨h.os, h.tape, h.output, h.size, h.block⟩
theorem own_base {w : World} {base base' e size n : Nat} {v : Value} {xs : List Value} (h : w.ownsRow base e size v n xs) (hb : base' ≤ base) : w.ownsRow base' e size v n xs := by
  refine ⟨h.1, ?_⟩
  rcases h.2 with h1 | ⟨g, cap, cur, rfl, h1, h2⟩
  · exact .inl h1
  · exact .inr ⟨g, cap, cur, rfl, by omega, h2⟩
theorem set4 {w7 : World} {r : Nat} {x0 x1 x2 x3 : Value} {t : TypeId} (h : w7.heap[r]? = some (.cells #[x0, x1, x2, x3] t (0, 0))) (y0 y1 y2 y3 : Value) :
    ((((w7.setCell ⟨r, 0, none⟩ y0).setCell ⟨r, 1, none⟩ y1).setCell ⟨r, 2, none⟩ y2).setCell ⟨r, 3, none⟩ y3).heap[r]? = some (.cells #[y0, y1, y2, y3] t (0, 0)) :=
  Go.Lib.heap_setCell_same (i := 3) (Go.Lib.heap_setCell_same (i := 2) (Go.Lib.heap_setCell_same (i := 1) (Go.Lib.heap_setCell_same (i := 0) h y0) y1) y2) y3
theorem grown4 (w7 : World) (r : Nat) (y0 y1 y2 y3 : Value) : w7.grownBy ((((w7.setCell ⟨r, 0, none⟩ y0).setCell ⟨r, 1, none⟩ y1).setCell ⟨r, 2, none⟩ y2).setCell ⟨r, 3, none⟩ y3) (some r) :=
  (((grownBy_setCell w7 r 0 y0).trans (grownBy_setCell _ r 1 y1)).trans (grownBy_setCell _ r 2 y2)).trans (grownBy_setCell _ r 3 y3)
def cmd0 : Array Value := #[.int .i64 0, .string ⟨#[]⟩, .slice none 0 0, .slice none 0 0]
/-- Get's end. -/
def GetCPost (b : ByteArray) (w : World) (en : Ending) (w' : World) : Prop :=
  Below w.heap.size w w' ∧ ((rEnd (cmdR (bl b)).2 = 0 ∧ ∃ v1 v2 n1 n2, en = .returned (.tuple #[.agg #[.int .i64 (cmdR (bl b)).1.1.1, .string ⟨(cmdR (bl b)).1.1.2.toArray⟩, v1, v2], .int .i64 0]) ∧
      (cmdR (bl b)).1.2.1.length = n1 ∧ w'.ownsRow w.heap.size 3 1 v1 n1 (ints (cmdR (bl b)).1.2.1) ∧ (cmdR (bl b)).1.2.2.length = n2 ∧ w'.ownsRow w.heap.size 9 1 v2 n2 (strs (cmdR (bl b)).1.2.2)) ∨
    (rEnd (cmdR (bl b)).2 ≠ 0 ∧ en = .returned (.tuple #[.agg cmd0, .int .i64 (rEnd (cmdR (bl b)).2)])))
set_option maxRecDepth 20000 in
set_option maxHeartbeats 2000000 in
theorem getC_any (b : ByteArray) (w : World) (hb : b.size ≤ 1000000) : Calls Tryz.prog 21 #[.string b] w (GetCPost b w) := by
  go_enter Tryz.func21, Tryz.ntmps21
  go_wp2_with fail
  refine (newR_any b _ (by omega)).mono ?_
  rintro e w1 ⟨⟨p, rfl, hp, hR1⟩, hb1⟩
  have hp' : w.heap.size + 1 ≤ p := by simpa using hp
  have HP := Lib.hid hp'
  have HB1 : Hid (Below w.heap.size w w1) := Lib.hid (((Below.refl _ w).alloc (Nat.le_refl _) _).trans (hb1.mono (by simp)))
  have HRB1 : Hid (w1.heap[w.heap.size]? = some (.cells cmd0 65 (0, 0))) := Lib.hid (box_at hb1)
  have HR1 := Lib.hid hR1
  clear hp hp' hb1 hR1
  go_wp2_with fail
  refine (rNum_s p ⟨0, bl b⟩ b 0 _ HR1.out rfl (by omega) hb).mono ?_
  rintro e w2 ⟨rfl, hg2, at2, hat2, hR2, hl2⟩
  obtain ⟨kind, hkind⟩ : ∃ x, (rNum ⟨0, bl b⟩).1 = x := ⟨_, rfl⟩
  obtain ⟨s2, hs2⟩ : ∃ s, (rNum ⟨0, bl b⟩).2 = s := ⟨_, rfl⟩
  rw [hs2] at hR2 hl2
  rw [hkind]
  have HKIND := Lib.hid hkind
  have HS2 := Lib.hid hs2
  have HR2 := Lib.hid hR2
  have HL2 := Lib.hid hl2
  have HB2 : Hid (Below w.heap.size w w2) := Lib.hid (below_grown HB1.out hg2 HB1.out.size (by rintro g ⟨rfl⟩; have := HP.out; omega))
  have HRB2 := Lib.hid ((hg2.block _ (blk_lt HRB1.out) (by intro h; injection h with h; have := HP.out; omega)).trans HRB1.out)
  clear hkind hs2 hR2 hl2 hg2
  go_wp2_with fail
  refine (rText_s p s2 b at2 _ HR2.out HL2.out hat2 hb).mono ?_
  rintro e w3 ⟨rfl, hg3, at3, hat3, hR3, hl3⟩
  have hsz : (⟨(rText s2).1.toArray⟩ : ByteArray).size ≤ 281474976710656 := by
    have h1 := rText_len s2
    rw [HL2.out, bl_drop_len] at h1
    have h2 : (⟨(rText s2).1.toArray⟩ : ByteArray).size = (rText s2).1.length := by simp [ByteArray.size]
    rw [h2]
    omega
  obtain ⟨party, hparty⟩ : ∃ x : ByteArray, ⟨(rText s2).1.toArray⟩ = x := ⟨_, rfl⟩
  obtain ⟨s3, hs3⟩ : ∃ s, (rText s2).2 = s := ⟨_, rfl⟩
  rw [hs3] at hR3 hl3
  rw [hparty] at hsz ⊢
  have HPARTY := Lib.hid hparty
  have HSZ := Lib.hid hsz
  have HS3 := Lib.hid hs3
  have HR3 := Lib.hid hR3
  have HL3 := Lib.hid hl3
  have HB3 : Hid (Below w.heap.size w w3) := Lib.hid (below_grown HB2.out hg3 HB2.out.size (by rintro g ⟨rfl⟩; have := HP.out; omega))
  have HRB3 := Lib.hid ((hg3.block _ (blk_lt HRB2.out) (by intro h; injection h with h; have := HP.out; omega)).trans HRB2.out)
  clear hparty hsz hs3 hR3 hl3 hg3
  go_wp2_with fail
  refine (clone_any party _ HSZ.out).mono ?_
  rintro e w4 ⟨rfl, hb4⟩
  have HR4 := Lib.hid (HR3.out.grown (only_of_below hb4 none) (by simp))
  have HB4 : Hid (Below w.heap.size w w4) := Lib.hid (HB3.out.trans (hb4.mono HB3.out.size))
  have HRB4 := Lib.hid (((only_of_below hb4 none).block _ (blk_lt HRB3.out) (by simp)).trans HRB3.out)
  clear hb4
  go_wp2_with fail
  refine (get_any p s3 b at3 70 10 _ (HR4.out.alloc _) HL3.out hat3 hb (by decide) (by decide)).mono ?_
  rintro e w5 ⟨v1, v2, n1, n2, rfl, hg5, hn1, hown1, hn2, hown2, at5, hat5, hR5, hl5⟩
  obtain ⟨A1, k1, rfl⟩ := own_form hown1
  obtain ⟨A2, k2, rfl⟩ := own_form hown2
  have hpq : p ≠ w4.heap.size := by have := blk_lt HR4.out; omega
  have hQ5 : w5.heap[w4.heap.size]? = some (.cells #[.int .i64 kind, .string party, .slice none 0 0, .slice none 0 0] 65 (0, 0)) :=
    (hg5.block w4.heap.size (by simp) (by intro h; injection h with h; exact hpq h.symm)).trans (heap_alloc_new w4 _)
  have hrl := blk_lt HRB4.out
  have hRB5 : w5.heap[w.heap.size]? = some (.cells cmd0 65 (0, 0)) :=
    (hg5.block w.heap.size (by simp; omega) (by intro h; injection h with h; have := HP.out; omega)).trans ((Below.heap_alloc w4 _ _ hrl).trans HRB4.out)
  have hB5 : Below w.heap.size w w5 := below_grown (HB4.out.alloc HB4.out.size _) hg5 (by have := HB4.out.size; simp; omega) (by rintro g ⟨rfl⟩; have := HP.out; omega)
  have q2 : w5.cell? ⟨w4.heap.size, 2, none⟩ = some (.slice none 0 0) := by rw [cell_p hQ5]; rfl
  have q3 : w5.cell? ⟨w4.heap.size, 3, none⟩ = some (.slice none 0 0) := by rw [cell_p hQ5]; rfl
  have f2 : w5.frozen? ⟨w4.heap.size, 2, none⟩ = false := frozen_p hQ5
  have f3 : w5.frozen? ⟨w4.heap.size, 3, none⟩ = false := frozen_p hQ5
  have hsz4 : w.heap.size < w4.heap.size := hrl
  have hg6 : w5.grownBy ((w5.setCell ⟨w4.heap.size, 2, none⟩ (.slice A1 n1 k1)).setCell ⟨w4.heap.size, 3, none⟩ (.slice A2 n2 k2)) (some w4.heap.size) := (grownBy_setCell w5 w4.heap.size 2 _).trans (grownBy_setCell _ w4.heap.size 3 _)
  have hQ6 : ((w5.setCell ⟨w4.heap.size, 2, none⟩ (.slice A1 n1 k1)).setCell ⟨w4.heap.size, 3, none⟩ (.slice A2 n2 k2)).heap[w4.heap.size]? = some (.cells #[.int .i64 kind, .string party, .slice A1 n1 k1, .slice A2 n2 k2] 65 (0, 0)) :=
    Go.Lib.heap_setCell_same (i := 3) (Go.Lib.heap_setCell_same (i := 2) hQ5 _) _
  have hown16 := hown1.kept hg6 (.inr (own_ne hown1 hQ5 (by decide)))
  have hown26 := hown2.kept hg6 (.inr (own_ne hown2 hQ5 (by decide)))
  have hR6 := hR5.grown hg6 (by intro h; injection h with h; exact hpq h.symm)
  have hRB6 := (hg6.block w.heap.size (blk_lt hRB5) (by intro h; injection h with h; omega)).trans hRB5
  have hB6 := below_grown hB5 hg6 hB5.size (by rintro g ⟨rfl⟩; omega)
  have HQ6 := Lib.hid hQ6
  have HOW1 := Lib.hid hown16
  have HOW2 := Lib.hid hown26
  have HR6 := Lib.hid hR6
  have HRB6 := Lib.hid hRB6
  have HB6 := Lib.hid hB6
  have HN1 := Lib.hid hn1
  have HN2 := Lib.hid hn2
  have HL5 := Lib.hid hl5
  clear hg5 hn1 hown1 hn2 hown2 hR5 hl5 hpq hQ5 hRB5 hB5 hg6 hQ6 hown16 hown26 hR6 hRB6 hB6 hrl hsz4
  go_wp2_with fail
  generalize (w5.setCell ⟨w4.heap.size, 2, none⟩ (.slice A1 n1 k1)).setCell ⟨w4.heap.size, 3, none⟩ (.slice A2 n2 k2) = W6 at HQ6 HOW1 HOW2 HR6 HRB6 HB6 ⊢
  clear q2 q3 f2 f3
  have hc : cmdR (bl b) = (((kind, (rText s2).1), (rGet 70 10 s3).1), (rGet 70 10 s3).2) := by
    simp only [cmdR, HKIND.out, HS2.out, HS3.out]
  obtain ⟨E, hEE⟩ : ∃ E, rEnd (rGet 70 10 s3).2 = E := ⟨_, rfl⟩
  have hend := end_any p (rGet 70 10 s3).2.e b at5 W6 HR6.out hat5 hb
  rw [← HL5.out] at hend
  have hend2 : Calls Tryz.prog 102 #[.pointer (some ⟨p, 0, none⟩)] W6 fun en w' => en = .returned (.int .i64 E) ∧ ∃ n, w' = W6.drewN n := by rw [← hEE]; exact hend
  have HEND := Lib.hid hend2
  have HC := Lib.hid hc
  have HEE := Lib.hid hEE
  clear hend hend2 hc hEE
  refine HEND.out.mono ?_
  rintro e1 w7 ⟨rfl, n7, rfl⟩
  have r0 : W6.cell? ⟨w.heap.size, 0, none⟩ = some (.int .i64 0) := by rw [cell_p HRB6.out]; rfl
  have r1 : W6.cell? ⟨w.heap.size, 1, none⟩ = some (.string ⟨#[]⟩) := by rw [cell_p HRB6.out]; rfl
  have r2 : W6.cell? ⟨w.heap.size, 2, none⟩ = some (.slice none 0 0) := by rw [cell_p HRB6.out]; rfl
  have r3 : W6.cell? ⟨w.heap.size, 3, none⟩ = some (.slice none 0 0) := by rw [cell_p HRB6.out]; rfl
  have rf0 : W6.frozen? ⟨w.heap.size, 0, none⟩ = false := frozen_p HRB6.out
  have rf1 : W6.frozen? ⟨w.heap.size, 1, none⟩ = false := frozen_p HRB6.out
  have rf2 : W6.frozen? ⟨w.heap.size, 2, none⟩ = false := frozen_p HRB6.out
  have rf3 : W6.frozen? ⟨w.heap.size, 3, none⟩ = false := frozen_p HRB6.out
  by_cases hE : E = 0
  · subst hE
    have p0 : W6.cell? ⟨w4.heap.size, 0, none⟩ = some (.int .i64 kind) := by rw [cell_p HQ6.out]; rfl
    have p1 : W6.cell? ⟨w4.heap.size, 1, none⟩ = some (.string party) := by rw [cell_p HQ6.out]; rfl
    have p2 : W6.cell? ⟨w4.heap.size, 2, none⟩ = some (.slice A1 n1 k1) := by rw [cell_p HQ6.out]; rfl
    have p3 : W6.cell? ⟨w4.heap.size, 3, none⟩ = some (.slice A2 n2 k2) := by rw [cell_p HQ6.out]; rfl
    have h7 := set4 (w7 := W6.drewN n7) HRB6.out (.int .i64 kind) (.string party) (.slice A1 n1 k1) (.slice A2 n2 k2)
    have g7 := grown4 (W6.drewN n7) w.heap.size (.int .i64 kind) (.string party) (.slice A1 n1 k1) (.slice A2 n2 k2)
    have H7 := Lib.hid h7
    have G7 := Lib.hid g7
    clear h7 g7
    go_wp2_with fail
    generalize ((((W6.drewN n7).setCell ⟨w.heap.size, 0, none⟩ (.int .i64 kind)).setCell ⟨w.heap.size, 1, none⟩ (.string party)).setCell ⟨w.heap.size, 2, none⟩ (.slice A1 n1 k1)).setCell ⟨w.heap.size, 3, none⟩ (.slice A2 n2 k2) = W7 at H7 G7 ⊢
    have e0 : W7.cell? ⟨w.heap.size, 0, none⟩ = some (.int .i64 kind) := by rw [cell_p H7.out]; rfl
    have e1 : W7.cell? ⟨w.heap.size, 1, none⟩ = some (.string party) := by rw [cell_p H7.out]; rfl
    have e2 : W7.cell? ⟨w.heap.size, 2, none⟩ = some (.slice A1 n1 k1) := by rw [cell_p H7.out]; rfl
    have e3 : W7.cell? ⟨w.heap.size, 3, none⟩ = some (.slice A2 n2 k2) := by rw [cell_p H7.out]; rfl
    refine bodyPost_ret (v := .tuple #[.agg #[.int .i64 kind, .string party, .slice A1 n1 k1, .slice A2 n2 k2], .int .i64 0]) (by simp [results, Tryz.results21, go_sem, e0, e1, e2, e3]) rfl ?_
    have hbs := HB4.out.size
    refine ⟨below_grown (below_drewN' HB6.out n7) G7.out HB6.out.size (by rintro g ⟨rfl⟩; exact Nat.le_refl _), .inl ⟨by rw [HC.out]; exact HEE.out, .slice A1 n1 k1, .slice A2 n2 k2, n1, n2, by rw [HC.out, HPARTY.out], by rw [HC.out]; exact HN1.out, ?_, by rw [HC.out]; exact HN2.out, ?_⟩⟩
    · rw [HC.out]
      exact (show (W6.drewN n7).ownsRow w.heap.size _ _ _ _ _ from own_base HOW1.out (by simp; omega)).kept G7.out (.inr (own_ne HOW1.out HRB6.out (by decide)))
    · rw [HC.out]
      exact (show (W6.drewN n7).ownsRow w.heap.size _ _ _ _ _ from own_base HOW2.out (by simp; omega)).kept G7.out (.inr (own_ne HOW2.out HRB6.out (by decide)))
  · have hb1 : (E == 0) = false := by simpa using hE
    have hb2 : (E != 0) = true := by simpa using hE
    have HE := Lib.hid hE
    clear hE
    have h7 := set4 (w7 := W6.drewN n7) HRB6.out (.int .i64 0) (.string ⟨#[]⟩) (.slice none 0 0) (.slice none 0 0)
    have g7 := grown4 (W6.drewN n7) w.heap.size (.int .i64 0) (.string ⟨#[]⟩) (.slice none 0 0) (.slice none 0 0)
    have H7 := Lib.hid h7
    have G7 := Lib.hid g7
    clear h7 g7
    go_wp2_with fail
    generalize ((((W6.drewN n7).setCell ⟨w.heap.size, 0, none⟩ (.int .i64 0)).setCell ⟨w.heap.size, 1, none⟩ (.string ⟨#[]⟩)).setCell ⟨w.heap.size, 2, none⟩ (.slice none 0 0)).setCell ⟨w.heap.size, 3, none⟩ (.slice none 0 0) = W7 at H7 G7 ⊢
    have e0 : W7.cell? ⟨w.heap.size, 0, none⟩ = some (.int .i64 0) := by rw [cell_p H7.out]; rfl
    have e1 : W7.cell? ⟨w.heap.size, 1, none⟩ = some (.string ⟨#[]⟩) := by rw [cell_p H7.out]; rfl
    have e2 : W7.cell? ⟨w.heap.size, 2, none⟩ = some (.slice none 0 0) := by rw [cell_p H7.out]; rfl
    have e3 : W7.cell? ⟨w.heap.size, 3, none⟩ = some (.slice none 0 0) := by rw [cell_p H7.out]; rfl
    refine bodyPost_ret (v := .tuple #[.agg cmd0, .int .i64 E]) (by simp [results, Tryz.results21, go_sem, e0, e1, e2, e3, cmd0]) rfl ?_
    exact ⟨below_grown (below_drewN' HB6.out n7) G7.out HB6.out.size (by rintro g ⟨rfl⟩; exact Nat.le_refl _), .inr ⟨by rw [HC.out]; show rEnd (rGet 70 10 s3).2 ≠ 0; rw [HEE.out]; exact HE.out, by rw [HC.out]; show _ = Ending.returned (.tuple #[.agg cmd0, .int .i64 (rEnd (rGet 70 10 s3).2)]); rw [HEE.out]⟩⟩
end Go.Proofs.YtfpaofeonlfnfaaGreat.Wire
