/- complineref28.Get, GetReply: the document's reading of a command and of a reply. -/
import Derived.Test.YthlpdficpmdebaaGreatByRead
namespace Go.Proofs.YthlpdficpmdebaaGreat.Wire
open Go Go.RowKit Go.Lib
structure GDs (w : World) (t : TypeId) (c0 cs : Array Value) (s : RS) (wr : World) : Prop where
  b : Below w.heap.size w wr
  r : wr.heap[w.heap.size]? = some (.cells c0 t (0, 0))
  rd : RR (w.heap.size + 1) s wr
  q : wr.heap[w.heap.size + 2]? = some (.cells cs t (0, 0))
section
variable {w wr w' : World} {t : TypeId} {c0 cs : Array Value} {s s' : RS}
theorem GDs.read (h : GDs w t c0 cs s wr) (hg : wr.grownBy w' (some (w.heap.size + 1))) (hR : RR (w.heap.size + 1) s' w') : GDs w t c0 cs s' w' :=
  ⟨below_grown h.b hg h.b.size (by rintro g ⟨rfl⟩; omega), (hg.block _ (blk_lt h.r) (by intro e; injection e with e; omega)).trans h.r, hR, (hg.block _ (blk_lt h.q) (by intro e; injection e with e; omega)).trans h.q⟩
theorem GDs.put (h : GDs w t c0 cs s wr) (i : Nat) (u : Value) : GDs w t c0 (cs.setIfInBounds i u) s (wr.setCell ⟨w.heap.size + 2, i, none⟩ u) :=
  have hg := grownBy_setCell wr (w.heap.size + 2) i u
  ⟨below_grown h.b hg h.b.size (by rintro g ⟨rfl⟩; omega), (hg.block _ (blk_lt h.r) (by intro e; injection e with e; omega)).trans h.r, h.rd.keep hg (by intro e; injection e with e; omega), Go.Lib.heap_setCell_same (i := i) h.q u⟩
theorem GDs.start (b : ByteArray) (hb : b.size ≤ 1000000000000) (o0 o1 o2 : Obj) (e0 : o0 = .cells c0 t (0, 0)) (e1 : o1 = .cells #[.string b, .int .i64 0] 108 (0, 0)) (e2 : o2 = .cells c0 t (0, 0)) :
    GDs w t c0 c0 ⟨0, bl b⟩ (((w.alloc o0).alloc o1).alloc o2) := by
  subst e0 e1 e2
  refine ⟨(((Below.refl _ w).alloc (Nat.le_refl _) _).alloc (by simp) _).alloc (by simp; omega) _, ?_, ⟨b, ?_, rfl, by rw [bl_len]; exact hb⟩, ?_⟩
  · exact (Below.heap_alloc _ _ _ (by simp; omega)).trans ((Below.heap_alloc _ _ _ (by simp)).trans (heap_alloc_new w _))
  · have h := heap_alloc_new (w.alloc (.cells c0 t (0, 0))) (.cells #[.string b, .int .i64 0] 108 (0, 0))
    exact (Below.heap_alloc _ _ _ (by simp)).trans (by simpa using h)
  · have h := heap_alloc_new ((w.alloc (.cells c0 t (0, 0))).alloc (.cells #[.string b, .int .i64 0] 108 (0, 0))) (.cells c0 t (0, 0))
    simpa using h
end
set_option maxRecDepth 20000 in
set_option maxHeartbeats 2000000 in
theorem getDC_any (b : ByteArray) (w : World) (hb : b.size ≤ 1000000000000) : Calls Tryz.prog 12 #[.string b] w (GetCPost b w) := by
  have HB := Lib.hid hb
  clear hb
  go_enter Tryz.func12, Tryz.ntmps12
  go_wp2_with fail
  have hs := GDs.start (w := w) (t := 37) (c0 := cmd0) b HB.out _ _ _ rfl rfl rfl
  unfold cmd0 at hs
  obtain ⟨W0, hW0⟩ : ∃ W0, ((w.alloc (.cells #[.int .i64 0, .string ⟨#[]⟩, .slice none 0 0, .slice none 0 0] 37)).alloc (.cells #[.string b, .int .i64 0] 108)).alloc (.cells #[.int .i64 0, .string ⟨#[]⟩, .slice none 0 0, .slice none 0 0] 37) = W0 := ⟨_, rfl⟩
  have hs1 : GDs w 37 cmd0 cmd0 ⟨0, bl b⟩ W0 := by rw [← hW0]; exact hs
  rw [hW0]
  have HS0 := Lib.hid hs1
  clear hs hs1 hW0
  refine HS0.out.rd.num.mono ?_
  rintro e w1 ⟨rfl, hg1, hR1⟩
  have HS1 := Lib.hid (HS0.out.read hg1 hR1)
  obtain ⟨kind, hkind⟩ : ∃ x, (rNum ⟨0, bl b⟩).1 = x := ⟨_, rfl⟩
  obtain ⟨s2, hs2⟩ : ∃ s, (rNum ⟨0, bl b⟩).2 = s := ⟨_, rfl⟩
  rw [hs2] at HS1
  rw [hkind]
  have HKIND := Lib.hid hkind
  have HS2 := Lib.hid hs2
  have q0 : w1.cell? ⟨w.heap.size + 2, 0, none⟩ = some (.int .i64 0) := by rw [cell_p HS1.out.q]; rfl
  have f0 : w1.frozen? ⟨w.heap.size + 2, 0, none⟩ = false := frozen_p HS1.out.q
  have HP1 := Lib.hid (HS1.out.put 0 (.int .i64 kind))
  clear hg1 hR1 hkind hs2 HS0
  go_wp2_with fail
  generalize w1.setCell ⟨w.heap.size + 2, 0, none⟩ (.int .i64 kind) = W1 at HP1 ⊢
  clear q0 f0
  refine HP1.out.rd.text.mono ?_
  rintro e w2 ⟨rfl, hg2, hR2⟩
  have HT1 := Lib.hid (HP1.out.read hg2 hR2)
  obtain ⟨party, hparty⟩ : ∃ x : ByteArray, ⟨(rText s2).1.toArray⟩ = x := ⟨_, rfl⟩
  obtain ⟨s3, hs3⟩ : ∃ s, (rText s2).2 = s := ⟨_, rfl⟩
  rw [hs3] at HT1
  rw [hparty]
  have HPARTY := Lib.hid hparty
  have HS3 := Lib.hid hs3
  have q1 : w2.cell? ⟨w.heap.size + 2, 1, none⟩ = some (.string ⟨#[]⟩) := by rw [cell_p HT1.out.q]; rfl
  have f1 : w2.frozen? ⟨w.heap.size + 2, 1, none⟩ = false := frozen_p HT1.out.q
  have HP2 := Lib.hid (HT1.out.put 1 (.string party))
  clear hg2 hR2 hparty hs3
  go_wp2_with fail
  generalize w2.setCell ⟨w.heap.size + 2, 1, none⟩ (.string party) = W2 at HP2 ⊢
  clear q1 f1
  refine (readD_any (w.heap.size + 1) s3 70 10 _ HP2.out.rd (by decide) (by decide)).mono ?_
  rintro e w5 ⟨v1, v2, n1, n2, rfl, hg5, hn1, hown1, hn2, hown2, hR5⟩
  obtain ⟨A1, k1, rfl⟩ := own_form hown1
  obtain ⟨A2, k2, rfl⟩ := own_form hown2
  have HBS := Lib.hid HP2.out.b.size
  have HG5 := Lib.hid (HP2.out.read hg5 hR5)
  have q2 : w5.cell? ⟨w.heap.size + 2, 2, none⟩ = some (.slice none 0 0) := by rw [cell_p HG5.out.q]; rfl
  have q3 : w5.cell? ⟨w.heap.size + 2, 3, none⟩ = some (.slice none 0 0) := by rw [cell_p HG5.out.q]; rfl
  have f2 : w5.frozen? ⟨w.heap.size + 2, 2, none⟩ = false := frozen_p HG5.out.q
  have f3 : w5.frozen? ⟨w.heap.size + 2, 3, none⟩ = false := frozen_p HG5.out.q
  have HP6 := Lib.hid ((HG5.out.put 2 (.slice A1 n1 k1)).put 3 (.slice A2 n2 k2))
  have hg6 : w5.grownBy ((w5.setCell ⟨w.heap.size + 2, 2, none⟩ (.slice A1 n1 k1)).setCell ⟨w.heap.size + 2, 3, none⟩ (.slice A2 n2 k2)) (some (w.heap.size + 2)) := (grownBy_setCell w5 (w.heap.size + 2) 2 _).trans (grownBy_setCell _ (w.heap.size + 2) 3 _)
  have HOW1 := Lib.hid (hown1.kept hg6 (.inr (own_ne hown1 HG5.out.q (by decide))))
  have HOW2 := Lib.hid (hown2.kept hg6 (.inr (own_ne hown2 HG5.out.q (by decide))))
  have HN1 := Lib.hid hn1
  have HN2 := Lib.hid hn2
  clear hg5 hn1 hown1 hn2 hown2 hR5 hg6
  go_wp2_with fail
  generalize (w5.setCell ⟨w.heap.size + 2, 2, none⟩ (.slice A1 n1 k1)).setCell ⟨w.heap.size + 2, 3, none⟩ (.slice A2 n2 k2) = W6 at HP6 HOW1 HOW2 ⊢
  clear q2 q3 f2 f3
  have hc : cmdR (bl b) = (((kind, (rText s2).1), (rGet 70 10 s3).1), (rGet 70 10 s3).2) := by
    simp only [cmdR, HKIND.out, HS2.out, HS3.out]
  obtain ⟨E, hEE⟩ : ∃ E, rEnd (rGet 70 10 s3).2 = E := ⟨_, rfl⟩
  have hend := HP6.out.rd.end_
  rw [hEE] at hend
  have HEND := Lib.hid hend
  have HC := Lib.hid hc
  have HEE := Lib.hid hEE
  clear hend hc hEE
  refine HEND.out.mono ?_
  rintro e1 w7 ⟨rfl, rfl⟩
  have HRB6 := Lib.hid HP6.out.r
  have r0 : W6.cell? ⟨w.heap.size, 0, none⟩ = some (.int .i64 0) := by rw [cell_p HRB6.out]; rfl
  have rf0 : W6.frozen? ⟨w.heap.size, 0, none⟩ = false := frozen_p HRB6.out
  have r1 : W6.cell? ⟨w.heap.size, 1, none⟩ = some (.string ⟨#[]⟩) := by rw [cell_p HRB6.out]; rfl
  have rf1 : W6.frozen? ⟨w.heap.size, 1, none⟩ = false := frozen_p HRB6.out
  have r2 : W6.cell? ⟨w.heap.size, 2, none⟩ = some (.slice none 0 0) := by rw [cell_p HRB6.out]; rfl
  have rf2 : W6.frozen? ⟨w.heap.size, 2, none⟩ = false := frozen_p HRB6.out
  have r3 : W6.cell? ⟨w.heap.size, 3, none⟩ = some (.slice none 0 0) := by rw [cell_p HRB6.out]; rfl
  have rf3 : W6.frozen? ⟨w.heap.size, 3, none⟩ = false := frozen_p HRB6.out
  by_cases hE : E = 0
  · subst hE
    have p0 : W6.cell? ⟨w.heap.size + 2, 0, none⟩ = some (.int .i64 kind) := by rw [cell_p HP6.out.q]; rfl
    have p1 : W6.cell? ⟨w.heap.size + 2, 1, none⟩ = some (.string party) := by rw [cell_p HP6.out.q]; rfl
    have p2 : W6.cell? ⟨w.heap.size + 2, 2, none⟩ = some (.slice A1 n1 k1) := by rw [cell_p HP6.out.q]; rfl
    have p3 : W6.cell? ⟨w.heap.size + 2, 3, none⟩ = some (.slice A2 n2 k2) := by rw [cell_p HP6.out.q]; rfl
    have h7 := set4 (w7 := W6) HRB6.out (.int .i64 kind) (.string party) (.slice A1 n1 k1) (.slice A2 n2 k2)
    have g7 := grown4 W6 w.heap.size (.int .i64 kind) (.string party) (.slice A1 n1 k1) (.slice A2 n2 k2)
    have H7 := Lib.hid h7
    have G7 := Lib.hid g7
    clear h7 g7
    go_wp2_with fail
    generalize (((W6.setCell ⟨w.heap.size, 0, none⟩ (.int .i64 kind)).setCell ⟨w.heap.size, 1, none⟩ (.string party)).setCell ⟨w.heap.size, 2, none⟩ (.slice A1 n1 k1)).setCell ⟨w.heap.size, 3, none⟩ (.slice A2 n2 k2) = W7 at H7 G7 ⊢
    have e0 : W7.cell? ⟨w.heap.size, 0, none⟩ = some (.int .i64 kind) := by rw [cell_p H7.out]; rfl
    have e1 : W7.cell? ⟨w.heap.size, 1, none⟩ = some (.string party) := by rw [cell_p H7.out]; rfl
    have e2 : W7.cell? ⟨w.heap.size, 2, none⟩ = some (.slice A1 n1 k1) := by rw [cell_p H7.out]; rfl
    have e3 : W7.cell? ⟨w.heap.size, 3, none⟩ = some (.slice A2 n2 k2) := by rw [cell_p H7.out]; rfl
    refine bodyPost_ret (v := .tuple #[.agg #[.int .i64 kind, .string party, .slice A1 n1 k1, .slice A2 n2 k2], .int .i64 0]) (by simp [results, Tryz.results12, go_sem, e0, e1, e2, e3]) rfl ?_
    have hbs := HBS.out
    refine ⟨below_grown HP6.out.b G7.out HP6.out.b.size (by rintro g ⟨rfl⟩; exact Nat.le_refl _), .inl ⟨by rw [HC.out]; exact HEE.out, .slice A1 n1 k1, .slice A2 n2 k2, n1, n2, by rw [HC.out, HPARTY.out], by rw [HC.out]; exact HN1.out, ?_, by rw [HC.out]; exact HN2.out, ?_⟩⟩
    · rw [HC.out]
      exact (own_base HOW1.out hbs).kept G7.out (.inr (own_ne HOW1.out HRB6.out (by decide)))
    · rw [HC.out]
      exact (own_base HOW2.out hbs).kept G7.out (.inr (own_ne HOW2.out HRB6.out (by decide)))
  · have hb1 : (E == 0) = false := by simpa using hE
    have hb2 : (E != 0) = true := by simpa using hE
    have HE := Lib.hid hE
    clear hE
    have h7 := set4 (w7 := W6) HRB6.out (.int .i64 0) (.string ⟨#[]⟩) (.slice none 0 0) (.slice none 0 0)
    have g7 := grown4 W6 w.heap.size (.int .i64 0) (.string ⟨#[]⟩) (.slice none 0 0) (.slice none 0 0)
    have H7 := Lib.hid h7
    have G7 := Lib.hid g7
    clear h7 g7
    go_wp2_with fail
    generalize (((W6.setCell ⟨w.heap.size, 0, none⟩ (.int .i64 0)).setCell ⟨w.heap.size, 1, none⟩ (.string ⟨#[]⟩)).setCell ⟨w.heap.size, 2, none⟩ (.slice none 0 0)).setCell ⟨w.heap.size, 3, none⟩ (.slice none 0 0) = W7 at H7 G7 ⊢
    have e0 : W7.cell? ⟨w.heap.size, 0, none⟩ = some (.int .i64 0) := by rw [cell_p H7.out]; rfl
    have e1 : W7.cell? ⟨w.heap.size, 1, none⟩ = some (.string ⟨#[]⟩) := by rw [cell_p H7.out]; rfl
    have e2 : W7.cell? ⟨w.heap.size, 2, none⟩ = some (.slice none 0 0) := by rw [cell_p H7.out]; rfl
    have e3 : W7.cell? ⟨w.heap.size, 3, none⟩ = some (.slice none 0 0) := by rw [cell_p H7.out]; rfl
    refine bodyPost_ret (v := .tuple #[.agg cmd0, .int .i64 E]) (by simp [results, Tryz.results12, go_sem, e0, e1, e2, e3, cmd0]) rfl ?_
    exact ⟨below_grown HP6.out.b G7.out HP6.out.b.size (by rintro g ⟨rfl⟩; exact Nat.le_refl _), .inr ⟨by rw [HC.out, HEE.out]; exact HE.out, by rw [HC.out, HEE.out]⟩⟩
set_option maxRecDepth 20000 in
set_option maxHeartbeats 2000000 in
theorem getDR_any (b : ByteArray) (w : World) (hb : b.size ≤ 1000000000000) : Calls Tryz.prog 23 #[.string b] w (GetRPost b w) := by
  have HB := Lib.hid hb
  clear hb
  go_enter Tryz.func23, Tryz.ntmps23
  go_wp2_with fail
  have hs := GDs.start (w := w) (t := 52) (c0 := rep0) b HB.out _ _ _ rfl rfl rfl
  unfold rep0 at hs
  obtain ⟨W0, hW0⟩ : ∃ W0, ((w.alloc (.cells #[.int .i64 0, .slice none 0 0, .slice none 0 0] 52)).alloc (.cells #[.string b, .int .i64 0] 108)).alloc (.cells #[.int .i64 0, .slice none 0 0, .slice none 0 0] 52) = W0 := ⟨_, rfl⟩
  have hs1 : GDs w 52 rep0 rep0 ⟨0, bl b⟩ W0 := by rw [← hW0]; exact hs
  rw [hW0]
  have HS0 := Lib.hid hs1
  clear hs hs1 hW0
  refine HS0.out.rd.num.mono ?_
  rintro e w1 ⟨rfl, hg1, hR1⟩
  have HS1 := Lib.hid (HS0.out.read hg1 hR1)
  obtain ⟨kind, hkind⟩ : ∃ x, (rNum ⟨0, bl b⟩).1 = x := ⟨_, rfl⟩
  obtain ⟨s2, hs2⟩ : ∃ s, (rNum ⟨0, bl b⟩).2 = s := ⟨_, rfl⟩
  rw [hs2] at HS1
  rw [hkind]
  have HKIND := Lib.hid hkind
  have HS2 := Lib.hid hs2
  have q0 : w1.cell? ⟨w.heap.size + 2, 0, none⟩ = some (.int .i64 0) := by rw [cell_p HS1.out.q]; rfl
  have f0 : w1.frozen? ⟨w.heap.size + 2, 0, none⟩ = false := frozen_p HS1.out.q
  have HP1 := Lib.hid (HS1.out.put 0 (.int .i64 kind))
  clear hg1 hR1 hkind hs2 HS0
  go_wp2_with fail
  generalize w1.setCell ⟨w.heap.size + 2, 0, none⟩ (.int .i64 kind) = W1 at HP1 ⊢
  clear q0 f0
  refine (readD_any (w.heap.size + 1) s2 2000 100 _ HP1.out.rd (by decide) (by decide)).mono ?_
  rintro e w5 ⟨v1, v2, n1, n2, rfl, hg5, hn1, hown1, hn2, hown2, hR5⟩
  obtain ⟨A1, k1, rfl⟩ := own_form hown1
  obtain ⟨A2, k2, rfl⟩ := own_form hown2
  have HBS := Lib.hid HP1.out.b.size
  have HG5 := Lib.hid (HP1.out.read hg5 hR5)
  have q2 : w5.cell? ⟨w.heap.size + 2, 1, none⟩ = some (.slice none 0 0) := by rw [cell_p HG5.out.q]; rfl
  have q3 : w5.cell? ⟨w.heap.size + 2, 2, none⟩ = some (.slice none 0 0) := by rw [cell_p HG5.out.q]; rfl
  have f2 : w5.frozen? ⟨w.heap.size + 2, 1, none⟩ = false := frozen_p HG5.out.q
  have f3 : w5.frozen? ⟨w.heap.size + 2, 2, none⟩ = false := frozen_p HG5.out.q
  have HP6 := Lib.hid ((HG5.out.put 1 (.slice A1 n1 k1)).put 2 (.slice A2 n2 k2))
  have hg6 : w5.grownBy ((w5.setCell ⟨w.heap.size + 2, 1, none⟩ (.slice A1 n1 k1)).setCell ⟨w.heap.size + 2, 2, none⟩ (.slice A2 n2 k2)) (some (w.heap.size + 2)) := (grownBy_setCell w5 (w.heap.size + 2) 1 _).trans (grownBy_setCell _ (w.heap.size + 2) 2 _)
  have HOW1 := Lib.hid (hown1.kept hg6 (.inr (own_ne hown1 HG5.out.q (by decide))))
  have HOW2 := Lib.hid (hown2.kept hg6 (.inr (own_ne hown2 HG5.out.q (by decide))))
  have HN1 := Lib.hid hn1
  have HN2 := Lib.hid hn2
  clear hg5 hn1 hown1 hn2 hown2 hR5 hg6
  go_wp2_with fail
  generalize (w5.setCell ⟨w.heap.size + 2, 1, none⟩ (.slice A1 n1 k1)).setCell ⟨w.heap.size + 2, 2, none⟩ (.slice A2 n2 k2) = W6 at HP6 HOW1 HOW2 ⊢
  clear q2 q3 f2 f3
  have hc : repR (bl b) = ((kind, (rGet 2000 100 s2).1), (rGet 2000 100 s2).2) := by
    simp only [repR, HKIND.out, HS2.out]
  obtain ⟨E, hEE⟩ : ∃ E, rEnd (rGet 2000 100 s2).2 = E := ⟨_, rfl⟩
  have hend := HP6.out.rd.end_
  rw [hEE] at hend
  have HEND := Lib.hid hend
  have HC := Lib.hid hc
  have HEE := Lib.hid hEE
  clear hend hc hEE
  refine HEND.out.mono ?_
  rintro e1 w7 ⟨rfl, rfl⟩
  have HRB6 := Lib.hid HP6.out.r
  have r0 : W6.cell? ⟨w.heap.size, 0, none⟩ = some (.int .i64 0) := by rw [cell_p HRB6.out]; rfl
  have rf0 : W6.frozen? ⟨w.heap.size, 0, none⟩ = false := frozen_p HRB6.out
  have r1 : W6.cell? ⟨w.heap.size, 1, none⟩ = some (.slice none 0 0) := by rw [cell_p HRB6.out]; rfl
  have rf1 : W6.frozen? ⟨w.heap.size, 1, none⟩ = false := frozen_p HRB6.out
  have r2 : W6.cell? ⟨w.heap.size, 2, none⟩ = some (.slice none 0 0) := by rw [cell_p HRB6.out]; rfl
  have rf2 : W6.frozen? ⟨w.heap.size, 2, none⟩ = false := frozen_p HRB6.out
  by_cases hE : E = 0
  · subst hE
    have p0 : W6.cell? ⟨w.heap.size + 2, 0, none⟩ = some (.int .i64 kind) := by rw [cell_p HP6.out.q]; rfl
    have p1 : W6.cell? ⟨w.heap.size + 2, 1, none⟩ = some (.slice A1 n1 k1) := by rw [cell_p HP6.out.q]; rfl
    have p2 : W6.cell? ⟨w.heap.size + 2, 2, none⟩ = some (.slice A2 n2 k2) := by rw [cell_p HP6.out.q]; rfl
    have h7 := set3 (w7 := W6) HRB6.out (.int .i64 kind) (.slice A1 n1 k1) (.slice A2 n2 k2)
    have g7 := grown3 W6 w.heap.size (.int .i64 kind) (.slice A1 n1 k1) (.slice A2 n2 k2)
    have H7 := Lib.hid h7
    have G7 := Lib.hid g7
    clear h7 g7
    go_wp2_with fail
    generalize ((W6.setCell ⟨w.heap.size, 0, none⟩ (.int .i64 kind)).setCell ⟨w.heap.size, 1, none⟩ (.slice A1 n1 k1)).setCell ⟨w.heap.size, 2, none⟩ (.slice A2 n2 k2) = W7 at H7 G7 ⊢
    have e0 : W7.cell? ⟨w.heap.size, 0, none⟩ = some (.int .i64 kind) := by rw [cell_p H7.out]; rfl
    have e1 : W7.cell? ⟨w.heap.size, 1, none⟩ = some (.slice A1 n1 k1) := by rw [cell_p H7.out]; rfl
    have e2 : W7.cell? ⟨w.heap.size, 2, none⟩ = some (.slice A2 n2 k2) := by rw [cell_p H7.out]; rfl
    refine bodyPost_ret (v := .tuple #[.agg #[.int .i64 kind, .slice A1 n1 k1, .slice A2 n2 k2], .int .i64 0]) (by simp [results, Tryz.results23, go_sem, e0, e1, e2]) rfl ?_
    have hbs := HBS.out
    refine ⟨below_grown HP6.out.b G7.out HP6.out.b.size (by rintro g ⟨rfl⟩; exact Nat.le_refl _), .inl ⟨by rw [HC.out]; exact HEE.out, .slice A1 n1 k1, .slice A2 n2 k2, n1, n2, by rw [HC.out], by rw [HC.out]; exact HN1.out, ?_, by rw [HC.out]; exact HN2.out, ?_⟩⟩
    · rw [HC.out]
      exact (own_base HOW1.out hbs).kept G7.out (.inr (own_ne HOW1.out HRB6.out (by decide)))
    · rw [HC.out]
      exact (own_base HOW2.out hbs).kept G7.out (.inr (own_ne HOW2.out HRB6.out (by decide)))
  · have hb1 : (E == 0) = false := by simpa using hE
    have hb2 : (E != 0) = true := by simpa using hE
    have HE := Lib.hid hE
    clear hE
    have h7 := set3 (w7 := W6) HRB6.out (.int .i64 0) (.slice none 0 0) (.slice none 0 0)
    have g7 := grown3 W6 w.heap.size (.int .i64 0) (.slice none 0 0) (.slice none 0 0)
    have H7 := Lib.hid h7
    have G7 := Lib.hid g7
    clear h7 g7
    go_wp2_with fail
    generalize ((W6.setCell ⟨w.heap.size, 0, none⟩ (.int .i64 0)).setCell ⟨w.heap.size, 1, none⟩ (.slice none 0 0)).setCell ⟨w.heap.size, 2, none⟩ (.slice none 0 0) = W7 at H7 G7 ⊢
    have e0 : W7.cell? ⟨w.heap.size, 0, none⟩ = some (.int .i64 0) := by rw [cell_p H7.out]; rfl
    have e1 : W7.cell? ⟨w.heap.size, 1, none⟩ = some (.slice none 0 0) := by rw [cell_p H7.out]; rfl
    have e2 : W7.cell? ⟨w.heap.size, 2, none⟩ = some (.slice none 0 0) := by rw [cell_p H7.out]; rfl
    refine bodyPost_ret (v := .tuple #[.agg rep0, .int .i64 E]) (by simp [results, Tryz.results23, go_sem, e0, e1, e2, rep0]) rfl ?_
    exact ⟨below_grown HP6.out.b G7.out HP6.out.b.size (by rintro g ⟨rfl⟩; exact Nat.le_refl _), .inr ⟨by rw [HC.out, HEE.out]; exact HE.out, by rw [HC.out, HEE.out]⟩⟩
end Go.Proofs.YthlpdficpmdebaaGreat.Wire
