/- complinelaw28.CmdNone. -/
import Derived.Test.YtgmbppfkkiobhaaGreatCmdDo
import Derived.Test.YtgmbppfkkiobhaaGreatAlive28
import Derived.Test.YtgmbppfkkiobhaaGreatRegInv
import Derived.Test.YtgmbppfkkiobhaaGreatWireLightA
namespace Go.Proofs.YtgmbppfkkiobhaaGreat.Wire
open Go Go.RowKit Go.Lib
theorem below_drew {B : Nat} {a w : World} (h : Below B a w) : Below B a w.drew := ⟨h.os, h.tape, h.output, h.size, h.block⟩
theorem below_all {a w : World} (h : Below a.heap.size a w) (o : Obj) : Below a.heap.size a (w.alloc o) := h.alloc h.size o
theorem below_step {a s d : World} (h : Below a.heap.size a s) (hb : Below s.heap.size s d) : Below a.heap.size a d := h.trans (hb.mono h.size)
theorem below_set {a w : World} {p : Addr} {u : Value} (h : Below a.heap.size a w) (hp : a.heap.size ≤ p.block) : Below a.heap.size a (w.setCell p u) := h.setCell hp u
theorem below_ints {w w' : World} (hb : Below w.heap.size w w') {A : Option Addr} {xs : List Int} (h : IntsAt w A xs) : IntsAt w' A xs := h.grown (only_of_below hb none)
theorem bcell {W w1 : World} (hb : Below W.heap.size W w1) : (∀ b o, b < W.heap.size → w1.cell? ⟨b, o, none⟩ = W.cell? ⟨b, o, none⟩) ∧ (∀ b o, b < W.heap.size → w1.frozen? ⟨b, o, none⟩ = W.frozen? ⟨b, o, none⟩) :=
  ⟨fun b o h => hb.cell (p := ⟨b, o, none⟩) h, fun b o h => hb.frozen (p := ⟨b, o, none⟩) h⟩
theorem cell_bel {w w' : World} (hb : Below w.heap.size w w') {p : Addr} {v : Value} (h : w.cell? p = some v) : w'.cell? p = some v := (hb.cell (World.block_lt_of_cell? w _ h)).trans h
theorem sb_drw {a w : World} (h : Below a.heap.size a w) : Below a.heap.size a w.drew := ⟨h.os, h.tape, h.output, h.size, h.block⟩
def NT (b : Nat) (C x3 x4 x11 x12 x13 x14 x15 x16 : Value) : Array Value := #[C, .pointer (some ⟨b, 0, none⟩), .bool false, x3, x4, undef, C, .slice (some ⟨b + 1, 0, none⟩) 1 1, .bool true, .bool false, undef, x11, x12, x13, x14, x15, x16, undef, undef, undef, undef, undef, undef, undef, undef, undef, undef, undef, undef, undef, undef, undef, undef, undef, undef, undef, undef, undef, undef, undef, undef, undef, undef, undef, undef, undef, undef, undef, undef, undef, undef, undef]
/-- A reply's box: empty, or stored. -/
def Box (w1 w : World) (x : Value) (cs : Array Value) : Prop := ∃ g, x = .pointer (some ⟨g, 0, none⟩) ∧ w1.heap.size ≤ g ∧ w.heap[g]? = some (.cells cs 67 (0, 0))
theorem Box.below {w1 W W' : World} {x : Value} {cs : Array Value} (h : Box w1 W x cs) (hb : Below W.heap.size W W') : Box w1 W' x cs := by
  obtain ⟨g, e, hl, hh⟩ := h
  exact ⟨g, e, hl, (hb.block g (blk_lt hh)).trans hh⟩
theorem Box.far {w1 W W' : World} {x y : Value} {cs : Array Value} {g : Nat} (h : Box w1 W x cs) (hy : y = .pointer (some ⟨g, 0, none⟩)) (hne : x ≠ y) (hg : W.grownBy W' (some g)) : Box w1 W' x cs := by
  obtain ⟨g', rfl, hl, hh⟩ := h
  exact ⟨g', rfl, hl, (hg.block g' (blk_lt hh) (fun e => hne (by rw [hy]; cases e; rfl))).trans hh⟩
def zeroHall : Value := .agg #[.pointer none, .pointer none, .pointer none, .pointer none, .pointer none, .int .i64 0]
structure NI (w1 : World) (b : Nat) (C R : Value) (rs : Array Value) (l : Array Bool) (a : Act) (w : World) : Prop where
  sz : l.size = 10
  bl : Below w1.heap.size w1 w
  ex : ∃ x3 x4 x11 x12 x13 x14 x15 x16, a = ⟨NT b C x3 x4 x11 x12 x13 x14 x15 x16, []⟩ ∧ (fl l 0 → x11 = C) ∧ (fl l 1 → x12 = R) ∧ (fl l 2 → x13 = zeroHall) ∧ (fl l 3 → ¬ fl l 8 → ∃ g, x14 = .pointer (some ⟨g, 0, none⟩) ∧ w.cell? ⟨g, 0, none⟩ = some (.pointer none)) ∧ (fl l 4 → x15 = C) ∧ (fl l 5 → x16 = R) ∧
    (fl l 6 → ¬ fl l 8 → Box w1 w x3 rep0) ∧ (fl l 6 → fl l 8 → Box w1 w x3 rs) ∧ (fl l 7 → ¬ fl l 9 → Box w1 w x4 rep0) ∧ (fl l 7 → fl l 9 → Box w1 w x4 rs) ∧ (fl l 6 → fl l 7 → x3 ≠ x4) ∧ (fl l 8 → fl l 5) ∧ (fl l 8 → fl l 6) ∧ (fl l 9 → fl l 7)
set_option maxRecDepth 20000 in
set_option maxHeartbeats 8000000 in
theorem none_in (kind : Int) (party : ByteArray) (A : Option Addr) (n c : Nat) (nums : List Int) (A' : Option Addr) (m c' : Nat) (texts : List ByteArray) (w : World) (hk : okI kind) (hp : party.size ≤ maxLen) (hn : n ≤ maxLen) (hm : m ≤ maxLen) (h1 : Rows2 w w.heap.size A n nums A' m texts) :
    Calls Tryz.prog 4 #[.agg #[.int .i64 kind, .string party, .slice A n c, .slice A' m c']] w (Gv.TrueBelow w) := by
  obtain ⟨E, hE⟩ := check_any kind party A n c nums A' m c' hk h1.n_ hn hm
  have HE := Lib.hid hE
  have HP := Lib.hid hp
  have HN := Lib.hid hn
  have HM := Lib.hid hm
  have H1 := Lib.hid h1
  clear hE hp hn hm h1 hk
  go_enter Tryz.func4, Tryz.ntmps4
  go_wp2_with fail
  refine (light_any (w.heap.size + 1) kind party A n c A' m c' texts _ HP.out HN.out HM.out (by
    have := heap_alloc_new (w.alloc (cmdBox kind party A n c A' m c')) (.cells #[.int .i64 kind, .string party, .slice A n c, .slice A' m c'] 63 (0, 0))
    have e2 : (w.alloc (cmdBox kind party A n c A' m c')).heap.size = w.heap.size + 1 := by simp
    rw [e2] at this
    exact this) ((H1.out.tat.grown (World.grownBy_alloc w _ none)).grown (World.grownBy_alloc _ _ none)) H1.out.m_ H1.out.max).mono ?_
  rintro e w1 ⟨⟨b, rfl⟩, hb1⟩
  have e3 : ((w.alloc (cmdBox kind party A n c A' m c')).alloc (.cells #[.int .i64 kind, .string party, .slice A n c, .slice A' m c'] 63)).heap.size = w.heap.size + 2 := by simp
  have hb1' : Below (w.heap.size + 2) ((w.alloc (cmdBox kind party A n c A' m c')).alloc (.cells #[.int .i64 kind, .string party, .slice A n c, .slice A' m c'] 63)) w1 := by rw [← e3]; exact hb1
  have HCB1 : Hid (w1.heap[w.heap.size]? = some (cmdBox kind party A n c A' m c')) := Lib.hid ((hb1'.block _ (by omega)).trans ((Below.heap_alloc _ _ _ (by simp)).trans (heap_alloc_new w _)))
  have HB1 : Hid (Below w.heap.size w w1) := Lib.hid ((((Below.refl _ w).alloc (Nat.le_refl _) _).alloc (by simp) _).trans (hb1'.mono (by omega)))
  clear hb1 hb1' e3
  obtain ⟨k0, k1, k2, k3⟩ := cmdBox_cells HCB1.out
  have HLT := Lib.hid (blk_lt HCB1.out)
  have hlt : w.heap.size < w1.heap.size := HLT.out
  have HI1 := Lib.hid (H1.out.iat.below H1.out.ib HB1.out)
  have D1 : Hid (∀ W, IntsAt W A nums → Calls Tryz.prog 22 #[.pointer none, .agg #[.int .i64 kind, .string party, .slice A n c, .slice A' m c']] W (DoPost E W)) := Lib.hid (fun W h => do_any (.pointer none) kind party A n c nums A' m c' E W HE.out h (.inl rfl))
  have D2 : Hid (∀ (W : World) (g : Nat), IntsAt W A nums → W.cell? ⟨g, 0, none⟩ = some (.pointer none) → Calls Tryz.prog 22 #[.pointer (some ⟨g, 0, none⟩), .agg #[.int .i64 kind, .string party, .slice A n c, .slice A' m c']] W (DoPost E W)) := Lib.hid (fun W g h hc => do_any (.pointer (some ⟨g, 0, none⟩)) kind party A n c nums A' m c' E W HE.out h (.inr ⟨g, rfl, hc⟩))
  cases b with
  | false =>
    go_wp2_with fail
    refine (aliveAny21 _).mono ?_
    rintro e w2 ⟨rfl, hb2⟩
    go_wp2_with fail
    refine bodyPost_ret (results_tmp rfl _ _ _) rfl ?_
    exact ⟨rfl, HB1.out.trans (hb2.mono HB1.out.size)⟩
  | true =>
    go_wp2_with fail
    refine wp_region_any (by kernel_rfl) ?_
    refine wpAny_inv (NI w1 w.heap.size (.agg #[.int .i64 kind, .string party, .slice A n c, .slice A' m c']) (.agg #[.int .i64 (doE E), .slice none 0 0, .slice none 0 0]) #[.int .i64 (doE E), .slice none 0 0, .slice none 0 0]) ?_ ?_ _ _ _ _ ?_ ?_
    · intro l a W h hr
      obtain ⟨hsz, hbl, x3, x4, x11, x12, x13, x14, x15, x16, rfl, i0, i1, i2, i3, i4, i5, i6, j6, i7, j7, i67, i85, i86, i97⟩ := h
      have f0 : fl l 0 := fl_all hr hsz (i := 0) rfl (fun e he _ => by simp at he)
      have f1 : fl l 1 := fl_all hr hsz (i := 1) rfl (fun e he _ => by simp at he; subst he; exact f0)
      have f2 : fl l 2 := fl_all hr hsz (i := 2) rfl (fun e he _ => by simp at he)
      have f3 : fl l 3 := fl_all hr hsz (i := 3) rfl (fun e he _ => by simp at he; subst he; exact f2)
      have f4 : fl l 4 := fl_all hr hsz (i := 4) rfl (fun e he _ => by simp at he)
      have f5 : fl l 5 := fl_all hr hsz (i := 5) rfl (fun e he _ => by simp at he; rcases he with rfl | rfl | rfl <;> assumption)
      have f6 : fl l 6 := fl_all hr hsz (i := 6) rfl (fun e he _ => by simp at he)
      have f7 : fl l 7 := fl_all hr hsz (i := 7) rfl (fun e he _ => by simp at he)
      have f8 : fl l 8 := fl_all hr hsz (i := 8) rfl (fun e he _ => by simp at he; rcases he with rfl | rfl | rfl | rfl | rfl | rfl | rfl | rfl | rfl | rfl | rfl <;> assumption)
      have f9 : fl l 9 := fl_all hr hsz (i := 9) rfl (fun e he _ => by simp at he; rcases he with rfl | rfl | rfl | rfl | rfl | rfl | rfl | rfl | rfl | rfl | rfl | rfl <;> assumption)
      obtain ⟨g3, rfl, hl3, hh3⟩ := j6 f6 f8
      obtain ⟨g4, rfl, hl4, hh4⟩ := j7 f7 f9
      have HBL := Lib.hid hbl
      have HH3 := Lib.hid hh3
      have HH4 := Lib.hid hh4
      have d0 := (hbl.cell (p := ⟨w.heap.size, 0, none⟩) HLT.out).trans k0
      have d1 := (hbl.cell (p := ⟨w.heap.size, 1, none⟩) HLT.out).trans k1
      have d2 := (hbl.cell (p := ⟨w.heap.size, 2, none⟩) HLT.out).trans k2
      have d3 := (hbl.cell (p := ⟨w.heap.size, 3, none⟩) HLT.out).trans k3
      clear i0 i1 i2 i3 i4 i5 i6 j6 i7 j7 i67 i85 i86 i97 f0 f1 f2 f3 f4 f5 f6 f7 f8 f9 hr hsz hbl hh3 hh4 k0 k1 k2 k3
      unfold NT
      go_wp2_with fail
      refine (HE.out W (below_ints HBL.out HI1.out)).mono ?_
      rintro e w4 ⟨rfl, hb4⟩
      have HB4 := Lib.hid (below_step HBL.out hb4)
      have HH34 := Lib.hid ((hb4.block g3 (blk_lt HH3.out)).trans HH3.out)
      have HH44 := Lib.hid ((hb4.block g4 (blk_lt HH4.out)).trans HH4.out)
      clear hb4 HH3 HH4 d0 d1 d2 d3
      by_cases hE : E = 0
      · subst hE
        go_wp2_with fail
        refine (aliveAny21 _).mono ?_
        rintro e w5 ⟨rfl, hb5⟩
        have HB5 := Lib.hid (below_step HB4.out hb5)
        have hh3 := (hb5.block g3 (blk_lt HH34.out)).trans HH34.out
        have hh4 := (hb5.block g4 (blk_lt HH44.out)).trans HH44.out
        have e30 : w5.cell? ⟨g3, 0, none⟩ = some (.int .i64 1) := by rw [cell_p hh3]; rfl
        have e31 : w5.cell? ⟨g3, 1, none⟩ = some (.slice none 0 0) := by rw [cell_p hh3]; rfl
        have e32 : w5.cell? ⟨g3, 2, none⟩ = some (.slice none 0 0) := by rw [cell_p hh3]; rfl
        have e40 : w5.cell? ⟨g4, 0, none⟩ = some (.int .i64 1) := by rw [cell_p hh4]; rfl
        have e41 : w5.cell? ⟨g4, 1, none⟩ = some (.slice none 0 0) := by rw [cell_p hh4]; rfl
        have e42 : w5.cell? ⟨g4, 2, none⟩ = some (.slice none 0 0) := by rw [cell_p hh4]; rfl
        clear hb5 hh3 hh4
        go_wp2_with fail
        refine bodyPost_ret (results_tmp rfl _ _ _) rfl ?_
        exact ⟨rfl, HB1.out.trans (HB5.out.mono HB1.out.size)⟩
      · have hb1 : (E == 0) = false := by simpa using hE
        have hd : doE E = E := by rw [doE, if_neg hE]
        go_wp2_with fail
        refine (aliveAny21 _).mono ?_
        rintro e w5 ⟨rfl, hb5⟩
        have HB5 := Lib.hid (below_step HB4.out hb5)
        have hh3 := (hb5.block g3 (blk_lt HH34.out)).trans HH34.out
        have hh4 := (hb5.block g4 (blk_lt HH44.out)).trans HH44.out
        rw [hd] at hh3 hh4
        have e30 : w5.cell? ⟨g3, 0, none⟩ = some (.int .i64 E) := by rw [cell_p hh3]; rfl
        have e31 : w5.cell? ⟨g3, 1, none⟩ = some (.slice none 0 0) := by rw [cell_p hh3]; rfl
        have e32 : w5.cell? ⟨g3, 2, none⟩ = some (.slice none 0 0) := by rw [cell_p hh3]; rfl
        have e40 : w5.cell? ⟨g4, 0, none⟩ = some (.int .i64 E) := by rw [cell_p hh4]; rfl
        have e41 : w5.cell? ⟨g4, 1, none⟩ = some (.slice none 0 0) := by rw [cell_p hh4]; rfl
        have e42 : w5.cell? ⟨g4, 2, none⟩ = some (.slice none 0 0) := by rw [cell_p hh4]; rfl
        clear hb5 hh3 hh4
        go_wp2_with fail
        refine bodyPost_ret (results_tmp rfl _ _ _) rfl ?_
        exact ⟨rfl, HB1.out.trans (HB5.out.mono HB1.out.size)⟩
    · intro l a W h i hi
      have hlt : i < 10 := by
        unfold Region.ready at hi
        have := (List.mem_filter.1 hi).1
        simpa using this
      obtain ⟨h0, o, ho, hall⟩ := mem_ready.1 hi
      obtain ⟨hsz, hbl, x3, x4, x11, x12, x13, x14, x15, x16, rfl, i0, i1, i2, i3, i4, i5, i6, j6, i7, j7, i67, i85, i86, i97⟩ := h
      clear hi
      match i, hlt with
      | 0, _ =>
        refine wpOp_at rfl rfl ?_
        have d0 := (hbl.cell (p := ⟨w.heap.size, 0, none⟩) HLT.out).trans k0
        have d1 := (hbl.cell (p := ⟨w.heap.size, 1, none⟩) HLT.out).trans k1
        have d2 := (hbl.cell (p := ⟨w.heap.size, 2, none⟩) HLT.out).trans k2
        have d3 := (hbl.cell (p := ⟨w.heap.size, 3, none⟩) HLT.out).trans k3
        unfold NT
        go_simp
        exact ⟨by simpa using hsz, hbl, x3, x4, _, x12, x13, x14, x15, x16, rfl, fun _ => rfl, fun h => i1 ((fl_set h).resolve_left (by decide)), fun h => i2 ((fl_set h).resolve_left (by decide)), fun h h2 => i3 ((fl_set h).resolve_left (by decide)) (fun e => h2 (fl_more e)), fun h => i4 ((fl_set h).resolve_left (by decide)), fun h => i5 ((fl_set h).resolve_left (by decide)), fun h h2 => i6 ((fl_set h).resolve_left (by decide)) (fun e => h2 (fl_more e)), fun h h2 => j6 ((fl_set h).resolve_left (by decide)) ((fl_set h2).resolve_left (by decide)), fun h h2 => i7 ((fl_set h).resolve_left (by decide)) (fun e => h2 (fl_more e)), fun h h2 => j7 ((fl_set h).resolve_left (by decide)) ((fl_set h2).resolve_left (by decide)), fun h h2 => i67 ((fl_set h).resolve_left (by decide)) ((fl_set h2).resolve_left (by decide)), fun h => fl_more (i85 ((fl_set h).resolve_left (by decide))), fun h => fl_more (i86 ((fl_set h).resolve_left (by decide))), fun h => fl_more (i97 ((fl_set h).resolve_left (by decide)))⟩
      | 1, _ =>
        refine wpOp_at rfl rfl ?_
        have p0 : fl l 0 := hall ⟨0, .data⟩ (by simp at ho; subst ho; simp) rfl
        have e0 := i0 p0
        subst e0
        unfold NT
        go_simp
        with_reducible refine Calls.mono (D1.out _ (below_ints hbl HI1.out)) ?_
        rintro e wd ⟨rfl, hbd⟩
        exact ⟨by simpa using hsz, below_step hbl hbd, x3, x4, _, _, x13, x14, x15, x16, rfl, fun _ => rfl, fun _ => rfl, fun h => i2 ((fl_set h).resolve_left (by decide)), fun h h2 => by obtain ⟨g, e1, e2⟩ := i3 ((fl_set h).resolve_left (by decide)) (fun e => h2 (fl_more e)); exact ⟨g, e1, cell_bel hbd e2⟩, fun h => i4 ((fl_set h).resolve_left (by decide)), fun h => i5 ((fl_set h).resolve_left (by decide)), fun h h2 => (i6 ((fl_set h).resolve_left (by decide)) (fun e => h2 (fl_more e))).below hbd, fun h h2 => (j6 ((fl_set h).resolve_left (by decide)) ((fl_set h2).resolve_left (by decide))).below hbd, fun h h2 => (i7 ((fl_set h).resolve_left (by decide)) (fun e => h2 (fl_more e))).below hbd, fun h h2 => (j7 ((fl_set h).resolve_left (by decide)) ((fl_set h2).resolve_left (by decide))).below hbd, fun h h2 => i67 ((fl_set h).resolve_left (by decide)) ((fl_set h2).resolve_left (by decide)), fun h => fl_more (i85 ((fl_set h).resolve_left (by decide))), fun h => fl_more (i86 ((fl_set h).resolve_left (by decide))), fun h => fl_more (i97 ((fl_set h).resolve_left (by decide)))⟩
      | 2, _ =>
        refine wpOp_at rfl rfl ?_
        unfold NT
        go_simp
        exact ⟨by simpa using hsz, hbl, x3, x4, x11, x12, _, x14, x15, x16, rfl, fun h => i0 ((fl_set h).resolve_left (by decide)), fun h => i1 ((fl_set h).resolve_left (by decide)), fun _ => rfl, fun h h2 => i3 ((fl_set h).resolve_left (by decide)) (fun e => h2 (fl_more e)), fun h => i4 ((fl_set h).resolve_left (by decide)), fun h => i5 ((fl_set h).resolve_left (by decide)), fun h h2 => i6 ((fl_set h).resolve_left (by decide)) (fun e => h2 (fl_more e)), fun h h2 => j6 ((fl_set h).resolve_left (by decide)) ((fl_set h2).resolve_left (by decide)), fun h h2 => i7 ((fl_set h).resolve_left (by decide)) (fun e => h2 (fl_more e)), fun h h2 => j7 ((fl_set h).resolve_left (by decide)) ((fl_set h2).resolve_left (by decide)), fun h h2 => i67 ((fl_set h).resolve_left (by decide)) ((fl_set h2).resolve_left (by decide)), fun h => fl_more (i85 ((fl_set h).resolve_left (by decide))), fun h => fl_more (i86 ((fl_set h).resolve_left (by decide))), fun h => fl_more (i97 ((fl_set h).resolve_left (by decide)))⟩
      | 3, _ =>
        refine wpOp_at rfl rfl ?_
        have p2 : fl l 2 := hall ⟨2, .data⟩ (by simp at ho; subst ho; simp) rfl
        have e2 := i2 p2
        subst e2
        unfold NT zeroHall
        go_simp
        have hA := (Below.refl W.heap.size W).alloc (Nat.le_refl _) (.cells #[.pointer none, .pointer none, .pointer none, .pointer none, .pointer none, .int .i64 0] 76 (0, 0))
        exact ⟨by simpa using hsz, below_step hbl hA, x3, x4, x11, x12, _, _, x15, x16, rfl, fun h => i0 ((fl_set h).resolve_left (by decide)), fun h => i1 ((fl_set h).resolve_left (by decide)), fun _ => rfl, fun _ _ => ⟨W.heap.size, rfl, by rw [cell_p (heap_alloc_new W _)]; rfl⟩, fun h => i4 ((fl_set h).resolve_left (by decide)), fun h => i5 ((fl_set h).resolve_left (by decide)), fun h h2 => (i6 ((fl_set h).resolve_left (by decide)) (fun e => h2 (fl_more e))).below hA, fun h h2 => (j6 ((fl_set h).resolve_left (by decide)) ((fl_set h2).resolve_left (by decide))).below hA, fun h h2 => (i7 ((fl_set h).resolve_left (by decide)) (fun e => h2 (fl_more e))).below hA, fun h h2 => (j7 ((fl_set h).resolve_left (by decide)) ((fl_set h2).resolve_left (by decide))).below hA, fun h h2 => i67 ((fl_set h).resolve_left (by decide)) ((fl_set h2).resolve_left (by decide)), fun h => fl_more (i85 ((fl_set h).resolve_left (by decide))), fun h => fl_more (i86 ((fl_set h).resolve_left (by decide))), fun h => fl_more (i97 ((fl_set h).resolve_left (by decide)))⟩
      | 4, _ =>
        refine wpOp_at rfl rfl ?_
        have d0 := (hbl.cell (p := ⟨w.heap.size, 0, none⟩) HLT.out).trans k0
        have d1 := (hbl.cell (p := ⟨w.heap.size, 1, none⟩) HLT.out).trans k1
        have d2 := (hbl.cell (p := ⟨w.heap.size, 2, none⟩) HLT.out).trans k2
        have d3 := (hbl.cell (p := ⟨w.heap.size, 3, none⟩) HLT.out).trans k3
        unfold NT
        go_simp
        exact ⟨by simpa using hsz, hbl, x3, x4, x11, x12, x13, x14, _, x16, rfl, fun h => i0 ((fl_set h).resolve_left (by decide)), fun h => i1 ((fl_set h).resolve_left (by decide)), fun h => i2 ((fl_set h).resolve_left (by decide)), fun h h2 => i3 ((fl_set h).resolve_left (by decide)) (fun e => h2 (fl_more e)), fun _ => rfl, fun h => i5 ((fl_set h).resolve_left (by decide)), fun h h2 => i6 ((fl_set h).resolve_left (by decide)) (fun e => h2 (fl_more e)), fun h h2 => j6 ((fl_set h).resolve_left (by decide)) ((fl_set h2).resolve_left (by decide)), fun h h2 => i7 ((fl_set h).resolve_left (by decide)) (fun e => h2 (fl_more e)), fun h h2 => j7 ((fl_set h).resolve_left (by decide)) ((fl_set h2).resolve_left (by decide)), fun h h2 => i67 ((fl_set h).resolve_left (by decide)) ((fl_set h2).resolve_left (by decide)), fun h => fl_more (i85 ((fl_set h).resolve_left (by decide))), fun h => fl_more (i86 ((fl_set h).resolve_left (by decide))), fun h => fl_more (i97 ((fl_set h).resolve_left (by decide)))⟩
      | 5, _ =>
        refine wpOp_at rfl rfl ?_
        have p3 : fl l 3 := hall ⟨3, .data⟩ (by simp at ho; subst ho; simp) rfl
        have p4 : fl l 4 := hall ⟨4, .data⟩ (by simp at ho; subst ho; simp) rfl
        have n8 : ¬ fl l 8 := fun e => by
          have := i85 e
          unfold fl at this
          rw [getD_flip h0] at this
          cases this
        obtain ⟨g, rfl, hg0⟩ := i3 p3 n8
        have e4 := i4 p4
        subst e4
        unfold NT
        go_simp
        with_reducible refine Calls.mono (D2.out _ _ (below_ints hbl HI1.out) hg0) ?_
        rintro e wd ⟨rfl, hbd⟩
        exact ⟨by simpa using hsz, below_step hbl hbd, x3, x4, x11, x12, x13, _, _, _, rfl, fun h => i0 ((fl_set h).resolve_left (by decide)), fun h => i1 ((fl_set h).resolve_left (by decide)), fun h => i2 ((fl_set h).resolve_left (by decide)), fun h h2 => by obtain ⟨g, e1, e2⟩ := i3 ((fl_set h).resolve_left (by decide)) (fun e => h2 (fl_more e)); exact ⟨g, e1, cell_bel hbd e2⟩, fun _ => rfl, fun _ => rfl, fun h h2 => (i6 ((fl_set h).resolve_left (by decide)) (fun e => h2 (fl_more e))).below hbd, fun h h2 => (j6 ((fl_set h).resolve_left (by decide)) ((fl_set h2).resolve_left (by decide))).below hbd, fun h h2 => (i7 ((fl_set h).resolve_left (by decide)) (fun e => h2 (fl_more e))).below hbd, fun h h2 => (j7 ((fl_set h).resolve_left (by decide)) ((fl_set h2).resolve_left (by decide))).below hbd, fun h h2 => i67 ((fl_set h).resolve_left (by decide)) ((fl_set h2).resolve_left (by decide)), fun h => fl_more (i85 ((fl_set h).resolve_left (by decide))), fun h => fl_more (i86 ((fl_set h).resolve_left (by decide))), fun h => fl_more (i97 ((fl_set h).resolve_left (by decide)))⟩
      | 6, _ =>
        have hN : ¬ fl l 6 := fun e => by
          unfold fl at e
          rw [getD_flip h0] at e
          cases e
        have hlt7 : fl l 7 → x4 ≠ .pointer (some ⟨W.heap.size, 0, none⟩) := fun e e2 => by
          by_cases hc : fl l 9
          · obtain ⟨g, rfl, _, hh⟩ := j7 e hc
            cases e2
            exact absurd (blk_lt hh) (Nat.lt_irrefl _)
          · obtain ⟨g, rfl, _, hh⟩ := i7 e hc
            cases e2
            exact absurd (blk_lt hh) (Nat.lt_irrefl _)
        refine wpOp_at rfl rfl ?_
        unfold NT
        go_simp
        have hA := (Below.refl W.heap.size W).alloc (Nat.le_refl _) (.cells rep0 67 (0, 0))
        exact ⟨by simpa using hsz, below_step hbl hA, _, x4, x11, x12, x13, x14, x15, x16, rfl, fun h => i0 ((fl_set h).resolve_left (by decide)), fun h => i1 ((fl_set h).resolve_left (by decide)), fun h => i2 ((fl_set h).resolve_left (by decide)), fun h h2 => by obtain ⟨g, e1, e2⟩ := i3 ((fl_set h).resolve_left (by decide)) (fun e => h2 (fl_more e)); exact ⟨g, e1, cell_bel hA e2⟩, fun h => i4 ((fl_set h).resolve_left (by decide)), fun h => i5 ((fl_set h).resolve_left (by decide)), fun _ _ => ⟨W.heap.size, rfl, hbl.size, heap_alloc_new W _⟩, fun _ h2 => absurd (i86 ((fl_set h2).resolve_left (by decide))) hN, fun h h2 => (i7 ((fl_set h).resolve_left (by decide)) (fun e => h2 (fl_more e))).below hA, fun h h2 => (j7 ((fl_set h).resolve_left (by decide)) ((fl_set h2).resolve_left (by decide))).below hA, fun _ h2 => fun e => (by have h3 := hlt7 ((fl_set h2).resolve_left (by decide)); rw [← e] at h3; exact h3 rfl), fun h => fl_more (i85 ((fl_set h).resolve_left (by decide))), fun h => fl_more (i86 ((fl_set h).resolve_left (by decide))), fun h => fl_more (i97 ((fl_set h).resolve_left (by decide)))⟩
      | 7, _ =>
        have hN : ¬ fl l 7 := fun e => by
          unfold fl at e
          rw [getD_flip h0] at e
          cases e
        have hlt6 : fl l 6 → x3 ≠ .pointer (some ⟨W.heap.size, 0, none⟩) := fun e e2 => by
          by_cases hc : fl l 8
          · obtain ⟨g, rfl, _, hh⟩ := j6 e hc
            cases e2
            exact absurd (blk_lt hh) (Nat.lt_irrefl _)
          · obtain ⟨g, rfl, _, hh⟩ := i6 e hc
            cases e2
            exact absurd (blk_lt hh) (Nat.lt_irrefl _)
        refine wpOp_at rfl rfl ?_
        unfold NT
        go_simp
        have hA := (Below.refl W.heap.size W).alloc (Nat.le_refl _) (.cells rep0 67 (0, 0))
        exact ⟨by simpa using hsz, below_step hbl hA, x3, _, x11, x12, x13, x14, x15, x16, rfl, fun h => i0 ((fl_set h).resolve_left (by decide)), fun h => i1 ((fl_set h).resolve_left (by decide)), fun h => i2 ((fl_set h).resolve_left (by decide)), fun h h2 => by obtain ⟨g, e1, e2⟩ := i3 ((fl_set h).resolve_left (by decide)) (fun e => h2 (fl_more e)); exact ⟨g, e1, cell_bel hA e2⟩, fun h => i4 ((fl_set h).resolve_left (by decide)), fun h => i5 ((fl_set h).resolve_left (by decide)), fun h h2 => (i6 ((fl_set h).resolve_left (by decide)) (fun e => h2 (fl_more e))).below hA, fun h h2 => (j6 ((fl_set h).resolve_left (by decide)) ((fl_set h2).resolve_left (by decide))).below hA, fun _ _ => ⟨W.heap.size, rfl, hbl.size, heap_alloc_new W _⟩, fun _ h2 => absurd (i97 ((fl_set h2).resolve_left (by decide))) hN, fun h _ => fun e => (by have h3 := hlt6 ((fl_set h).resolve_left (by decide)); rw [e] at h3; exact h3 rfl), fun h => fl_more (i85 ((fl_set h).resolve_left (by decide))), fun h => fl_more (i86 ((fl_set h).resolve_left (by decide))), fun h => fl_more (i97 ((fl_set h).resolve_left (by decide)))⟩
      | 8, _ =>
        have hN : ¬ fl l 8 := fun e => by
          unfold fl at e
          rw [getD_flip h0] at e
          cases e
        have po5 : fl l 5 := hall ⟨5, .chain⟩ (by simp at ho; subst ho; simp) rfl
        have pt : fl l 6 := hall ⟨6, .data⟩ (by simp at ho; subst ho; simp) rfl
        have pv : fl l 1 := hall ⟨1, .data⟩ (by simp at ho; subst ho; simp) rfl
        have po : fl l 7 := hall ⟨7, .phase⟩ (by simp at ho; subst ho; simp) rfl
        refine wpOp_at rfl rfl ?_
        obtain ⟨g, rfl, hgl, hh⟩ := i6 pt hN
        have ev := i1 pv
        subst ev
        have c0 : W.cell? ⟨g, 0, none⟩ = some (.int .i64 0) := by rw [cell_p hh]; rfl
        have c1 : W.cell? ⟨g, 1, none⟩ = some (.slice none 0 0) := by rw [cell_p hh]; rfl
        have c2 : W.cell? ⟨g, 2, none⟩ = some (.slice none 0 0) := by rw [cell_p hh]; rfl
        have f0 : W.frozen? ⟨g, 0, none⟩ = false := frozen_p hh
        have f1 : W.frozen? ⟨g, 1, none⟩ = false := frozen_p hh
        have f2 : W.frozen? ⟨g, 2, none⟩ = false := frozen_p hh
        have hS := set3 hh (.int .i64 (doE E)) (.slice none 0 0) (.slice none 0 0)
        have hG := grown3 W g (.int .i64 (doE E)) (.slice none 0 0) (.slice none 0 0)
        unfold NT
        go_simp
        exact ⟨by simpa using hsz, below_grown hbl hG hbl.size (fun g' e => by cases e; exact hgl), _, x4, x11, _, x13, x14, x15, _, rfl, fun h => i0 ((fl_set h).resolve_left (by decide)), fun _ => rfl, fun h => i2 ((fl_set h).resolve_left (by decide)), fun _ h2 => absurd (fl_self (by rw [hsz]; decide)) h2, fun h => i4 ((fl_set h).resolve_left (by decide)), fun _ => rfl, fun _ h2 => absurd (fl_self (by rw [hsz]; decide)) h2, fun _ _ => ⟨g, rfl, hgl, hS⟩, fun h h2 => (i7 ((fl_set h).resolve_left (by decide)) (fun e => h2 (fl_more e))).far rfl (fun e => i67 pt ((fl_set h).resolve_left (by decide)) e.symm) hG, fun h h2 => (j7 ((fl_set h).resolve_left (by decide)) ((fl_set h2).resolve_left (by decide))).far rfl (fun e => i67 pt ((fl_set h).resolve_left (by decide)) e.symm) hG, fun h h2 => i67 ((fl_set h).resolve_left (by decide)) ((fl_set h2).resolve_left (by decide)), fun _ => fl_more po5, fun _ => fl_more pt, fun h => fl_more (i97 ((fl_set h).resolve_left (by decide)))⟩
      | 9, _ =>
        have p8 : fl l 8 := hall ⟨8, .chain⟩ (by simp at ho; subst ho; simp) rfl
        have hN : ¬ fl l 9 := fun e => by
          unfold fl at e
          rw [getD_flip h0] at e
          cases e
        have pt : fl l 7 := hall ⟨7, .data⟩ (by simp at ho; subst ho; simp) rfl
        have pv : fl l 5 := hall ⟨5, .data⟩ (by simp at ho; subst ho; simp) rfl
        have po : fl l 6 := hall ⟨6, .phase⟩ (by simp at ho; subst ho; simp) rfl
        refine wpOp_at rfl rfl ?_
        obtain ⟨g, rfl, hgl, hh⟩ := i7 pt hN
        have ev := i5 pv
        subst ev
        have c0 : W.cell? ⟨g, 0, none⟩ = some (.int .i64 0) := by rw [cell_p hh]; rfl
        have c1 : W.cell? ⟨g, 1, none⟩ = some (.slice none 0 0) := by rw [cell_p hh]; rfl
        have c2 : W.cell? ⟨g, 2, none⟩ = some (.slice none 0 0) := by rw [cell_p hh]; rfl
        have f0 : W.frozen? ⟨g, 0, none⟩ = false := frozen_p hh
        have f1 : W.frozen? ⟨g, 1, none⟩ = false := frozen_p hh
        have f2 : W.frozen? ⟨g, 2, none⟩ = false := frozen_p hh
        have hS := set3 hh (.int .i64 (doE E)) (.slice none 0 0) (.slice none 0 0)
        have hG := grown3 W g (.int .i64 (doE E)) (.slice none 0 0) (.slice none 0 0)
        unfold NT
        go_simp
        exact ⟨by simpa using hsz, below_grown hbl hG hbl.size (fun g' e => by cases e; exact hgl), x3, _, x11, x12, x13, x14, x15, _, rfl, fun h => i0 ((fl_set h).resolve_left (by decide)), fun h => i1 ((fl_set h).resolve_left (by decide)), fun h => i2 ((fl_set h).resolve_left (by decide)), fun h h2 => absurd (fl_more p8) h2, fun h => i4 ((fl_set h).resolve_left (by decide)), fun _ => rfl, fun h h2 => (i6 ((fl_set h).resolve_left (by decide)) (fun e => h2 (fl_more e))).far rfl (i67 ((fl_set h).resolve_left (by decide)) pt) hG, fun h h2 => (j6 ((fl_set h).resolve_left (by decide)) ((fl_set h2).resolve_left (by decide))).far rfl (i67 ((fl_set h).resolve_left (by decide)) pt) hG, fun _ h2 => absurd (fl_self (by rw [hsz]; decide)) h2, fun _ _ => ⟨g, rfl, hgl, hS⟩, fun h h2 => i67 ((fl_set h).resolve_left (by decide)) ((fl_set h2).resolve_left (by decide)), fun h => fl_more (i85 ((fl_set h).resolve_left (by decide))), fun h => fl_more (i86 ((fl_set h).resolve_left (by decide))), fun _ => fl_more pt⟩
    · decide
    · exact ⟨by decide, sb_drw (Below.refl _ _), undef, undef, undef, undef, undef, undef, undef, undef, rfl, fun h => absurd h fl_none, fun h => absurd h fl_none, fun h => absurd h fl_none, fun h => absurd h fl_none, fun h => absurd h fl_none, fun h => absurd h fl_none, fun h => absurd h fl_none, fun h => absurd h fl_none, fun h => absurd h fl_none, fun h => absurd h fl_none, fun h => absurd h fl_none, fun h => absurd h fl_none, fun h => absurd h fl_none, fun h => absurd h fl_none⟩
end Go.Proofs.YtgmbppfkkiobhaaGreat.Wire
