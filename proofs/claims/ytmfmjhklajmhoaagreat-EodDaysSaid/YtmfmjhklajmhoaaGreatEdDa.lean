/- hall.data, its beginning: days. -/
import Derived.Test.YtmfmjhklajmhoaaGreatEdB
import Derived.Test.YtmfmjhklajmhoaaGreatEdC
namespace Go.Proofs.YtmfmjhklajmhoaaGreat.Ed
open Go Go.RowKit Go.Lib Go.Maps Wire
def IRow (w : World) (p : Nat) (A : Option Addr) (ss : List Int) : Prop := ss = [] ∨ ∃ (q : Nat) (cs : Array Value), A = some ⟨q, 0, none⟩ ∧ q ≠ p ∧ w.heap[q]? = some (.cells cs 3 (0, 0)) ∧ ∀ (j : Nat) (x : Int), ss[j]? = some x → cs[j]? = some (Value.int .i64 x)
theorem IRow.keeps {w w' : World} {p : Nat} {A : Option Addr} {ss : List Int} (h : IRow w p A ss) (hk : Keeps p w w') : IRow w' p A ss := by
 rcases h with h | ⟨q, cs, hA, hq, hh, hc⟩
 · exact .inl h
 · exact .inr ⟨q, cs, hA, hq, (hk q cs _ hh (by decide) hq).trans hh, hc⟩
theorem IRow.ints {w : World} {p : Nat} {A : Option Addr} {ss : List Int} (h : IRow w p A ss) : IntsAt w A ss ∧ (ss.length ≤ 1 ∨ ∃ q cs, A = some ⟨q, 0, none⟩ ∧ w.heap[q]? = some (.cells cs 3 (0, 0))) := by
 rcases h with rfl | ⟨q, cs, rfl, _, hh, hc⟩
 · exact ⟨fun h => absurd rfl h, .inl (by simp)⟩
 · exact ⟨fun _ => ⟨_, rfl, fun j x hx => by rw [addB, cell_p hh]; exact hc j x hx⟩, .inr ⟨q, cs, rfl, hh⟩⟩
theorem irow_of {w : World} {b0 p : Nat} {v : Value} {ss : List Int} (h : w.ownsRow b0 3 1 v ss.length (ss.map (Value.int .i64))) (hp : p < b0) : ∃ A c, v = .slice A ss.length c ∧ IRow w p A ss := by
 rcases h.2 with ⟨rfl, h0⟩ | ⟨g, cap, cur, rfl, hg, hgg, h1, h2, h3, h4⟩
 · exact ⟨none, 0, by rw [h0], .inl (List.length_eq_zero_iff.1 h0)⟩
 · refine ⟨some ⟨g, 0, none⟩, cap, rfl, .inr ⟨g, cur, rfl, by omega, hgg, fun j x hx => ?_⟩⟩
   have hc := h.cells (g := g) rfl j (Value.int .i64 x) (by rw [List.getElem?_map, hx]; rfl)
   rw [addB, cell_p hgg] at hc
   exact hc
theorem okI_wf {x : Int} (h : (Lit.int .i64 x).wf = true) : okI x := by
 simp only [Lit.wf, IntKind.min, IntKind.max, IntKind.signed, IntKind.bits, Bool.and_eq_true, decide_eq_true_eq, if_true] at h
 unfold okI
 omega
set_option maxRecDepth 20000 in
set_option maxHeartbeats 4000000 in
theorem data_w (w0 : World) (p M hb r l b g li c n N : Nat) (D : DataW Unit) (today : Int) (w : World) (hB : Below w0.heap.size w0 w) (h : HallAt w0 hb r l b g li c n D today) (hR : RefAt w0 r N) (hw : WOk w0.heap.size p M w)
 (hM : M ≤ 1000000) (hn : n ≤ 300) (hN : N ≤ 1000) (ht : okI today) :
 Calls Tryz.prog 29 #[.pointer (some ⟨hb, 0, none⟩), .pointer (some ⟨p, 0, none⟩)] w fun e w' => (∃ u, e = .returned u) ∧ WOk w0.heap.size p (M + 10000000) w' ∧ Below w0.heap.size w0 w' := by
 have HH := Lib.hid h
 have HR := Lib.hid hR
 have HB := Lib.hid hB
 have hA := h.new hB
 have k0 := hA.cells.1
 have k1 := hA.cref
 unfold p0 at k0 k1
 have HD := Lib.hid (holidays_any c n D w hA.cal (by omega))
 have HP : Hid (p < w.heap.size) := Lib.hid (by obtain ⟨s, hs, _⟩ := hw; exact (wrS_le hs).2)
 have HW := Lib.hid hw
 clear h hR hB hA hw
 go_enter Tryz.func29, Tryz.ntmps29
 go_upto_region 1 with (go_at_call 79; refine HD.out.mono ?_; rintro e w1 ⟨v, ss, rfl, hs, hok0, ho, hb1⟩; obtain ⟨A, cc, rfl, hrow⟩ := irow_of ho HP.out)
 have hok : ∀ x ∈ ss, okI x := hok0
 have hB1 := HB.out.trans (hb1.mono HB.out.size)
 have hA1 := HH.out.new hB1
 obtain ⟨j0, _, _, j5, _⟩ := hA1.cells
 have hw1 := HW.out.new hb1
 have HNum : Hid (Calls Tryz.prog 80 #[.pointer (some ⟨p, 0, none⟩), .slice (some ⟨w1.heap.size, 0, none⟩) 2 2] (w1.alloc (.cells #[.int .i64 today, .int .i64 (ss.length : Int)] 3)) (WPost w0.heap.size p (M + 20) w1)) :=
  Lib.hid (num_w w0.heap.size p M [today, (ss.length : Int)] w1 hw1 (by simp only [List.mem_cons, List.not_mem_nil, or_false]; rintro x (rfl | rfl); exact ht; unfold okI; omega) (by omega) (by simp))
 have H1 := Lib.hid (And.intro hok (And.intro hB1 (And.intro hrow hs)))
 clear hok hok0 hB1 hA1 hrow ho hb1 hw1 hs k0 k1
 go_upto_region 2 with (go_at_call 80; refine HNum.out.mono ?_; rintro e w2 ⟨⟨u2, rfl⟩, hw2, hb2, hk2⟩)
 have HI2 := Lib.hid (H1.out.2.2.1.keeps hk2)
 have HB2 := Lib.hid (H1.out.2.1.trans hb2)
 have HN2 := Lib.hid (num_row w0.heap.size p (M + 20) A ss.length cc ss w2 hw2 HI2.out.ints.1 rfl HI2.out.ints.2 H1.out.1 (by omega) (by have := H1.out.2.2.2; omega))
 clear j0 j5 hw2 hb2 hk2
 go_upto_region 3 with (go_at_call 80; refine HN2.out.mono ?_; rintro e w3 ⟨⟨u3, rfl⟩, hw3, hb3, hk3⟩)
 have hB3 := HB2.out.trans hb3
 have HB3 := Lib.hid hB3
 have HW3 := Lib.hid (hw3.mono (show M + 20 + 10 * ss.length ≤ M + 3020 by have := H1.out.2.2.2; omega))
 obtain ⟨k0, _, _, _, _⟩ := (HH.out.new hB3).cells
 unfold p0 at k0
 have HK := Lib.hid (World.block_lt_of_cell? w3 _ k0)
 clear hw3 hb3 hk3 hB3
 have hS0 : Below w3.heap.size w3 w3.drew := sb_drew (Below.refl _ _)
 go_region_held3 (fun w' => Below w3.heap.size w3 w' ∧ w'.cell? ⟨hb, 0, none⟩ = some (.pointer (some ⟨r, 0, none⟩)))
  (first
   | (have hI : Below w3.heap.size w3 _ := (by first | assumption | exact sb_drew (by assumption) | exact Below.refl _ _)
      exact ⟨hI, (hI.cell (p := ⟨hb, 0, none⟩) HK.out).trans k0⟩)
   | go_keep)
  ((first
    | (go_at_call 81; refine (parties_any r N _ (HR.out.new (HB3.out.trans ((show Below w3.heap.size w3 _ by first | assumption | exact sb_drew (by assumption)).mono HB3.out.size))) (by omega)).mono ?_; rintro e wa ⟨va, ma, csa, rfl, hca, hma, hoka, hoa, hba⟩; have hxa : Below w3.heap.size w3 wa := sb_step (by first | assumption | exact sb_drew (by assumption)) hba)
    | (go_at_call 82; refine (accounts_any r N _ (HR.out.new (HB3.out.trans ((show Below w3.heap.size w3 _ by first | assumption | exact sb_drew (by assumption)).mono HB3.out.size))) (by omega)).mono ?_; rintro e wb ⟨vb, mb, csb, rfl, hcb, hmb, hokb, hob, hbb⟩; have hxb : Below w3.heap.size w3 wb := sb_step (by first | assumption | exact sb_drew (by assumption)) hbb)
    | (go_at_call 83; refine (assets_any r N _ (HR.out.new (HB3.out.trans ((show Below w3.heap.size w3 _ by first | assumption | exact sb_drew (by assumption)).mono HB3.out.size))) (by omega)).mono ?_; rintro e wc ⟨vc, mc, csc, rfl, hcc, hmc, hokc, hoc, hbc⟩; have hxc : Below w3.heap.size w3 wc := sb_step (by first | assumption | exact sb_drew (by assumption)) hbc)))
 have hp3 : p < w3.drew.heap.size := by obtain ⟨s, hs, _⟩ := HW3.out; exact (wrS_le hs).2
 obtain ⟨Aa, cca, rfl, hra⟩ := srow_of hoa hca (fun c hc => by obtain ⟨_, _, rfl, _⟩ := hoka c hc; rfl) hp3
 obtain ⟨Ab, ccb, rfl, hrb⟩ := srow_of hob hcb (fun c hc => by obtain ⟨_, _, rfl, _⟩ := hokb c hc; rfl) (Nat.lt_of_lt_of_le hp3 hba.size)
 obtain ⟨Ac, ccc, rfl, hrc⟩ := srow_of hoc hcc (fun c hc => by obtain ⟨_, _, _, _, _, _, _, _, rfl, _⟩ := hokc c hc; rfl) (Nat.lt_of_lt_of_le hp3 (Nat.le_trans hba.size hbb.size))
 have HQa := Lib.hid (And.intro ((hra.new hbb).new hbc) (And.intro hoka (And.intro hca hma)))
 have HQb := Lib.hid (And.intro (hrb.new hbc) (And.intro hokb (And.intro hcb hmb)))
 have HQc := Lib.hid (And.intro hrc (And.intro hokc (And.intro hcc hmc)))
 have HC := Lib.hid (HB3.out.trans (hxc.mono HB3.out.size))
 have HWc := Lib.hid (HW3.out.new hxc)
 have HN4 : Hid (Calls Tryz.prog 80 #[.pointer (some ⟨p, 0, none⟩), .slice (some ⟨wc.heap.size, 0, none⟩) 3 3] (wc.alloc (.cells #[.int .i64 (ma : Int), .int .i64 (mb : Int), .int .i64 (mc : Int)] 3)) (WPost w0.heap.size p (M + 3020 + 30) wc)) :=
  Lib.hid (num_w w0.heap.size p (M + 3020) [(ma : Int), (mb : Int), (mc : Int)] wc HWc.out (by simp only [List.mem_cons, List.not_mem_nil, or_false]; rintro x (rfl | rfl | rfl) <;> (unfold okI; omega)) (by omega) (by simp))
 clear hra hrb hrc hoa hob hoc hba hbb hbc hxa hxb hxc hS0 k0 hoka hokb hokc hca hcb hcc hma hmb hmc hp3
 go_upto_region 5 with (go_at_call 80; refine HN4.out.mono ?_; rintro e w4 ⟨⟨u4, rfl⟩, hw4, hb4, hk4⟩)
 have HR4a := Lib.hid (HQa.out.1.keeps (by decide) hk4)
 have HR4b := Lib.hid (HQb.out.1.keeps (by decide) hk4)
 have HR4c := Lib.hid (HQc.out.1.keeps (by decide) hk4)
 have HB4 := Lib.hid (HC.out.trans hb4)
 have HW4 := Lib.hid hw4
 clear hw4 hb4 hk4
 go_wp2_with fail
 go_loopw [60] (fun i wr => ∃ k : Nat, i = .int .i64 k ∧ k ≤ ma ∧ WOk w0.heap.size p (M + 3050 + 1020 * k) wr ∧ Below w0.heap.size w0 wr ∧ Keeps p w4 wr) (fun i _ => ma - (intOf i).toNat)
 case atStart => exact ⟨0, rfl, Nat.zero_le _, HW4.out, HB4.out, Keeps.refl _ _⟩
 case round =>
  obtain ⟨k, rfl, hk, hwk, hbk, hkk⟩ := hrel
  by_cases hlt : k < ma
  · have hkl : k < csa.length := by have := HQa.out.2.2.1; omega
    have hck := List.getElem?_eq_getElem hkl
    obtain ⟨x0, x1, hx, hx0, hx1⟩ := HQa.out.2.1 _ (List.getElem_mem hkl)
    rw [hx] at hck
    obtain ⟨q, hA, hat⟩ := (HR4a.out.keeps (by decide) hkk).at hck
    subst hA
    have a0 : wr.cell? ⟨q, k * 2, none⟩ = some (.string x0) := hat 0 _ rfl
    have a1 : wr.cell? ⟨q, k * 2 + 1, none⟩ = some (.int .i64 x1) := hat 1 _ rfl
    have hma := HQa.out.2.2.2
    have hbw : Below wr.heap.size wr (wr.alloc (.cells #[.string x0, .int .i64 x1] 156)) := (Below.refl _ wr).alloc (Nat.le_refl _) _
    have hbox : (wr.alloc (.cells #[.string x0, .int .i64 x1] 156)).heap[wr.heap.size]? = some (.cells #[.string x0, .int .i64 x1] 156 (0, 0)) := heap_alloc_new wr _
    have hne : wr.heap.size ≠ p := by obtain ⟨s, hs, _⟩ := hwk; have := (wrS_le hs).2; omega
    have HT0 := text_w w0.heap.size p (M + 3050 + 1020 * k) [x0] _ (hwk.new hbw) (by simpa using hx0) (by omega) (by simp)
    rw [World.size_alloc] at HT0
    have HT : Hid (Calls Tryz.prog 84 #[.pointer (some ⟨p, 0, none⟩), .slice (some ⟨wr.heap.size + 1, 0, none⟩) 1 1] ((wr.alloc (.cells #[.string x0, .int .i64 x1] 156)).alloc (.cells #[.string x0] 9)) (WPost w0.heap.size p (M + 3050 + 1020 * k + 1010) (wr.alloc (.cells #[.string x0, .int .i64 x1] 156)))) := Lib.hid HT0
    have HX1 := Lib.hid hx1
    have HBX := Lib.hid (And.intro hbox hne)
    have HB := Lib.hid (And.intro (hbk.trans (hbw.mono hbk.size)) (hkk.trans (keeps_alloc p wr (.cells #[.string x0, .int .i64 x1] 156))))
    clear hwk hbk hkk hx hx0 hx1 hck hat HT0 hbw hbox hne
    go_upto_region 9 with (go_at_call 84; refine HT.out.mono ?_; rintro e w5 ⟨⟨u5, rfl⟩, hw5, hb5, hk5⟩)
    obtain ⟨z, hz⟩ : ∃ z, wr.heap.size = z := ⟨_, rfl⟩
    rw [hz] at HBX ⊢
    clear hz
    have d1 : w5.cell? ⟨z, 1, none⟩ = some (.int .i64 x1) := by rw [cell_p ((hk5 _ _ _ HBX.out.1 (by decide) HBX.out.2).trans HBX.out.1)]; rfl
    have HN5 : Hid (Calls Tryz.prog 80 #[.pointer (some ⟨p, 0, none⟩), .slice (some ⟨w5.heap.size, 0, none⟩) 1 1] (w5.alloc (.cells #[.int .i64 x1] 3)) (WPost w0.heap.size p (M + 3050 + 1020 * k + 1010 + 10) w5)) :=
     Lib.hid (num_w w0.heap.size p (M + 3050 + 1020 * k + 1010) [x1] w5 hw5 (by simpa using okI_wf HX1.out) (by omega) (by simp))
    have HB5 := Lib.hid (And.intro (HB.out.1.trans hb5) (HB.out.2.trans hk5))
    clear hw5 hb5 hk5 HT a0 a1
    go_wp2_with (go_at_call 80; refine HN5.out.mono ?_; rintro e w6 ⟨⟨u6, rfl⟩, hw6, hb6, hk6⟩)
    go_roundw
    case rel => exact ⟨k + 1, by go_num, by omega, hw6.mono (by omega), HB5.out.1.trans hb6, HB5.out.2.trans hk6⟩
    case measure => simp [intOf]; omega
  · have HA4 := Lib.hid (And.intro (hwk.mono (show M + 3050 + 1020 * k ≤ M + 3050 + 1020000 by have := HQa.out.2.2.2; omega)) (And.intro hbk hkk))
    clear hwk hbk hkk
    go_wp2_with fail
    go_loopw [77] (fun i wr => ∃ k : Nat, i = .int .i64 k ∧ k ≤ mb ∧ WOk w0.heap.size p (M + 1023050 + 2020 * k) wr ∧ Below w0.heap.size w0 wr ∧ Keeps p w4 wr) (fun i _ => mb - (intOf i).toNat)
    case atStart => exact ⟨0, rfl, Nat.zero_le _, HA4.out.1.mono (by omega), HA4.out.2.1, HA4.out.2.2⟩
    case round =>
     obtain ⟨k2, rfl, hk2, hwk, hbk, hkk⟩ := hrel
     by_cases hlt : k2 < mb
     · have hkl : k2 < csb.length := by have := HQb.out.2.2.1; omega
       have hck := List.getElem?_eq_getElem hkl
       obtain ⟨y0, y1, hx, hx0, hx1⟩ := HQb.out.2.1 _ (List.getElem_mem hkl)
       rw [hx] at hck
       obtain ⟨q, hA, hat⟩ := (HR4b.out.keeps (by decide) hkk).at hck
       subst hA
       have a0 : wr.cell? ⟨q, k2 * 2, none⟩ = some (.string y0) := hat 0 _ rfl
       have a1 : wr.cell? ⟨q, k2 * 2 + 1, none⟩ = some (.string y1) := hat 1 _ rfl
       have hmb := HQb.out.2.2.2
       have hbw : Below wr.heap.size wr (wr.alloc (.cells #[.string y0, .string y1] 158)) := (Below.refl _ wr).alloc (Nat.le_refl _) _
       have HT0 := text_w w0.heap.size p (M + 1023050 + 2020 * k2) [y0, y1] _ (hwk.new hbw) (by simp; exact ⟨hx0, hx1⟩) (by omega) (by simp)
       rw [World.size_alloc] at HT0
       have HT : Hid (Calls Tryz.prog 84 #[.pointer (some ⟨p, 0, none⟩), .slice (some ⟨wr.heap.size + 1, 0, none⟩) 2 2] ((wr.alloc (.cells #[.string y0, .string y1] 158)).alloc (.cells #[.string y0, .string y1] 9)) (WPost w0.heap.size p (M + 1023050 + 2020 * k2 + 2020) (wr.alloc (.cells #[.string y0, .string y1] 158)))) := Lib.hid HT0
       have HB := Lib.hid (And.intro (hbk.trans (hbw.mono hbk.size)) (hkk.trans (keeps_alloc p wr (.cells #[.string y0, .string y1] 158))))
       clear hwk hbk hkk hx hx0 hx1 hck hat HT0 hbw
       go_wp2_with (go_at_call 84; refine HT.out.mono ?_; rintro e w5 ⟨⟨u5, rfl⟩, hw5, hb5, hk5⟩)
       go_roundw
       case rel => exact ⟨k2 + 1, by go_num, by omega, hw5.mono (by omega), HB.out.1.trans hb5, HB.out.2.trans hk5⟩
       case measure => simp [intOf]; omega
     · have HA5 := Lib.hid (And.intro (hwk.mono (show M + 1023050 + 2020 * k2 ≤ M + 1023050 + 2020000 by have := HQb.out.2.2.2; omega)) (And.intro hbk hkk))
       clear hwk hbk hkk
       go_wp2_with fail
       go_loopw [91] (fun i wr => ∃ k : Nat, i = .int .i64 k ∧ k ≤ mc ∧ WOk w0.heap.size p (M + 3043050 + 1062 * k) wr ∧ Below w0.heap.size w0 wr ∧ Keeps p w4 wr) (fun i _ => mc - (intOf i).toNat)
       case atStart => exact ⟨0, rfl, Nat.zero_le _, HA5.out.1.mono (by omega), HA5.out.2.1, HA5.out.2.2⟩
       case round =>
        obtain ⟨k3, rfl, hk3, hwk, hbk, hkk⟩ := hrel
        by_cases hlt : k3 < mc
        · have hkl : k3 < csc.length := by have := HQc.out.2.2.1; omega
          have hck := List.getElem?_eq_getElem hkl
          obtain ⟨z0, z1, z2, z3, z4, z5, z6, z7, hx, hx0, hx3, hx4, hx5, hx6, hx7⟩ := HQc.out.2.1 _ (List.getElem_mem hkl)
          rw [hx] at hck
          obtain ⟨q, hA, hat⟩ := (HR4c.out.keeps (by decide) hkk).at hck
          subst hA
          have a0 : wr.cell? ⟨q, k3 * 8, none⟩ = some (.string z0) := hat 0 _ rfl
          have a1 : wr.cell? ⟨q, k3 * 8 + 1, none⟩ = some (.bool z1) := hat 1 _ rfl
          have a2 : wr.cell? ⟨q, k3 * 8 + 2, none⟩ = some (.bool z2) := hat 2 _ rfl
          have a3 : wr.cell? ⟨q, k3 * 8 + 3, none⟩ = some (.int .i64 z3) := hat 3 _ rfl
          have a4 : wr.cell? ⟨q, k3 * 8 + 4, none⟩ = some (.int .i64 z4) := hat 4 _ rfl
          have a5 : wr.cell? ⟨q, k3 * 8 + 5, none⟩ = some (.int .i64 z5) := hat 5 _ rfl
          have a6 : wr.cell? ⟨q, k3 * 8 + 6, none⟩ = some (.int .i64 z6) := hat 6 _ rfl
          have a7 : wr.cell? ⟨q, k3 * 8 + 7, none⟩ = some (.int .i64 z7) := hat 7 _ rfl
          have hmc := HQc.out.2.2.2
          have hbw : Below wr.heap.size wr (wr.alloc (.cells #[.string z0, .bool z1, .bool z2, .int .i64 z3, .int .i64 z4, .int .i64 z5, .int .i64 z6, .int .i64 z7] 160)) := (Below.refl _ wr).alloc (Nat.le_refl _) _
          have hbox : (wr.alloc (.cells #[.string z0, .bool z1, .bool z2, .int .i64 z3, .int .i64 z4, .int .i64 z5, .int .i64 z6, .int .i64 z7] 160)).heap[wr.heap.size]? = some (.cells #[.string z0, .bool z1, .bool z2, .int .i64 z3, .int .i64 z4, .int .i64 z5, .int .i64 z6, .int .i64 z7] 160 (0, 0)) := heap_alloc_new wr _
          have hne : wr.heap.size ≠ p := by obtain ⟨s, hs, _⟩ := hwk; have := (wrS_le hs).2; omega
          have HT0 := text_w w0.heap.size p (M + 3043050 + 1062 * k3) [z0] _ (hwk.new hbw) (by simpa using hx0) (by omega) (by simp)
          rw [World.size_alloc] at HT0
          have HT : Hid (Calls Tryz.prog 84 #[.pointer (some ⟨p, 0, none⟩), .slice (some ⟨wr.heap.size + 1, 0, none⟩) 1 1] ((wr.alloc (.cells #[.string z0, .bool z1, .bool z2, .int .i64 z3, .int .i64 z4, .int .i64 z5, .int .i64 z6, .int .i64 z7] 160)).alloc (.cells #[.string z0] 9)) (WPost w0.heap.size p (M + 3043050 + 1062 * k3 + 1010) (wr.alloc (.cells #[.string z0, .bool z1, .bool z2, .int .i64 z3, .int .i64 z4, .int .i64 z5, .int .i64 z6, .int .i64 z7] 160)))) := Lib.hid HT0
          have HX1 := Lib.hid (And.intro (okI_wf hx3) (And.intro (okI_wf hx4) (And.intro (okI_wf hx5) (And.intro (okI_wf hx6) (okI_wf hx7)))))
          have HBX := Lib.hid (And.intro hbox hne)
          have HB := Lib.hid (And.intro (hbk.trans (hbw.mono hbk.size)) (hkk.trans (keeps_alloc p wr (.cells #[.string z0, .bool z1, .bool z2, .int .i64 z3, .int .i64 z4, .int .i64 z5, .int .i64 z6, .int .i64 z7] 160))))
          clear hwk hbk hkk hx hx0 hx3 hx4 hx5 hx6 hx7 hck hat HT0 hbw hbox hne
          go_upto_region 20 with (go_at_call 84; refine HT.out.mono ?_; rintro e w5 ⟨⟨u5, rfl⟩, hw5, hb5, hk5⟩)
          obtain ⟨z, hz⟩ : ∃ z, wr.heap.size = z := ⟨_, rfl⟩
          rw [hz] at HBX ⊢
          clear hz a0 a1 a2 a3 a4 a5 a6 a7 HT
          have hx5 := (hk5 _ _ _ HBX.out.1 (by decide) HBX.out.2).trans HBX.out.1
          have d1 : w5.cell? ⟨z, 1, none⟩ = some (.bool z1) := by rw [cell_p hx5]; rfl
          have d2 : w5.cell? ⟨z, 2, none⟩ = some (.bool z2) := by rw [cell_p hx5]; rfl
          have HW5 : Hid (Calls Tryz.prog 85 #[.pointer (some ⟨p, 0, none⟩), .slice (some ⟨w5.heap.size, 0, none⟩) 2 2] (w5.alloc (.cells #[.bool z1, .bool z2] 4)) (WPost w0.heap.size p (M + 3043050 + 1062 * k3 + 1010 + 2) w5)) :=
           Lib.hid (bool_w w0.heap.size p (M + 3043050 + 1062 * k3 + 1010) [z1, z2] w5 hw5 (by omega) (by simp))
          have HB5 := Lib.hid (And.intro (HB.out.1.trans hb5) (HB.out.2.trans hk5))
          have HX5 := Lib.hid hx5
          clear hw5 hb5 hk5 hx5
          go_upto_region 21 with (go_at_call 85; refine HW5.out.mono ?_; rintro e w6 ⟨⟨u6, rfl⟩, hw6, hb6, hk6⟩)
          clear d1 d2
          have hx6 := (hk6 _ _ _ HX5.out (by decide) HBX.out.2).trans HX5.out
          have d3 : w6.cell? ⟨z, 3, none⟩ = some (.int .i64 z3) := by rw [cell_p hx6]; rfl
          have d4 : w6.cell? ⟨z, 4, none⟩ = some (.int .i64 z4) := by rw [cell_p hx6]; rfl
          have d5 : w6.cell? ⟨z, 5, none⟩ = some (.int .i64 z5) := by rw [cell_p hx6]; rfl
          have d6 : w6.cell? ⟨z, 6, none⟩ = some (.int .i64 z6) := by rw [cell_p hx6]; rfl
          have d7 : w6.cell? ⟨z, 7, none⟩ = some (.int .i64 z7) := by rw [cell_p hx6]; rfl
          have HN6 : Hid (Calls Tryz.prog 80 #[.pointer (some ⟨p, 0, none⟩), .slice (some ⟨w6.heap.size, 0, none⟩) 5 5] (w6.alloc (.cells #[.int .i64 z3, .int .i64 z4, .int .i64 z5, .int .i64 z6, .int .i64 z7] 3)) (WPost w0.heap.size p (M + 3043050 + 1062 * k3 + 1010 + 2 + 50) w6)) :=
           Lib.hid (num_w w0.heap.size p (M + 3043050 + 1062 * k3 + 1010 + 2) [z3, z4, z5, z6, z7] w6 hw6 (by simp; exact HX1.out) (by omega) (by simp))
          have HB6 := Lib.hid (And.intro (HB5.out.1.trans hb6) (HB5.out.2.trans hk6))
          clear hw6 hb6 hk6 hx6
          go_wp2_with (go_at_call 80; refine HN6.out.mono ?_; rintro e w7 ⟨⟨u7, rfl⟩, hw7, hb7, hk7⟩)
          go_roundw
          case rel => exact ⟨k3 + 1, by go_num, by omega, hw7.mono (by omega), HB6.out.1.trans hb7, HB6.out.2.trans hk7⟩
          case measure => simp [intOf]; omega
        · have HE := Lib.hid (And.intro (hwk.mono (show M + 3043050 + 1062 * k3 ≤ M + 10000000 by have := HQc.out.2.2.2; omega)) hbk)
          clear hwk hbk hkk
          go_wp2_with fail
          go_end0
          exact ⟨⟨_, rfl⟩, HE.out.1, HE.out.2⟩
end Go.Proofs.YtmfmjhklajmhoaaGreat.Ed
