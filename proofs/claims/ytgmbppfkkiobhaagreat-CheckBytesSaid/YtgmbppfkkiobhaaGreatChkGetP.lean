/- check.Get reads a set. -/
import Derived.Test.YtgmbppfkkiobhaaGreatChkRp
import Derived.Deep.RegionLaw
import Derived.Deep.AppendLies
namespace Go.Proofs.YtgmbppfkkiobhaaGreat.Wire
open Go Go.RowKit Go.Lib
theorem own_read {p : Nat} {tR : TypeId} {R : RS → World → Prop} (H : RdOf p tR R) {s : RS} {w w' : World} {base e size n : Nat} {v : Value} {xs : List Value} (h : w.ownsRow base e size v n xs) (hR : R s w) (ht : e ≠ tR) (hg : w.grownBy w' (some p)) : w'.ownsRow base e size v n xs := by
  obtain ⟨cs, hc⟩ := H.blk hR
  exact h.kept hg (.inr (own_ne h hc ht))
set_option maxRecDepth 20000 in
set_option maxHeartbeats 2000000 in
theorem getP_any (p : Nat) (s0 : RS) (w : World) (h : RP p s0 w) :
    Calls Tryz.prog 14 #[.pointer (some ⟨p, 0, none⟩)] w fun en w' => ∃ v1 v2, en = .returned (.agg #[v1, v2]) ∧ w.grownBy w' (some p) ∧ RP p (rSet s0).2 w' ∧ SetVal w' v1 v2 (rSet s0).1 := by
  obtain ⟨i0, hi0, hz0, hz1, hz2⟩ := info_parts leg_info
  obtain ⟨j0, hj0, hy0, hy1, hy2⟩ := info_parts tk_info
  obtain ⟨l0, hl0, hx0, hx1, hx2⟩ := info_parts pl_info
  have hpl : p < w.heap.size := by obtain ⟨cs, hc⟩ := (RP.of p).blk h; exact blk_lt hc
  have HP := Lib.hid hpl
  have HR := Lib.hid h
  clear h hpl
  go_enter Tryz.func14, Tryz.ntmps14
  go_wp2_with fail
  have HG0 : Hid (GA p (w.heap.size + 1) w.heap.size 39 (RP p) w s0 (.slice none 0 0) (.slice none 0 0) ((w.alloc (.cells #[.slice none 0 0, .slice none 0 0] 39 (0, 0))).alloc (.cells #[.slice none 0 0, .slice none 0 0] 39 (0, 0)))) := Lib.hid
    ⟨(World.grownBy_alloc w _ (some p)).trans (World.grownBy_alloc _ _ _), (RP.of p).keep ((RP.of p).keep HR.out (World.grownBy_alloc w _ none) (by simp)) (World.grownBy_alloc _ _ none) (by simp),
      by have := heap_alloc_new (w.alloc (.cells #[.slice none 0 0, .slice none 0 0] 39 (0, 0))) (.cells #[.slice none 0 0, .slice none 0 0] 39 (0, 0)); simpa using this,
      (Below.heap_alloc _ _ _ (by simp)).trans (heap_alloc_new w _)⟩
  obtain ⟨q, hq⟩ : ∃ q, w.heap.size + 1 = q := ⟨_, rfl⟩
  obtain ⟨r0, hr0⟩ : ∃ r0, w.heap.size = r0 := ⟨_, rfl⟩
  have HQ : Hid (q ≠ p ∧ q ≠ r0 ∧ r0 ≠ p ∧ w.heap.size ≤ q ∧ w.heap.size ≤ r0 ∧ q + 1 = w.heap.size + 2 ∧ r0 < w.heap.size + 2 ∧ p < w.heap.size) := Lib.hid (by have := HP.out; omega)
  rw [hq, hr0] at HG0
  rw [hq, hr0]
  clear hq hr0
  refine (HG0.out.rd.count 120).mono ?_
  rintro e w1 ⟨rfl, hg1, hR1⟩
  obtain ⟨N, hN, hNm⟩ := rCount_rng2 (most := 120) (by decide) s0
  rw [hN]
  have HN := Lib.hid hN
  obtain ⟨s1, hs1⟩ : ∃ s1, (rCount 120 s0).2 = s1 := ⟨_, rfl⟩
  rw [hs1] at hR1
  have HS1 := Lib.hid hs1
  have HG1 := Lib.hid (HG0.out.read HQ.out.1 HQ.out.2.2.1 hg1 hR1)
  have HNM := Lib.hid hNm
  have HSZ : Hid (w.heap.size + 2 ≤ w1.heap.size) := Lib.hid (by have := hg1.size; simpa using this)
  clear hs1 hR1 hg1 hN hNm HG0
  go_wp2_with fail
  go_loopw [7] (fun i wr => ∃ k : Nat, i = .int .i64 k ∧ k ≤ N ∧ w.heap.size + 2 ≤ wr.heap.size ∧ ∃ (xs : List LegD) (s : RS) (v1 : Value), xs.length = k ∧ GA p q r0 39 (RP p) w s v1 (.slice none 0 0) wr ∧ wr.ownsRow (w.heap.size + 2) 99 2 v1 k (legCells xs) ∧ rMany rLeg N s1 = (xs ++ (rMany rLeg (N - k) s).1, (rMany rLeg (N - k) s).2)) (fun i _ => N - (intOf i).toNat)
  case atStart => exact ⟨0, rfl, Nat.zero_le _, HSZ.out, [], s1, .slice none 0 0, rfl, HG1.out, World.ownsRow_nil _ _ _ _, rfl⟩
  case round =>
    obtain ⟨k, rfl, hk, hsz, xs, s, v1, hxs, hG, hown, hrm⟩ := hrel
    have HG := Lib.hid hG
    have HOW := Lib.hid hown
    have HXS := Lib.hid hxs
    have HRM := Lib.hid hrm
    have HSZ2 := Lib.hid hsz
    clear hG hown hxs hrm hsz
    obtain ⟨W1, rfl⟩ : ∃ W : World, W = wr := ⟨wr, rfl⟩
    by_cases hlt : k < N
    · go_wp2_with fail
      have hqw : q < W1.heap.size := blk_lt HG.out.box
      have hqp : some q ≠ some p := fun e => HQ.out.1 (Option.some.inj e)
      have hqv : some q ≠ v1.ownBlock := fun e => by have h1 := own_ge HOW.out q e.symm; have h2 := HQ.out; omega
      have b0 : W1.cell? ⟨q, 0, none⟩ = some v1 := by rw [cell_p HG.out.box]; rfl
      have bf : W1.frozen? ⟨q, 0, none⟩ = false := frozen_p HG.out.box
      have b0d : W1.drew.cell? ⟨q, 0, none⟩ = some v1 := by simpa using b0
      have bfd : W1.drew.frozen? ⟨q, 0, none⟩ = false := by simpa using bf
      have HRD : Hid (RP p s W1.drew) := Lib.hid ((RP.of p).drew HG.out.rd)
      have HOD : Hid (W1.drew.ownsRow (w.heap.size + 2) 99 2 v1 k (legCells xs)) := Lib.hid HOW.out.drew
      have hk120 : k + 1 ≤ 120 := by have := HNM.out; omega
      have HK := Lib.hid hk120
      have hkI : (k : Int) ≤ 1000 := by omega
      clear hk120
      go_region_law ((first
          | (go_simp; go_at_call 39; with_reducible refine Calls.mono hR2.num ?_; rintro e w3 ⟨rfl, hg3, hR3⟩; have c3 : w3.cell? ⟨q, 0, none⟩ = some v1 := by { rw [hg3.cell_far _ (Nat.lt_of_lt_of_le hqw hg2.size) hqp]; exact c2 }; have f3 : w3.frozen? ⟨q, 0, none⟩ = false := by { rw [hg3.frozen_far _ (Nat.lt_of_lt_of_le hqw hg2.size) hqp]; exact f2 }; have cA : ∀ o, (w3.alloc o).cell? ⟨q, 0, none⟩ = some v1 := fun o => by { rw [(World.grownBy_alloc w3 o none).cell_far _ (Nat.lt_of_lt_of_le (Nat.lt_of_lt_of_le hqw hg2.size) hg3.size) (by simp)]; exact c3 })
          | (go_simp; go_at_call 39; with_reducible refine Calls.mono HRD.out.num ?_; rintro e w2 ⟨rfl, hg2, hR2⟩; have c2 : w2.cell? ⟨q, 0, none⟩ = some v1 := by { rw [hg2.cell_far _ hqw hqp]; exact b0d }; have f2 : w2.frozen? ⟨q, 0, none⟩ = false := by { rw [hg2.frozen_far _ hqw hqp]; exact bfd })
          | (have ho3 := own_read (RP.of p) (own_read (RP.of p) HOD.out HRD.out (by decide) hg2) hR2 (by decide) hg3
             have hS3 : w.heap.size + 2 ≤ w3.heap.size := Nat.le_trans (Nat.le_trans HSZ2.out hg2.size) hg3.size
             refine step_append_lies _ (by rfl) _ _ _ (by rfl) (w.heap.size + 2) 99 i0 _ 2 16 Tryz.underlying34 hi0 hz0 hz1 hz2 rfl (by omega) v1 k (legCells xs) (by rfl) (ho3.alloc _)
               ⟨w3.heap.size, 0, none⟩ 1 1 [.int .i64 (rNum s).1, .int .i64 (rNum (rNum s).2).1] (by rfl) (by rfl) (World.news_of_block (cs := #[.int .i64 (rNum s).1, .int .i64 (rNum (rNum s).2).1]) (t := 99) (fr := (0, 0)) (heap_alloc_new w3 _)) (by simp [Value.oneCell'])
               (by omega) (by have := HK.out; unfold maxLen; omega) (by have := HK.out; omega) (by simp; omega) (w3.heap.size + 1) (by simp) ?_
             intro g4 cap4 w4 hown4 hg4 hat4 hlt4
             have c4 : w4.cell? ⟨q, 0, none⟩ = some v1 := by { rw [hg4.cell_far _ (Nat.lt_of_lt_of_le (Nat.lt_of_lt_of_le (Nat.lt_of_lt_of_le hqw hg2.size) hg3.size) (World.grownBy_alloc w3 _ none).size) hqv, (World.grownBy_alloc w3 _ none).cell_far _ (Nat.lt_of_lt_of_le (Nat.lt_of_lt_of_le hqw hg2.size) hg3.size) (by simp)]; exact c3 }
             have f4 : w4.frozen? ⟨q, 0, none⟩ = false := by { rw [hg4.frozen_far _ (Nat.lt_of_lt_of_le (Nat.lt_of_lt_of_le (Nat.lt_of_lt_of_le hqw hg2.size) hg3.size) (World.grownBy_alloc w3 _ none).size) hqv, (World.grownBy_alloc w3 _ none).frozen_far _ (Nat.lt_of_lt_of_le (Nat.lt_of_lt_of_le hqw hg2.size) hg3.size) (by simp)]; exact f3 })))
      all_goals
        have HGD := (HG.out.grow (RP.of p) (grownBy_drew W1 none) (fun _ e => by cases e)).read HQ.out.1 HQ.out.2.2.1 hg2 hR2
        have HG3 := HGD.read HQ.out.1 HQ.out.2.2.1 hg3 hR3
        have HO4 := Lib.hid hown4
        have HG4 := Lib.hid ((HG3.alloc (RP.of p) (.cells #[.int .i64 (rNum s).1, .int .i64 (rNum (rNum s).2).1] 99 (0, 0))).grow (RP.of p) hg4 (fun g e => by have h1 := own_ge HOW.out g e; have h2 := HQ.out; omega))
        have HS4 : Hid (w.heap.size + 2 ≤ w4.heap.size) := Lib.hid (by have hS3 : w.heap.size + 2 ≤ w3.heap.size := Nat.le_trans (Nat.le_trans HSZ2.out hg2.size) hg3.size; have h1 := hg4.size; simp at h1; omega)
        have HG5 := Lib.hid (HG4.out.put0 (RP.of p) HQ.out.1 HQ.out.2.1 HQ.out.2.2.2.1 (.slice (some ⟨g4, 0, none⟩) (k + 1) cap4))
        have HO5 := Lib.hid (HO4.out.kept (grownBy_setCell w4 q 0 (.slice (some ⟨g4, 0, none⟩) (k + 1) cap4)) (.inr (by intro e; have h1 := own_ge HO4.out q e; have h2 := HQ.out; omega)))
        go_wp2_with fail
        go_roundw
        case rel =>
          have hleg : (rLeg s) = (⟨(rNum s).1, (rNum (rNum s).2).1⟩, (rNum (rNum s).2).2) := rfl
          refine ⟨k + 1, by go_num, by omega, by have := HS4.out; simpa using this, xs ++ [⟨(rNum s).1, (rNum (rNum s).2).1⟩], (rNum (rNum s).2).2, _, by have := HXS.out; simp [this], HG5.out, by rw [legCells_snoc]; exact HO5.out, ?_⟩
          rw [HRM.out, rMany_step2 rLeg (N - k) s (by omega), hleg, show N - k - 1 = N - (k + 1) by omega]
          simp
        case measure => simp [intOf]; omega
    · have hkN : k = N := by omega
      have hrm0 : rMany rLeg N s1 = (xs, s) := by have := HRM.out; rw [this, hkN]; simp [rMany]
      have HRM0 := Lib.hid hrm0
      have HKN := Lib.hid hkN
      clear hrm0 hkN
      go_wp2_with fail
      refine (HG.out.rd.count 20).mono ?_
      rintro e w2 ⟨rfl, hg2, hR2⟩
      obtain ⟨M, hM, hMm⟩ := rCount_rng2 (most := 20) (by decide) s
      rw [hM]
      have HM := Lib.hid hM
      obtain ⟨s2, hs2⟩ : ∃ s2, (rCount 20 s).2 = s2 := ⟨_, rfl⟩
      rw [hs2] at hR2
      have HS2 := Lib.hid hs2
      have HB0 : Hid (GB p q r0 39 (RP p) w (w.heap.size + 2) k v1 xs [] s2 (.slice none 0 0) w2) := Lib.hid
        ((⟨HG.out, HOW.out, World.ownsRow_nil _ _ _ _, fun a ha => by simp at ha, HSZ2.out⟩ : GB p q r0 39 (RP p) w (w.heap.size + 2) k v1 xs [] s (.slice none 0 0) W1).read (RP.of p) HQ.out.1 HQ.out.2.2.1 (by decide) hg2 hR2)
      have HMM := Lib.hid hMm
      clear hs2 hR2 hg2 hM hMm
      go_wp2_with fail
      go_loopw [22] (fun i wr => ∃ k2 : Nat, i = .int .i64 k2 ∧ k2 ≤ M ∧ ∃ (ts : List (TakeD × Value)) (s : RS) (v2 : Value), ts.length = k2 ∧ GB p q r0 39 (RP p) w (w.heap.size + 2) k v1 xs ts s v2 wr ∧ rMany rTake M s2 = (ts.map (·.1) ++ (rMany rTake (M - k2) s).1, (rMany rTake (M - k2) s).2)) (fun i _ => M - (intOf i).toNat)
      case atStart => exact ⟨0, rfl, Nat.zero_le _, [], s2, .slice none 0 0, rfl, HB0.out, rfl⟩
      case round =>
        obtain ⟨k2, rfl, hk2, ts, sa, v2, hts, hB, hrm⟩ := hrel
        have HB := Lib.hid hB
        have HTS := Lib.hid hts
        have HRMT := Lib.hid hrm
        clear hB hts hrm
        obtain ⟨W2, rfl⟩ : ∃ W : World, W = wr := ⟨wr, rfl⟩
        by_cases hlt2 : k2 < M
        · go_wp2_with fail
          refine HB.out.ga.rd.text.mono ?_
          rintro e w3 ⟨rfl, hg3, hR3⟩
          have HB1 := Lib.hid (HB.out.read (RP.of p) HQ.out.1 HQ.out.2.2.1 (by decide) hg3 hR3)
          obtain ⟨xa, hxa⟩ : ∃ xa : ByteArray, ⟨(rText sa).1.toArray⟩ = xa := ⟨_, rfl⟩
          rw [hxa]
          have HXA := Lib.hid hxa
          clear hg3 hR3 hxa
          go_wp2_with fail
          refine HB1.out.ga.rd.text.mono ?_
          rintro e w4 ⟨rfl, hg4, hR4⟩
          have HB2 := Lib.hid (HB1.out.read (RP.of p) HQ.out.1 HQ.out.2.2.1 (by decide) hg4 hR4)
          obtain ⟨xc, hxc⟩ : ∃ xc : ByteArray, ⟨(rText (rText sa).2).1.toArray⟩ = xc := ⟨_, rfl⟩
          rw [hxc]
          have HXC := Lib.hid hxc
          clear hg4 hR4 hxc
          go_wp2_with fail
          refine HB2.out.ga.rd.num.mono ?_
          rintro e w5 ⟨rfl, hg5, hR5⟩
          have HB3 := Lib.hid (HB2.out.read (RP.of p) HQ.out.1 HQ.out.2.2.1 (by decide) hg5 hR5)
          obtain ⟨am, ham⟩ : ∃ am, (rNum (rText (rText sa).2).2).1 = am := ⟨_, rfl⟩
          rw [ham]
          have HAM := Lib.hid ham
          clear hg5 hR5 ham
          have HT6 := Lib.hid (HB3.out.take (RP.of p) (by have h2 := HQ.out; omega) #[.string xa, .string xc, .int .i64 am, .slice none 0 0])
          go_wp2_with fail
          refine (HT6.out.gb.ga.rd.count 12).mono ?_
          rintro e w6 ⟨rfl, hg6, hR6⟩
          have HT7 := Lib.hid (HT6.out.read (RP.of p) HQ.out.1 HQ.out.2.2.1 (by decide) hg6 hR6)
          obtain ⟨qt, hqt⟩ : ∃ qt, w5.heap.size = qt := ⟨_, rfl⟩
          rw [hqt] at HT7
          rw [hqt]
          have HQT := Lib.hid hqt
          clear hqt
          obtain ⟨sb, hsb⟩ : ∃ sb, (rNum (rText (rText sa).2).2).2 = sb := ⟨_, rfl⟩
          rw [hsb] at HT7
          rw [hsb]
          have HSB := Lib.hid hsb
          obtain ⟨J, hJ, hJm⟩ := rCount_rng2 (most := 12) (by decide) sb
          rw [hJ]
          have HJ := Lib.hid hJ
          have HJM := Lib.hid hJm
          obtain ⟨s3, hs3⟩ : ∃ s3, (rCount 12 sb).2 = s3 := ⟨_, rfl⟩
          rw [hs3] at HT7
          have HS3 := Lib.hid hs3
          clear hg6 hR6 hsb hs3 hJ hJm HT6
          go_wp2_with fail
          go_loopw [33] (fun i wl => ∃ j : Nat, i = .int .i64 j ∧ j ≤ J ∧ ∃ (ys : List PlD) (s : RS) (v3 : Value), ys.length = j ∧ GT p q r0 qt 39 (RP p) w (w.heap.size + 2) k v1 xs ts v2 #[.string xa, .string xc, .int .i64 am, v3] s wl ∧ wl.ownsRow (qt + 1) 112 2 v3 j (plCells ys) ∧ rMany rPl J s3 = (ys ++ (rMany rPl (J - j) s).1, (rMany rPl (J - j) s).2)) (fun i _ => J - (intOf i).toNat)
          case atStart => exact ⟨0, rfl, Nat.zero_le _, [], s3, .slice none 0 0, rfl, HT7.out, World.ownsRow_nil _ _ _ _, rfl⟩
          case round =>
            obtain ⟨j, rfl, hj, ys, sp, v3, hys, hT, hown, hrm⟩ := hrel
            have HT := Lib.hid hT
            have HO := Lib.hid hown
            have HYS := Lib.hid hys
            have HRMP := Lib.hid hrm
            clear hT hown hys hrm
            obtain ⟨W3, rfl⟩ : ∃ W : World, W = wr := ⟨wr, rfl⟩
            by_cases hlt3 : j < J
            · go_wp2_with fail
              have hqw : qt < W3.heap.size := blk_lt HT.out.bx
              have hqp : some qt ≠ some p := fun e => by have h1 := HT.out.qn.1; exact h1 (Option.some.inj e)
              have hqv : some qt ≠ v3.ownBlock := fun e => by have h1 := own_ge HO.out qt e.symm; omega
              have t3 : W3.cell? ⟨qt, 3, none⟩ = some v3 := by rw [cell_p HT.out.bx]; rfl
              have tf : W3.frozen? ⟨qt, 3, none⟩ = false := frozen_p HT.out.bx
              have b0d : W3.drew.cell? ⟨qt, 3, none⟩ = some v3 := by simpa using t3
              have bfd : W3.drew.frozen? ⟨qt, 3, none⟩ = false := by simpa using tf
              have HRD : Hid (RP p sp W3.drew) := Lib.hid ((RP.of p).drew HT.out.gb.ga.rd)
              have HOD : Hid (W3.drew.ownsRow (qt + 1) 112 2 v3 j (plCells ys)) := Lib.hid HO.out.drew
              have HJ12 : Hid (j + 1 ≤ 12) := Lib.hid (by have := HJM.out; omega)
              have hjI : (j : Int) ≤ 1000 := by have := HJM.out; omega
              have HSW : Hid (qt + 1 ≤ W3.heap.size) := Lib.hid (by omega)
              go_region_law ((first
                  | (go_simp; go_at_call 40; with_reducible refine Calls.mono HRD.out.text ?_; rintro e w7 ⟨rfl, hg7, hR7⟩; have c2 : w7.cell? ⟨qt, 3, none⟩ = some v3 := by { rw [hg7.cell_far _ hqw hqp]; exact b0d }; have f2 : w7.frozen? ⟨qt, 3, none⟩ = false := by { rw [hg7.frozen_far _ hqw hqp]; exact bfd })
                  | (go_simp; go_at_call 39; with_reducible refine Calls.mono hR7.num ?_; rintro e w8 ⟨rfl, hg8, hR8⟩; have c3 : w8.cell? ⟨qt, 3, none⟩ = some v3 := by { rw [hg8.cell_far _ (Nat.lt_of_lt_of_le hqw hg7.size) hqp]; exact c2 }; have f3 : w8.frozen? ⟨qt, 3, none⟩ = false := by { rw [hg8.frozen_far _ (Nat.lt_of_lt_of_le hqw hg7.size) hqp]; exact f2 }; have cA : ∀ o, (w8.alloc o).cell? ⟨qt, 3, none⟩ = some v3 := fun o => by { rw [(World.grownBy_alloc w8 o none).cell_far _ (Nat.lt_of_lt_of_le (Nat.lt_of_lt_of_le hqw hg7.size) hg8.size) (by simp)]; exact c3 })
                  | (have ho3 := own_read (RP.of p) (own_read (RP.of p) HOD.out HRD.out (by decide) hg7) hR7 (by decide) hg8
                     have hS3 : qt + 1 ≤ w8.heap.size := Nat.le_trans (Nat.le_trans HSW.out hg7.size) hg8.size
                     refine step_append_lies _ (by rfl) _ _ _ (by rfl) (qt + 1) 112 l0 _ 2 24 Tryz.underlying56 hl0 hx0 hx1 hx2 rfl (by omega) v3 j (plCells ys) (by rfl) (ho3.alloc _)
                       ⟨w8.heap.size, 0, none⟩ 1 1 [.string ⟨(rText sp).1.toArray⟩, .int .i64 (rNum (rText sp).2).1] (by rfl) (by rfl) (World.news_of_block (cs := #[.string ⟨(rText sp).1.toArray⟩, .int .i64 (rNum (rText sp).2).1]) (t := 112) (fr := (0, 0)) (heap_alloc_new w8 _)) (by simp [Value.oneCell'])
                       (by omega) (by have := HJ12.out; unfold maxLen; omega) (by have := HJ12.out; omega) (by simp; omega) (w8.heap.size + 1) (by simp) ?_
                     intro g9 cap9 w9 hown9 hg9 hat9 hlt9
                     have c4 : w9.cell? ⟨qt, 3, none⟩ = some v3 := by { rw [hg9.cell_far _ (Nat.lt_of_lt_of_le (Nat.lt_of_lt_of_le (Nat.lt_of_lt_of_le hqw hg7.size) hg8.size) (World.grownBy_alloc w8 _ none).size) hqv, (World.grownBy_alloc w8 _ none).cell_far _ (Nat.lt_of_lt_of_le (Nat.lt_of_lt_of_le hqw hg7.size) hg8.size) (by simp)]; exact c3 }
                     have f4 : w9.frozen? ⟨qt, 3, none⟩ = false := by { rw [hg9.frozen_far _ (Nat.lt_of_lt_of_le (Nat.lt_of_lt_of_le (Nat.lt_of_lt_of_le hqw hg7.size) hg8.size) (World.grownBy_alloc w8 _ none).size) hqv, (World.grownBy_alloc w8 _ none).frozen_far _ (Nat.lt_of_lt_of_le (Nat.lt_of_lt_of_le hqw hg7.size) hg8.size) (by simp)]; exact f3 })))
              all_goals
                have HU1 := (HT.out.grow (RP.of p) (grownBy_drew W3 none) (fun _ e => by cases e)).read (RP.of p) HQ.out.1 HQ.out.2.2.1 (by decide) hg7 hR7
                have HU2 := HU1.read (RP.of p) HQ.out.1 HQ.out.2.2.1 (by decide) hg8 hR8
                have HO9 := Lib.hid hown9
                have HU9 := Lib.hid ((HU2.alloc (RP.of p) (.cells #[.string ⟨(rText sp).1.toArray⟩, .int .i64 (rNum (rText sp).2).1] 112 (0, 0))).grow (RP.of p) hg9 (fun g e => own_ge HO.out g e))
                have HU10 := Lib.hid (HU9.out.put (RP.of p) 3 (.slice (some ⟨g9, 0, none⟩) (j + 1) cap9) (cs' := #[.string xa, .string xc, .int .i64 am, .slice (some ⟨g9, 0, none⟩) (j + 1) cap9]) (Go.Lib.heap_setCell_same (i := 3) HU9.out.bx _))
                have HO10 := Lib.hid (kept_of HO9.out (grownBy_setCell w9 qt 3 (.slice (some ⟨g9, 0, none⟩) (j + 1) cap9)) (fun g e => by cases e; intro e2; have := own_ge HO9.out qt e2; omega))
                go_wp2_with fail
                go_roundw
                case rel =>
                  have hpl : rPl sp = (⟨(rText sp).1, (rNum (rText sp).2).1⟩, (rNum (rText sp).2).2) := rfl
                  refine ⟨j + 1, by go_num, by omega, ys ++ [⟨(rText sp).1, (rNum (rText sp).2).1⟩], (rNum (rText sp).2).2, _, by have := HYS.out; simp [this], HU10.out, ?_, ?_⟩
                  · rw [plCells_snoc]
                    exact HO10.out
                  · rw [HRMP.out, rMany_step2 rPl (J - j) sp (by omega), hpl, show J - j - 1 = J - (j + 1) by omega]
                    simp
                case measure => simp [intOf]; omega
            · have hjJ : j = J := by omega
              have HRMJ : Hid (rMany rPl J s3 = (ys, sp)) := Lib.hid (by have := HRMP.out; rw [this, hjJ]; simp [rMany])
              clear hjJ
              have b1 : W3.cell? ⟨q, 1, none⟩ = some v2 := by rw [cell_p HT.out.gb.ga.box]; rfl
              have t0 : W3.cell? ⟨qt, 0, none⟩ = some (.string xa) := by rw [cell_p HT.out.bx]; rfl
              have t1 : W3.cell? ⟨qt, 1, none⟩ = some (.string xc) := by rw [cell_p HT.out.bx]; rfl
              have t2 : W3.cell? ⟨qt, 2, none⟩ = some (.int .i64 am) := by rw [cell_p HT.out.bx]; rfl
              obtain ⟨A3, c3, hv3⟩ := own_form HO.out
              subst hv3
              have t3 : W3.cell? ⟨qt, 3, none⟩ = some (.slice A3 j c3) := by rw [cell_p HT.out.bx]; rfl
              have HMB : Hid (ts.length ≤ 20) := Lib.hid (by have h1 := HMM.out; have h2 := HTS.out; omega)
              have HW3 : Hid (w.heap.size + 2 ≤ W3.heap.size) := Lib.hid HT.out.gb.sz
              have hk2I : (k2 : Int) ≤ 1000 := by have := HMM.out; omega
              go_wp2_with ((at_builtin
                            refine wpList_append_own_at _ rfl (.tmp 47) (.tmp 49) _ rfl (w.heap.size + 2) 58 j0 _ 4 64 Tryz.underlying35 hj0 hy0 hy1 hy2 rfl (by omega) v2 ts.length (tkCells ts) rfl (HT.out.gb.o2.alloc _) ⟨W3.heap.size, 0, none⟩ 1 1 [.string xa, .string xc, .int .i64 am, .slice A3 j c3] rfl rfl (cells_new4 _ _ _ _ _ _) (by simp [Value.oneCell']) (by have := HMB.out; unfold maxLen; omega) (by have := HMB.out; omega) (by have := HW3.out; simp; omega) ?_
                            intro v5 w10 hown10 hg10 _ hat10
                            clear hat10
                            obtain ⟨g10, cap10, rfl, _, _⟩ := hown10.form (by omega)
                            have HO10 := Lib.hid hown10
                            have HG10 := Lib.hid hg10
                            have HGA := Lib.hid ((HT.out.gb.ga.alloc (RP.of p) (.cells #[.string xa, .string xc, .int .i64 am, .slice A3 j c3] 58 (0, 0))).grow (RP.of p) hg10 (fun g e => by have h1 := own_ge HT.out.gb.o2 g e; have h2 := HQ.out; omega))
                            have b10 : w10.cell? ⟨q, 1, none⟩ = some v2 := (by rw [cell_p HGA.out.box]; rfl)
                            have f10 : w10.frozen? ⟨q, 1, none⟩ = false := frozen_p HGA.out.box
                            clear hown10 hg10))
              have HBN : Hid (GB p q r0 39 (RP p) w (w.heap.size + 2) k v1 xs (ts ++ [(⟨(rText sa).1, (rText (rText sa).2).1, am, ys⟩, .slice A3 j c3)]) sp (.slice (some ⟨g10, 0, none⟩) (ts.length + 1) cap10) (w10.setCell ⟨q, 1, none⟩ (.slice (some ⟨g10, 0, none⟩) (ts.length + 1) cap10))) := Lib.hid
                (HT.out.gb.more (RP.of p) (by have := HQ.out; omega) HQ.out.1 HQ.out.2.1 HQ.out.2.2.2.1 HG10.out (by
                  rw [tkCells_snoc]
                  have ea : str8 (rText sa).1 = .string xa := by rw [str8, HXA.out]
                  have ec : str8 (rText (rText sa).2).1 = .string xc := by rw [str8, HXC.out]
                  simp only [ea, ec]
                  exact HO10.out) (by
                  have h := own_base HO.out (base' := w.heap.size + 2) (by have h1 := HQT.out; have h2 := HB3.out.sz; omega)
                  rw [← HYS.out] at h ⊢
                  exact h))
              go_roundw
              case rel =>
                have htk : rTake sa = (⟨(rText sa).1, (rText (rText sa).2).1, am, ys⟩, sp) := by
                  show ((⟨(rText sa).1, (rText (rText sa).2).1, (rNum (rText (rText sa).2).2).1, (rMany rPl (rCount 12 (rNum (rText (rText sa).2).2).2).1.toNat (rCount 12 (rNum (rText (rText sa).2).2).2).2).1⟩ : TakeD), (rMany rPl (rCount 12 (rNum (rText (rText sa).2).2).2).1.toNat (rCount 12 (rNum (rText (rText sa).2).2).2).2).2) = _
                  rw [HAM.out, HSB.out, HJ.out, HS3.out, Int.toNat_natCast, HRMJ.out]
                refine ⟨k2 + 1, by go_num, by omega, ts ++ [(⟨(rText sa).1, (rText (rText sa).2).1, am, ys⟩, .slice A3 j c3)], sp, _, by have := HTS.out; simp [this], HBN.out, ?_⟩
                rw [HRMT.out, rMany_step2 rTake (M - k2) sa (by omega), htk, show M - k2 - 1 = M - (k2 + 1) by omega]
                simp
              case measure => simp [intOf]; omega
        · have hkM : k2 = M := by omega
          have HRME : Hid (rMany rTake M s2 = (ts.map (·.1), sa)) := Lib.hid (by have := HRMT.out; rw [this, hkM]; simp [rMany])
          have HSET : Hid (rSet0 s0 = (⟨xs, ts.map (·.1)⟩, sa)) := Lib.hid (by
            show ((⟨(rMany rLeg (rCount 120 s0).1.toNat (rCount 120 s0).2).1, (rMany rTake (rCount 20 (rMany rLeg (rCount 120 s0).1.toNat (rCount 120 s0).2).2).1.toNat (rCount 20 (rMany rLeg (rCount 120 s0).1.toNat (rCount 120 s0).2).2).2).1⟩ : SetD), (rMany rTake (rCount 20 (rMany rLeg (rCount 120 s0).1.toNat (rCount 120 s0).2).2).1.toNat (rCount 20 (rMany rLeg (rCount 120 s0).1.toNat (rCount 120 s0).2).2).2).2) = _
            rw [HN.out, HS1.out, Int.toNat_natCast, HRM0.out]
            show ((⟨xs, (rMany rTake (rCount 20 s).1.toNat (rCount 20 s).2).1⟩ : SetD), (rMany rTake (rCount 20 s).1.toNat (rCount 20 s).2).2) = _
            rw [HM.out, HS2.out, Int.toNat_natCast, HRME.out])
          clear hkM
          have HRR := Lib.hid HB.out.ga.rd
          obtain ⟨bb, ab, hbb, _⟩ := HB.out.ga.rd
          have p0 : W2.cell? ⟨p, 0, none⟩ = some (.int .i64 sa.e) := hbb.cells.1
          have r0c : W2.cell? ⟨r0, 0, none⟩ = some (.slice none 0 0) := by rw [cell_p HB.out.ga.res]; rfl
          have r1c : W2.cell? ⟨r0, 1, none⟩ = some (.slice none 0 0) := by rw [cell_p HB.out.ga.res]; rfl
          have r0f : W2.frozen? ⟨r0, 0, none⟩ = false := frozen_p HB.out.ga.res
          have r1f : W2.frozen? ⟨r0, 1, none⟩ = false := frozen_p HB.out.ga.res
          have q0c : W2.cell? ⟨q, 0, none⟩ = some v1 := by rw [cell_p HB.out.ga.box]; rfl
          have q1c : W2.cell? ⟨q, 1, none⟩ = some v2 := by rw [cell_p HB.out.ga.box]; rfl
          obtain ⟨A1, c1, hv1⟩ := own_form HB.out.o1
          obtain ⟨A2, c2, hv2⟩ := own_form HB.out.o2
          subst hv1 hv2
          by_cases he : sa.e = 0
          · have hb1 : (sa.e == 0) = true := by simpa using he
            have hb2 : (sa.e != 0) = false := by simpa using he
            have HE := Lib.hid he
            clear he hbb
            go_wp2_with (go_at_call 17; refine (wrong_any _ _ _ p0).mono ?_; rintro e1 w1 ⟨rfl, rfl⟩)
            have h1 := Go.Lib.heap_setCell_same (i := 0) HB.out.ga.res (.slice A1 k c1)
            have h2 := Go.Lib.heap_setCell_same (i := 1) h1 (.slice A2 ts.length c2)
            have g1 := grownBy_setCell W2 r0 0 (.slice A1 k c1)
            have g2 := grownBy_setCell (W2.setCell ⟨r0, 0, none⟩ (.slice A1 k c1)) r0 1 (.slice A2 ts.length c2)
            refine bodyPost_ret (results_cell_row rfl _ _ r0 39 #[.slice A1 k c1, .slice A2 ts.length c2] (0, 0) _ rfl h2 Tryz.underlying39 rfl rfl) rfl ?_
            have hR : rSet s0 = (⟨xs, ts.map (·.1)⟩, sa) := by unfold rSet; rw [HSET.out]; simp only; rw [if_neg (by have := HE.out; omega)]
            have kp : ∀ {e size n : Nat} {v : Value} {zs : List Value}, W2.ownsRow (w.heap.size + 2) e size v n zs → ((W2.setCell ⟨r0, 0, none⟩ (.slice A1 k c1)).setCell ⟨r0, 1, none⟩ (.slice A2 ts.length c2)).ownsRow (w.heap.size + 2) e size v n zs := fun h' => by
              have k1 := kept_of h' g1 (fun g e => by cases e; intro e2; have h3 := own_ge h' r0 e2; have h4 := HQ.out; omega)
              exact kept_of k1 g2 (fun g e => by cases e; intro e2; have h3 := own_ge k1 r0 e2; have h4 := HQ.out; omega)
            refine ⟨_, _, rfl, only_grown' (only_grown' HB.out.ga.g g1 (fun g e => by cases e; exact .inr HQ.out.2.2.2.2.1)) g2 (fun g e => by cases e; exact .inr HQ.out.2.2.2.2.1), ?_, ?_⟩
            · rw [hR]
              exact (RP.of p).keep ((RP.of p).keep HB.out.ga.rd g1 (fun e => HQ.out.2.2.1 (Option.some.inj e))) g2 (fun e => HQ.out.2.2.1 (Option.some.inj e))
            · rw [hR]
              exact ⟨A1, k, c1, A2, ts.length, c2, rfl, rfl, fun w' hk => ⟨HXS.out.symm, legs_own (hk.own (.inl rfl) (kp HB.out.o1)), by simp, takes_own (hk.own (.inr (.inl rfl)) (kp HB.out.o2)) (fun a ha => hk.own (.inr (.inr rfl)) (kp (HB.out.op a ha)))⟩⟩
          · have hb1 : (sa.e == 0) = false := by simpa using he
            have hb2 : (sa.e != 0) = true := by simpa using he
            have HE := Lib.hid he
            clear he hbb
            go_wp2_with (go_at_call 17; refine (wrong_any _ _ _ p0).mono ?_; rintro e1 w1 ⟨rfl, rfl⟩)
            have h1 := Go.Lib.heap_setCell_same (i := 0) HB.out.ga.res (.slice none 0 0)
            have h2 := Go.Lib.heap_setCell_same (i := 1) h1 (.slice none 0 0)
            have g1 := grownBy_setCell W2 r0 0 (.slice none 0 0)
            have g2 := grownBy_setCell (W2.setCell ⟨r0, 0, none⟩ (.slice none 0 0)) r0 1 (.slice none 0 0)
            refine bodyPost_ret (results_cell_row rfl _ _ r0 39 #[.slice none 0 0, .slice none 0 0] (0, 0) _ rfl h2 Tryz.underlying39 rfl rfl) rfl ?_
            have hR : rSet s0 = (⟨[], []⟩, sa) := by unfold rSet; rw [HSET.out]; simp only; rw [if_pos HE.out]
            refine ⟨_, _, rfl, only_grown' (only_grown' HB.out.ga.g g1 (fun g e => by cases e; exact .inr HQ.out.2.2.2.2.1)) g2 (fun g e => by cases e; exact .inr HQ.out.2.2.2.2.1), ?_, ?_⟩
            · rw [hR]
              exact (RP.of p).keep ((RP.of p).keep HB.out.ga.rd g1 (fun e => HQ.out.2.2.1 (Option.some.inj e))) g2 (fun e => HQ.out.2.2.1 (Option.some.inj e))
            · rw [hR]
              exact ⟨none, 0, 0, none, 0, 0, rfl, rfl, fun _ _ => ⟨rfl, fun h => absurd rfl h, rfl, fun h => absurd rfl h⟩⟩
end Go.Proofs.YtgmbppfkkiobhaaGreat.Wire
