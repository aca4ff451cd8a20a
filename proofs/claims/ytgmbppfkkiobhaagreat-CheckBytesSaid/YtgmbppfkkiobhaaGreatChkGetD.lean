/- complineref22.GetSet reads a set. -/
import Derived.Test.YtgmbppfkkiobhaaGreatChkGa
namespace Go.Proofs.YtgmbppfkkiobhaaGreat.Wire
open Go Go.RowKit Go.Lib
theorem own_base {w : World} {base base' e size n : Nat} {v : Value} {xs : List Value} (h : w.ownsRow base e size v n xs) (hb : base' ≤ base) : w.ownsRow base' e size v n xs := by
  obtain ⟨h1, h2⟩ := h
  refine ⟨h1, ?_⟩
  rcases h2 with h2 | ⟨g, cap, cur, a, b, c⟩
  · exact .inl h2
  · exact .inr ⟨g, cap, cur, a, by omega, c⟩
/-- The rows of legs, takes and pledges stay. -/
def KeepT (w w' : World) : Prop := ∀ (b : Nat) (cs : Array Value) (t : TypeId), w.heap[b]? = some (.cells cs t (0, 0)) → (t = 99 ∨ t = 58 ∨ t = 112) → w'.heap[b]? = w.heap[b]?
theorem KeepT.own {w w' : World} (hk : KeepT w w') {base e size n : Nat} {v : Value} {xs : List Value} (ht : e = 99 ∨ e = 58 ∨ e = 112) (h : w.ownsRow base e size v n xs) : w'.ownsRow base e size v n xs := by
  refine ⟨h.1, ?_⟩
  rcases h.2 with h2 | ⟨g, cap, cur, hv, hb, hh, rest⟩
  · exact .inl h2
  · exact .inr ⟨g, cap, cur, hv, hb, (hk g cur e hh ht).trans hh, rest⟩
theorem KeepT.refl (w : World) : KeepT w w := fun _ _ _ _ _ => rfl
theorem KeepT.trans {a b c : World} (h : KeepT a b) (k : KeepT b c) : KeepT a c := fun x cs t hx ht => (k x cs t ((h x cs t hx ht).trans hx) ht).trans (h x cs t hx ht)
theorem KeepT.below {w w' : World} (h : Below w.heap.size w w') : KeepT w w' := fun b _ _ hb _ => h.block b (blk_lt hb)
theorem KeepT.grown {w w' : World} {p : Nat} {cs : Array Value} {t : TypeId} (h : w.grownBy w' (some p)) (hp : w.heap[p]? = some (.cells cs t (0, 0))) (hn : ¬ (t = 99 ∨ t = 58 ∨ t = 112)) : KeepT w w' := fun b cs' t' hb ht => h.block b (blk_lt hb) (fun e => by
  cases e
  rw [hp] at hb
  simp only [Option.some.injEq, Obj.cells.injEq] at hb
  exact hn (hb.2.1 ▸ ht))
/-- A set that was read: it stays while its rows do. -/
def SetVal (w : World) (v1 v2 : Value) (x : SetD) : Prop := ∃ L n c T m d, v1 = .slice L n c ∧ v2 = .slice T m d ∧ ∀ w', KeepT w w' → SetAt w' L n T m x
set_option maxRecDepth 20000 in
set_option maxHeartbeats 2000000 in
theorem getD_any (p : Nat) (s0 : RS) (w : World) (h : RR p s0 w) :
    Calls Tryz.prog 15 #[.pointer (some ⟨p, 0, none⟩)] w fun en w' => ∃ v1 v2, en = .returned (.agg #[v1, v2]) ∧ w.grownBy w' (some p) ∧ RR p (rSet s0).2 w' ∧ SetVal w' v1 v2 (rSet s0).1 := by
  obtain ⟨i0, hi0, hz0, hz1, hz2⟩ := info_parts leg_info
  obtain ⟨j0, hj0, hy0, hy1, hy2⟩ := info_parts tk_info
  obtain ⟨l0, hl0, hx0, hx1, hx2⟩ := info_parts pl_info
  have hpl : p < w.heap.size := by obtain ⟨cs, hc⟩ := (RR.of p).blk h; exact blk_lt hc
  have HP := Lib.hid hpl
  have HR := Lib.hid h
  clear h hpl
  go_enter Tryz.func15, Tryz.ntmps15
  go_wp2_with fail
  have HG0 : Hid (GA p (w.heap.size + 1) w.heap.size 37 (RR p) w s0 (.slice none 0 0) (.slice none 0 0) ((w.alloc (.cells #[.slice none 0 0, .slice none 0 0] 37 (0, 0))).alloc (.cells #[.slice none 0 0, .slice none 0 0] 37 (0, 0)))) := Lib.hid
    ⟨(World.grownBy_alloc w _ (some p)).trans (World.grownBy_alloc _ _ _), (RR.of p).keep ((RR.of p).keep HR.out (World.grownBy_alloc w _ none) (by simp)) (World.grownBy_alloc _ _ none) (by simp),
      by have := heap_alloc_new (w.alloc (.cells #[.slice none 0 0, .slice none 0 0] 37 (0, 0))) (.cells #[.slice none 0 0, .slice none 0 0] 37 (0, 0)); simpa using this,
      (Below.heap_alloc _ _ _ (by simp)).trans (heap_alloc_new w _)⟩
  obtain ⟨q, hq⟩ : ∃ q, w.heap.size + 1 = q := ⟨_, rfl⟩
  obtain ⟨r0, hr0⟩ : ∃ r0, w.heap.size = r0 := ⟨_, rfl⟩
  have HQ : Hid (q ≠ p ∧ q ≠ r0 ∧ r0 ≠ p ∧ w.heap.size ≤ q ∧ w.heap.size ≤ r0 ∧ q + 1 = w.heap.size + 2 ∧ r0 < w.heap.size + 2 ∧ p < w.heap.size) := Lib.hid (by have := HP.out; omega)
  rw [hq, hr0] at HG0
  rw [hq, hr0]
  clear hq hr0
  refine (HG0.out.rd.count 120).mono ?_
  rintro e w1 ⟨rfl, hg1, hR1⟩
  obtain ⟨N, hN, hNm⟩ := rCount_rng2 (most := 120) (by decide) s0
  rw [hN]
  have HN := Lib.hid hN
  obtain ⟨s1, hs1⟩ : ∃ s1, (rCount 120 s0).2 = s1 := ⟨_, rfl⟩
  rw [hs1] at hR1
  have HS1 := Lib.hid hs1
  have HG1 := Lib.hid (HG0.out.read HQ.out.1 HQ.out.2.2.1 hg1 hR1)
  have HNM := Lib.hid hNm
  have HSZ : Hid (w.heap.size + 2 ≤ w1.heap.size) := Lib.hid (by have := hg1.size; simpa using this)
  clear hs1 hR1 hg1 hN hNm HG0
  go_wp2_with fail
  go_loopw [5] (fun i wr => ∃ k : Nat, i = .int .i64 k ∧ k ≤ N ∧ w.heap.size + 2 ≤ wr.heap.size ∧ ∃ (xs : List LegD) (s : RS) (v1 : Value), xs.length = k ∧ GA p q r0 37 (RR p) w s v1 (.slice none 0 0) wr ∧ wr.ownsRow (w.heap.size + 2) 99 2 v1 k (legCells xs) ∧ rMany rLeg N s1 = (xs ++ (rMany rLeg (N - k) s).1, (rMany rLeg (N - k) s).2)) (fun i _ => N - (intOf i).toNat)
  case atStart => exact ⟨0, rfl, Nat.zero_le _, HSZ.out, [], s1, .slice none 0 0, rfl, HG1.out, World.ownsRow_nil _ _ _ _, rfl⟩
  case round =>
    obtain ⟨k, rfl, hk, hsz, xs, s, v1, hxs, hG, hown, hrm⟩ := hrel
    have HG := Lib.hid hG
    have HOW := Lib.hid hown
    have HXS := Lib.hid hxs
    have HRM := Lib.hid hrm
    have HSZ2 := Lib.hid hsz
    clear hG hown hxs hrm hsz
    obtain ⟨W1, rfl⟩ : ∃ W : World, W = wr := ⟨wr, rfl⟩
    by_cases hlt : k < N
    · go_wp2_with fail
      refine HG.out.rd.num.mono ?_
      rintro e w2 ⟨rfl, hg2, hR2⟩
      have HG2 := Lib.hid (HG.out.read HQ.out.1 HQ.out.2.2.1 hg2 hR2)
      have HOW2 := Lib.hid (HOW.out.kept hg2 (.inr (by obtain ⟨cs, hc⟩ := (RR.of p).blk HG.out.rd; exact own_ne HOW.out hc (by decide))))
      have HS2 : Hid (w.heap.size + 2 ≤ w2.heap.size) := Lib.hid (Nat.le_trans HSZ2.out hg2.size)
      obtain ⟨x, hx⟩ : ∃ x, (rNum s).1 = x := ⟨_, rfl⟩
      rw [hx]
      have HX := Lib.hid hx
      clear hg2 hR2 hx
      go_wp2_with fail
      refine HG2.out.rd.num.mono ?_
      rintro e w3 ⟨rfl, hg3, hR3⟩
      have HG3 := Lib.hid (HG2.out.read HQ.out.1 HQ.out.2.2.1 hg3 hR3)
      have HOW3 := Lib.hid (HOW2.out.kept hg3 (.inr (by obtain ⟨cs, hc⟩ := (RR.of p).blk HG2.out.rd; exact own_ne HOW2.out hc (by decide))))
      have HS3 : Hid (w.heap.size + 2 ≤ w3.heap.size) := Lib.hid (Nat.le_trans HS2.out hg3.size)
      obtain ⟨y, hy⟩ : ∃ y, (rNum (rNum s).2).1 = y := ⟨_, rfl⟩
      rw [hy]
      have HY := Lib.hid hy
      clear hg3 hR3 hy
      have b0 : w3.cell? ⟨q, 0, none⟩ = some v1 := by rw [cell_p HG3.out.box]; rfl
      have hk120 : k + 1 ≤ 120 := by have := HNM.out; omega
      have HK := Lib.hid hk120
      have hkI : (k : Int) ≤ 1000 := by omega
      clear hk120
      go_wp2_with ((at_builtin
                    refine wpList_append_own_at _ rfl (.tmp 26) (.tmp 30) _ rfl (w.heap.size + 2) 99 i0 _ 2 16 Tryz.underlying34 hi0 hz0 hz1 hz2 rfl (by omega) v1 k (legCells xs) rfl (HOW3.out.alloc _) ⟨w3.heap.size, 0, none⟩ 1 1 [.int .i64 x, .int .i64 y] rfl rfl (cells_new2 _ _ _ _) (by simp [Value.oneCell']) (by have := HK.out; unfold maxLen; omega) (by have := HK.out; omega) (by have := HS3.out; simp; omega) ?_
                    intro v3 w4 hown4 hg4 _ hat4
                    clear hat4
                    obtain ⟨g4, cap4, rfl, _, _⟩ := hown4.form (by omega)
                    have HO4 := Lib.hid hown4
                    have HG4 := Lib.hid ((HG3.out.alloc (RR.of p) (.cells #[.int .i64 x, .int .i64 y] 99 (0, 0))).grow (RR.of p) hg4 (fun g e => by have h1 := own_ge HOW3.out g e; have h2 := HQ.out; omega))
                    have HS4 : Hid (w.heap.size + 2 ≤ w4.heap.size) := Lib.hid (by have h1 := hg4.size; have h2 := HS3.out; simp at h1; omega)
                    have b4 : w4.cell? ⟨q, 0, none⟩ = some v1 := (by rw [cell_p HG4.out.box]; rfl)
                    have f4 : w4.frozen? ⟨q, 0, none⟩ = false := frozen_p HG4.out.box
                    clear hown4 hg4))
      have HG5 := Lib.hid (HG4.out.put0 (RR.of p) HQ.out.1 HQ.out.2.1 HQ.out.2.2.2.1 (.slice (some ⟨g4, 0, none⟩) (k + 1) cap4))
      have HO5 := Lib.hid (HO4.out.kept (grownBy_setCell w4 q 0 (.slice (some ⟨g4, 0, none⟩) (k + 1) cap4)) (.inr (by intro e; have h1 := own_ge HO4.out q e; have h2 := HQ.out; omega)))
      go_roundw
      case rel =>
        have hleg : (rLeg s) = (⟨x, y⟩, (rNum (rNum s).2).2) := by show ((⟨(rNum s).1, (rNum (rNum s).2).1⟩ : LegD), (rNum (rNum s).2).2) = _; rw [HX.out, HY.out]
        refine ⟨k + 1, by go_num, by omega, by have := HS4.out; simpa using this, xs ++ [⟨x, y⟩], (rNum (rNum s).2).2, _, by have := HXS.out; simp [this], HG5.out, by rw [legCells_snoc]; exact HO5.out, ?_⟩
        rw [HRM.out, rMany_step2 rLeg (N - k) s (by omega), hleg, show N - k - 1 = N - (k + 1) by omega]
        simp
      case measure => simp [intOf]; omega
    · have hkN : k = N := by omega
      have hrm0 : rMany rLeg N s1 = (xs, s) := by have := HRM.out; rw [this, hkN]; simp [rMany]
      have HRM0 := Lib.hid hrm0
      have HKN := Lib.hid hkN
      clear hrm0 hkN
      go_wp2_with fail
      refine (HG.out.rd.count 20).mono ?_
      rintro e w2 ⟨rfl, hg2, hR2⟩
      obtain ⟨M, hM, hMm⟩ := rCount_rng2 (most := 20) (by decide) s
      rw [hM]
      have HM := Lib.hid hM
      obtain ⟨s2, hs2⟩ : ∃ s2, (rCount 20 s).2 = s2 := ⟨_, rfl⟩
      rw [hs2] at hR2
      have HS2 := Lib.hid hs2
      have HB0 : Hid (GB p q r0 37 (RR p) w (w.heap.size + 2) k v1 xs [] s2 (.slice none 0 0) w2) := Lib.hid
        ((⟨HG.out, HOW.out, World.ownsRow_nil _ _ _ _, fun a ha => by simp at ha, HSZ2.out⟩ : GB p q r0 37 (RR p) w (w.heap.size + 2) k v1 xs [] s (.slice none 0 0) W1).read (RR.of p) HQ.out.1 HQ.out.2.2.1 (by decide) hg2 hR2)
      have HMM := Lib.hid hMm
      clear hs2 hR2 hg2 hM hMm
      go_wp2_with fail
      go_loopw [8] (fun i wr => ∃ k2 : Nat, i = .int .i64 k2 ∧ k2 ≤ M ∧ ∃ (ts : List (TakeD × Value)) (s : RS) (v2 : Value), ts.length = k2 ∧ GB p q r0 37 (RR p) w (w.heap.size + 2) k v1 xs ts s v2 wr ∧ rMany rTake M s2 = (ts.map (·.1) ++ (rMany rTake (M - k2) s).1, (rMany rTake (M - k2) s).2)) (fun i _ => M - (intOf i).toNat)
      case atStart => exact ⟨0, rfl, Nat.zero_le _, [], s2, .slice none 0 0, rfl, HB0.out, rfl⟩
      case round =>
        obtain ⟨k2, rfl, hk2, ts, sa, v2, hts, hB, hrm⟩ := hrel
        have HB := Lib.hid hB
        have HTS := Lib.hid hts
        have HRMT := Lib.hid hrm
        clear hB hts hrm
        obtain ⟨W2, rfl⟩ : ∃ W : World, W = wr := ⟨wr, rfl⟩
        by_cases hlt2 : k2 < M
        · have HT0 := Lib.hid (HB.out.take (RR.of p) (by have h2 := HQ.out; omega) #[.string ⟨#[]⟩, .string ⟨#[]⟩, .int .i64 0, .slice none 0 0])
          go_wp2_with fail
          refine HT0.out.gb.ga.rd.text.mono ?_
          rintro e w3 ⟨rfl, hg3, hR3⟩
          have HT1 := Lib.hid (HT0.out.read (RR.of p) HQ.out.1 HQ.out.2.2.1 (by decide) hg3 hR3)
          obtain ⟨qt, hqt⟩ : ∃ qt, W2.heap.size = qt := ⟨_, rfl⟩
          rw [hqt] at HT1
          rw [hqt]
          obtain ⟨xa, hxa⟩ : ∃ xa : ByteArray, ⟨(rText sa).1.toArray⟩ = xa := ⟨_, rfl⟩
          rw [hxa]
          have HXA := Lib.hid hxa
          have HT2 := Lib.hid (HT1.out.put (RR.of p) 0 (.string xa) (cs' := #[.string xa, .string ⟨#[]⟩, .int .i64 0, .slice none 0 0]) (Go.Lib.heap_setCell_same (i := 0) HT1.out.bx _))
          have t0 : w3.cell? ⟨qt, 0, none⟩ = some (.string ⟨#[]⟩) := by rw [cell_p HT1.out.bx]; rfl
          have tf : w3.frozen? ⟨qt, 0, none⟩ = false := frozen_p HT1.out.bx
          have HQT := Lib.hid hqt
          clear hg3 hR3 hxa HT0 HT1 hqt
          go_wp2_with fail
          generalize w3.setCell ⟨qt, 0, none⟩ (.string xa) = w3' at HT2 ⊢
          clear t0 tf
          refine HT2.out.gb.ga.rd.text.mono ?_
          rintro e w4 ⟨rfl, hg4, hR4⟩
          have HT3 := Lib.hid (HT2.out.read (RR.of p) HQ.out.1 HQ.out.2.2.1 (by decide) hg4 hR4)
          obtain ⟨xc, hxc⟩ : ∃ xc : ByteArray, ⟨(rText (rText sa).2).1.toArray⟩ = xc := ⟨_, rfl⟩
          rw [hxc]
          have HXC := Lib.hid hxc
          have HT4 := Lib.hid (HT3.out.put (RR.of p) 1 (.string xc) (cs' := #[.string xa, .string xc, .int .i64 0, .slice none 0 0]) (Go.Lib.heap_setCell_same (i := 1) HT3.out.bx _))
          have t1 : w4.cell? ⟨qt, 1, none⟩ = some (.string ⟨#[]⟩) := by rw [cell_p HT3.out.bx]; rfl
          have tf : w4.frozen? ⟨qt, 1, none⟩ = false := frozen_p HT3.out.bx
          clear hg4 hR4 hxc HT2 HT3
          go_wp2_with fail
          generalize w4.setCell ⟨qt, 1, none⟩ (.string xc) = w4' at HT4 ⊢
          clear t1 tf
          refine HT4.out.gb.ga.rd.num.mono ?_
          rintro e w5 ⟨rfl, hg5, hR5⟩
          have HT5 := Lib.hid (HT4.out.read (RR.of p) HQ.out.1 HQ.out.2.2.1 (by decide) hg5 hR5)
          obtain ⟨am, ham⟩ : ∃ am, (rNum (rText (rText sa).2).2).1 = am := ⟨_, rfl⟩
          rw [ham]
          have HAM := Lib.hid ham
          have HT6 := Lib.hid (HT5.out.put (RR.of p) 2 (.int .i64 am) (cs' := #[.string xa, .string xc, .int .i64 am, .slice none 0 0]) (Go.Lib.heap_setCell_same (i := 2) HT5.out.bx _))
          have t2 : w5.cell? ⟨qt, 2, none⟩ = some (.int .i64 0) := by rw [cell_p HT5.out.bx]; rfl
          have tf : w5.frozen? ⟨qt, 2, none⟩ = false := frozen_p HT5.out.bx
          clear hg5 hR5 ham HT4 HT5
          go_wp2_with fail
          generalize w5.setCell ⟨qt, 2, none⟩ (.int .i64 am) = w5' at HT6 ⊢
          clear t2 tf
          refine (HT6.out.gb.ga.rd.count 12).mono ?_
          rintro e w6 ⟨rfl, hg6, hR6⟩
          have HT7 := Lib.hid (HT6.out.read (RR.of p) HQ.out.1 HQ.out.2.2.1 (by decide) hg6 hR6)
          obtain ⟨sb, hsb⟩ : ∃ sb, (rNum (rText (rText sa).2).2).2 = sb := ⟨_, rfl⟩
          rw [hsb] at HT7
          rw [hsb]
          have HSB := Lib.hid hsb
          obtain ⟨J, hJ, hJm⟩ := rCount_rng2 (most := 12) (by decide) sb
          rw [hJ]
          have HJ := Lib.hid hJ
          have HJM := Lib.hid hJm
          obtain ⟨s3, hs3⟩ : ∃ s3, (rCount 12 sb).2 = s3 := ⟨_, rfl⟩
          rw [hs3] at HT7
          have HS3 := Lib.hid hs3
          clear hg6 hR6 hsb hs3 hJ hJm HT6
          go_wp2_with fail
          go_loopw [11] (fun i wl => ∃ j : Nat, i = .int .i64 j ∧ j ≤ J ∧ ∃ (ys : List PlD) (s : RS) (v3 : Value), ys.length = j ∧ GT p q r0 qt 37 (RR p) w (w.heap.size + 2) k v1 xs ts v2 #[.string xa, .string xc, .int .i64 am, v3] s wl ∧ wl.ownsRow (qt + 1) 112 2 v3 j (plCells ys) ∧ rMany rPl J s3 = (ys ++ (rMany rPl (J - j) s).1, (rMany rPl (J - j) s).2)) (fun i _ => J - (intOf i).toNat)
          case atStart => exact ⟨0, rfl, Nat.zero_le _, [], s3, .slice none 0 0, rfl, HT7.out, World.ownsRow_nil _ _ _ _, rfl⟩
          case round =>
            obtain ⟨j, rfl, hj, ys, sp, v3, hys, hT, hown, hrm⟩ := hrel
            have HT := Lib.hid hT
            have HO := Lib.hid hown
            have HYS := Lib.hid hys
            have HRMP := Lib.hid hrm
            clear hT hown hys hrm
            obtain ⟨W3, rfl⟩ : ∃ W : World, W = wr := ⟨wr, rfl⟩
            by_cases hlt3 : j < J
            · go_wp2_with fail
              refine HT.out.gb.ga.rd.text.mono ?_
              rintro e w7 ⟨rfl, hg7, hR7⟩
              have HU1 := Lib.hid (HT.out.read (RR.of p) HQ.out.1 HQ.out.2.2.1 (by decide) hg7 hR7)
              have HO1 := Lib.hid (HO.out.kept hg7 (.inr (by obtain ⟨cs, hc⟩ := (RR.of p).blk HT.out.gb.ga.rd; exact own_ne HO.out hc (by decide))))
              obtain ⟨xz, hxz⟩ : ∃ xz : ByteArray, ⟨(rText sp).1.toArray⟩ = xz := ⟨_, rfl⟩
              rw [hxz]
              have HXZ := Lib.hid hxz
              clear hg7 hR7 hxz
              go_wp2_with fail
              refine HU1.out.gb.ga.rd.num.mono ?_
              rintro e w8 ⟨rfl, hg8, hR8⟩
              have HU2 := Lib.hid (HU1.out.read (RR.of p) HQ.out.1 HQ.out.2.2.1 (by decide) hg8 hR8)
              have HO2 := Lib.hid (HO1.out.kept hg8 (.inr (by obtain ⟨cs, hc⟩ := (RR.of p).blk HU1.out.gb.ga.rd; exact own_ne HO1.out hc (by decide))))
              obtain ⟨qz, hqz⟩ : ∃ qz, (rNum (rText sp).2).1 = qz := ⟨_, rfl⟩
              rw [hqz]
              have HQZ := Lib.hid hqz
              clear hg8 hR8 hqz HU1 HO1
              have t3 : w8.cell? ⟨qt, 3, none⟩ = some v3 := by rw [cell_p HU2.out.bx]; rfl
              have hjI : (j : Int) ≤ 1000 := by have := HJM.out; omega
              have HS8 : Hid (qt + 1 ≤ w8.heap.size) := Lib.hid (by have := blk_lt HU2.out.bx; omega)
              go_wp2_with ((at_builtin
                            refine wpList_append_own_at _ rfl (.tmp 61) (.tmp 65) _ rfl (qt + 1) 112 l0 _ 2 24 Tryz.underlying56 hl0 hx0 hx1 hx2 rfl (by omega) v3 j (plCells ys) rfl (HO2.out.alloc _) ⟨w8.heap.size, 0, none⟩ 1 1 [.string xz, .int .i64 qz] rfl rfl (cells_new2 _ _ _ _) (by simp [Value.oneCell']) (by unfold maxLen; omega) (by omega) (by have := HS8.out; simp; omega) ?_
                            intro v4 w9 hown9 hg9 _ hat9
                            clear hat9
                            obtain ⟨g9, cap9, rfl, _, _⟩ := hown9.form (by omega)
                            have HO9 := Lib.hid hown9
                            have HU9 := Lib.hid ((HU2.out.alloc (RR.of p) (.cells #[.string xz, .int .i64 qz] 112 (0, 0))).grow (RR.of p) hg9 (fun g e => own_ge HO2.out g e))
                            have t9 : w9.cell? ⟨qt, 3, none⟩ = some v3 := (by rw [cell_p HU9.out.bx]; rfl)
                            have f9 : w9.frozen? ⟨qt, 3, none⟩ = false := frozen_p HU9.out.bx
                            clear hown9 hg9))
              have HU10 := Lib.hid (HU9.out.put (RR.of p) 3 (.slice (some ⟨g9, 0, none⟩) (j + 1) cap9) (cs' := #[.string xa, .string xc, .int .i64 am, .slice (some ⟨g9, 0, none⟩) (j + 1) cap9]) (Go.Lib.heap_setCell_same (i := 3) HU9.out.bx _))
              have HO10 := Lib.hid (kept_of HO9.out (grownBy_setCell w9 qt 3 (.slice (some ⟨g9, 0, none⟩) (j + 1) cap9)) (fun g e => by cases e; intro e2; have := own_ge HO9.out qt e2; omega))
              go_roundw
              case rel =>
                have hpl : rPl sp = (⟨(rText sp).1, qz⟩, (rNum (rText sp).2).2) := by show ((⟨(rText sp).1, (rNum (rText sp).2).1⟩ : PlD), (rNum (rText sp).2).2) = _; rw [HQZ.out]
                refine ⟨j + 1, by go_num, by omega, ys ++ [⟨(rText sp).1, qz⟩], (rNum (rText sp).2).2, _, by have := HYS.out; simp [this], HU10.out, ?_, ?_⟩
                · rw [plCells_snoc]
                  have e : str8 (rText sp).1 = .string xz := by rw [str8, HXZ.out]
                  simp only [e]
                  exact HO10.out
                · rw [HRMP.out, rMany_step2 rPl (J - j) sp (by omega), hpl, show J - j - 1 = J - (j + 1) by omega]
                  simp
              case measure => simp [intOf]; omega
            · have hjJ : j = J := by omega
              have HRMJ : Hid (rMany rPl J s3 = (ys, sp)) := Lib.hid (by have := HRMP.out; rw [this, hjJ]; simp [rMany])
              clear hjJ
              have b1 : W3.cell? ⟨q, 1, none⟩ = some v2 := by rw [cell_p HT.out.gb.ga.box]; rfl
              have t0 : W3.cell? ⟨qt, 0, none⟩ = some (.string xa) := by rw [cell_p HT.out.bx]; rfl
              have t1 : W3.cell? ⟨qt, 1, none⟩ = some (.string xc) := by rw [cell_p HT.out.bx]; rfl
              have t2 : W3.cell? ⟨qt, 2, none⟩ = some (.int .i64 am) := by rw [cell_p HT.out.bx]; rfl
              obtain ⟨A3, c3, hv3⟩ := own_form HO.out
              subst hv3
              have t3 : W3.cell? ⟨qt, 3, none⟩ = some (.slice A3 j c3) := by rw [cell_p HT.out.bx]; rfl
              have HMB : Hid (ts.length ≤ 20) := Lib.hid (by have h1 := HMM.out; have h2 := HTS.out; omega)
              have HW3 : Hid (w.heap.size + 2 ≤ W3.heap.size) := Lib.hid HT.out.gb.sz
              have hk2I : (k2 : Int) ≤ 1000 := by have := HMM.out; omega
              go_wp2_with ((at_builtin
                            refine wpList_append_own_at _ rfl (.tmp 69) (.tmp 71) _ rfl (w.heap.size + 2) 58 j0 _ 4 64 Tryz.underlying35 hj0 hy0 hy1 hy2 rfl (by omega) v2 ts.length (tkCells ts) rfl (HT.out.gb.o2.alloc _) ⟨W3.heap.size, 0, none⟩ 1 1 [.string xa, .string xc, .int .i64 am, .slice A3 j c3] rfl rfl (cells_new4 _ _ _ _ _ _) (by simp [Value.oneCell']) (by have := HMB.out; unfold maxLen; omega) (by have := HMB.out; omega) (by have := HW3.out; simp; omega) ?_
                            intro v5 w10 hown10 hg10 _ hat10
                            clear hat10
                            obtain ⟨g10, cap10, rfl, _, _⟩ := hown10.form (by omega)
                            have HO10 := Lib.hid hown10
                            have HG10 := Lib.hid hg10
                            have HGA := Lib.hid ((HT.out.gb.ga.alloc (RR.of p) (.cells #[.string xa, .string xc, .int .i64 am, .slice A3 j c3] 58 (0, 0))).grow (RR.of p) hg10 (fun g e => by have h1 := own_ge HT.out.gb.o2 g e; have h2 := HQ.out; omega))
                            have b10 : w10.cell? ⟨q, 1, none⟩ = some v2 := (by rw [cell_p HGA.out.box]; rfl)
                            have f10 : w10.frozen? ⟨q, 1, none⟩ = false := frozen_p HGA.out.box
                            clear hown10 hg10))
              have HBN : Hid (GB p q r0 37 (RR p) w (w.heap.size + 2) k v1 xs (ts ++ [(⟨(rText sa).1, (rText (rText sa).2).1, am, ys⟩, .slice A3 j c3)]) sp (.slice (some ⟨g10, 0, none⟩) (ts.length + 1) cap10) (w10.setCell ⟨q, 1, none⟩ (.slice (some ⟨g10, 0, none⟩) (ts.length + 1) cap10))) := Lib.hid
                (HT.out.gb.more (RR.of p) (by have := HQ.out; omega) HQ.out.1 HQ.out.2.1 HQ.out.2.2.2.1 HG10.out (by
                  rw [tkCells_snoc]
                  have ea : str8 (rText sa).1 = .string xa := by rw [str8, HXA.out]
                  have ec : str8 (rText (rText sa).2).1 = .string xc := by rw [str8, HXC.out]
                  simp only [ea, ec]
                  exact HO10.out) (by
                  have h := own_base HO.out (base' := w.heap.size + 2) (by have h1 := HQT.out; have h2 := HB.out.sz; omega)
                  rw [← HYS.out] at h ⊢
                  exact h))
              go_roundw
              case rel =>
                have htk : rTake sa = (⟨(rText sa).1, (rText (rText sa).2).1, am, ys⟩, sp) := by
                  show ((⟨(rText sa).1, (rText (rText sa).2).1, (rNum (rText (rText sa).2).2).1, (rMany rPl (rCount 12 (rNum (rText (rText sa).2).2).2).1.toNat (rCount 12 (rNum (rText (rText sa).2).2).2).2).1⟩ : TakeD), (rMany rPl (rCount 12 (rNum (rText (rText sa).2).2).2).1.toNat (rCount 12 (rNum (rText (rText sa).2).2).2).2).2) = _
                  rw [HAM.out, HSB.out, HJ.out, HS3.out, Int.toNat_natCast, HRMJ.out]
                refine ⟨k2 + 1, by go_num, by omega, ts ++ [(⟨(rText sa).1, (rText (rText sa).2).1, am, ys⟩, .slice A3 j c3)], sp, _, by have := HTS.out; simp [this], HBN.out, ?_⟩
                rw [HRMT.out, rMany_step2 rTake (M - k2) sa (by omega), htk, show M - k2 - 1 = M - (k2 + 1) by omega]
                simp
              case measure => simp [intOf]; omega
        · have hkM : k2 = M := by omega
          have HRME : Hid (rMany rTake M s2 = (ts.map (·.1), sa)) := Lib.hid (by have := HRMT.out; rw [this, hkM]; simp [rMany])
          have HSET : Hid (rSet0 s0 = (⟨xs, ts.map (·.1)⟩, sa)) := Lib.hid (by
            show ((⟨(rMany rLeg (rCount 120 s0).1.toNat (rCount 120 s0).2).1, (rMany rTake (rCount 20 (rMany rLeg (rCount 120 s0).1.toNat (rCount 120 s0).2).2).1.toNat (rCount 20 (rMany rLeg (rCount 120 s0).1.toNat (rCount 120 s0).2).2).2).1⟩ : SetD), (rMany rTake (rCount 20 (rMany rLeg (rCount 120 s0).1.toNat (rCount 120 s0).2).2).1.toNat (rCount 20 (rMany rLeg (rCount 120 s0).1.toNat (rCount 120 s0).2).2).2).2) = _
            rw [HN.out, HS1.out, Int.toNat_natCast, HRM0.out]
            show ((⟨xs, (rMany rTake (rCount 20 s).1.toNat (rCount 20 s).2).1⟩ : SetD), (rMany rTake (rCount 20 s).1.toNat (rCount 20 s).2).2) = _
            rw [HM.out, HS2.out, Int.toNat_natCast, HRME.out])
          clear hkM
          have HRR := Lib.hid HB.out.ga.rd
          obtain ⟨bb, hbb, _, _⟩ := HB.out.ga.rd
          have p1 : W2.cell? ⟨p, 1, none⟩ = some (.int .i64 sa.e) := hbb.cells.2
          have r0c : W2.cell? ⟨r0, 0, none⟩ = some (.slice none 0 0) := by rw [cell_p HB.out.ga.res]; rfl
          have r1c : W2.cell? ⟨r0, 1, none⟩ = some (.slice none 0 0) := by rw [cell_p HB.out.ga.res]; rfl
          have r0f : W2.frozen? ⟨r0, 0, none⟩ = false := frozen_p HB.out.ga.res
          have r1f : W2.frozen? ⟨r0, 1, none⟩ = false := frozen_p HB.out.ga.res
          have q0c : W2.cell? ⟨q, 0, none⟩ = some v1 := by rw [cell_p HB.out.ga.box]; rfl
          have q1c : W2.cell? ⟨q, 1, none⟩ = some v2 := by rw [cell_p HB.out.ga.box]; rfl
          obtain ⟨A1, c1, hv1⟩ := own_form HB.out.o1
          obtain ⟨A2, c2, hv2⟩ := own_form HB.out.o2
          subst hv1 hv2
          by_cases he : sa.e = 0
          · have hb1 : (sa.e == 0) = true := by simpa using he
            have hb2 : (sa.e != 0) = false := by simpa using he
            have HE := Lib.hid he
            clear he hbb
            go_wp2_with fail
            have h1 := Go.Lib.heap_setCell_same (i := 0) HB.out.ga.res (.slice A1 k c1)
            have h2 := Go.Lib.heap_setCell_same (i := 1) h1 (.slice A2 ts.length c2)
            have g1 := grownBy_setCell W2 r0 0 (.slice A1 k c1)
            have g2 := grownBy_setCell (W2.setCell ⟨r0, 0, none⟩ (.slice A1 k c1)) r0 1 (.slice A2 ts.length c2)
            refine bodyPost_ret (results_cell_row rfl _ _ r0 37 #[.slice A1 k c1, .slice A2 ts.length c2] (0, 0) _ rfl h2 Tryz.underlying37 rfl rfl) rfl ?_
            have hR : rSet s0 = (⟨xs, ts.map (·.1)⟩, sa) := by unfold rSet; rw [HSET.out]; simp only; rw [if_neg (by have := HE.out; omega)]
            have kp : ∀ {e size n : Nat} {v : Value} {zs : List Value}, W2.ownsRow (w.heap.size + 2) e size v n zs → ((W2.setCell ⟨r0, 0, none⟩ (.slice A1 k c1)).setCell ⟨r0, 1, none⟩ (.slice A2 ts.length c2)).ownsRow (w.heap.size + 2) e size v n zs := fun h' => by
              have k1 := kept_of h' g1 (fun g e => by cases e; intro e2; have h3 := own_ge h' r0 e2; have h4 := HQ.out; omega)
              exact kept_of k1 g2 (fun g e => by cases e; intro e2; have h3 := own_ge k1 r0 e2; have h4 := HQ.out; omega)
            refine ⟨_, _, rfl, only_grown' (only_grown' HB.out.ga.g g1 (fun g e => by cases e; exact .inr HQ.out.2.2.2.2.1)) g2 (fun g e => by cases e; exact .inr HQ.out.2.2.2.2.1), ?_, ?_⟩
            · rw [hR]
              exact (RR.of p).keep ((RR.of p).keep HB.out.ga.rd g1 (fun e => HQ.out.2.2.1 (Option.some.inj e))) g2 (fun e => HQ.out.2.2.1 (Option.some.inj e))
            · rw [hR]
              exact ⟨A1, k, c1, A2, ts.length, c2, rfl, rfl, fun w' hk => ⟨HXS.out.symm, legs_own (hk.own (.inl rfl) (kp HB.out.o1)), by simp, takes_own (hk.own (.inr (.inl rfl)) (kp HB.out.o2)) (fun a ha => hk.own (.inr (.inr rfl)) (kp (HB.out.op a ha)))⟩⟩
          · have hb1 : (sa.e == 0) = false := by simpa using he
            have hb2 : (sa.e != 0) = true := by simpa using he
            have HE := Lib.hid he
            clear he hbb
            go_wp2_with fail
            have h1 := Go.Lib.heap_setCell_same (i := 0) HB.out.ga.res (.slice none 0 0)
            have h2 := Go.Lib.heap_setCell_same (i := 1) h1 (.slice none 0 0)
            have g1 := grownBy_setCell W2 r0 0 (.slice none 0 0)
            have g2 := grownBy_setCell (W2.setCell ⟨r0, 0, none⟩ (.slice none 0 0)) r0 1 (.slice none 0 0)
            refine bodyPost_ret (results_cell_row rfl _ _ r0 37 #[.slice none 0 0, .slice none 0 0] (0, 0) _ rfl h2 Tryz.underlying37 rfl rfl) rfl ?_
            have hR : rSet s0 = (⟨[], []⟩, sa) := by unfold rSet; rw [HSET.out]; simp only; rw [if_pos HE.out]
            refine ⟨_, _, rfl, only_grown' (only_grown' HB.out.ga.g g1 (fun g e => by cases e; exact .inr HQ.out.2.2.2.2.1)) g2 (fun g e => by cases e; exact .inr HQ.out.2.2.2.2.1), ?_, ?_⟩
            · rw [hR]
              exact (RR.of p).keep ((RR.of p).keep HB.out.ga.rd g1 (fun e => HQ.out.2.2.1 (Option.some.inj e))) g2 (fun e => HQ.out.2.2.1 (Option.some.inj e))
            · rw [hR]
              exact ⟨none, 0, 0, none, 0, 0, rfl, rfl, fun _ _ => ⟨rfl, fun h => absurd rfl h, rfl, fun h => absurd rfl h⟩⟩
end Go.Proofs.YtgmbppfkkiobhaaGreat.Wire
