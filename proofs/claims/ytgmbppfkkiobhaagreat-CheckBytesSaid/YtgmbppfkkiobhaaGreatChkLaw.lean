/- CheckBytes: the law is walked: the sets put by both writers, read by both readers. -/
import Derived.Test.YtgmbppfkkiobhaaGreatChkIn
import Derived.Test.YtgmbppfkkiobhaaGreatWireNewR
import Derived.Deep.RegionHeld3
namespace Go.Proofs.YtgmbppfkkiobhaaGreat.Wire
open Go Go.RowKit Go.Lib
/-- Where the loop over the document's writer stands. -/
structure LP (w w3 : World) (q : Nat) (s : WS) (wr : World) : Prop where
  W : RWrS w.heap.size q s wr
  b : Below w.heap.size w wr
  k : KeepsU q w3 wr

theorem sb_drew {a w : World} (h : Below a.heap.size a w) : Below a.heap.size a w.drew := ⟨h.os, h.tape, h.output, h.size, h.block⟩
theorem sb_grown {a s d : World} {p : Nat} (h : Below a.heap.size a s) (k : s.grownBy d (some p)) (hp : a.heap.size ≤ p) : Below a.heap.size a d := below_grown h k h.size (fun g e => by cases e; exact hp)
theorem sb_step {a s d : World} (h : Below a.heap.size a s) (hb : Below s.heap.size s d) : Below a.heap.size a d := h.trans (hb.mono h.size)
set_option maxRecDepth 20000 in
set_option maxHeartbeats 1000000 in
theorem chkWalk (A : Option Addr) (n c : Nat) (xs : List SetD) (b : ByteArray) (w : World) (hx : SetsAt w A xs) (hn : n = xs.length) (hok : ∀ x ∈ xs, SetNum x)
    (hal : ∀ W : World, Calls Tryz.prog 6 #[] W fun en W' => en = .returned (.bool true) ∧ Below W.heap.size W W') :
    Calls Tryz.prog 3 #[.slice A n c, .string b] w fun en w' => en = .returned (.bool true) ∧ Below w.heap.size w w' := by
  have HX := Lib.hid hx
  have HN := Lib.hid hn
  have HOK := Lib.hid hok
  have HAL := Lib.hid hal
  clear hx hn hok hal
  go_enter Tryz.func3, Tryz.ntmps3
  go_wp2_with fail
  refine (setsL_any A n c xs w HX.out HN.out).mono ?_
  rintro e w1 ⟨hb1, r, rfl, hr⟩
  have HB1 := Lib.hid hb1
  have HR := Lib.hid hr
  clear hb1 hr
  cases r with
  | false =>
    go_wp2_with fail
    refine (HAL.out _).mono ?_
    rintro e w2 ⟨rfl, hb2⟩
    go_wp2_with fail
    refine bodyPost_ret (results_tmp rfl _ _ _) rfl ?_
    exact ⟨rfl, HB1.out.trans (hb2.mono HB1.out.size)⟩
  | true =>
    obtain ⟨h40, hsm⟩ := HR.out rfl
    have HIN : Hid (∀ x ∈ xs, SetIn x) := Lib.hid (fun x hx => SetIn.of (HOK.out x hx) (hsm x hx))
    clear hsm
    by_cases h6 : b.size ≤ 6000
    · have h6i : (b.size : Int) ≤ 6000 := by omega
      go_wp2_with fail
      refine (newW_any w1).mono ?_
      rintro e w2 ⟨rfl, hwr, hb2⟩
      have HW2 := Lib.hid hwr
      have HB2 := Lib.hid (HB1.out.trans (hb2.mono HB1.out.size))
      have HPQ : Hid (w1.heap.size < w2.heap.size) := Lib.hid hwr.le.2
      clear hwr hb2
      go_wp2_with fail
      have HWA : Hid (WrS w1.heap.size w1.heap.size ⟨0, []⟩ (w2.alloc (.cells #[.slice none 0 0, .int .i64 0] 31 (0, 0)))) := Lib.hid ((WrS.ok rfl HW2.out).alloc _)
      have HBA : Hid (Below w.heap.size w (w2.alloc (.cells #[.slice none 0 0, .int .i64 0] 31 (0, 0)))) := Lib.hid (HB2.out.alloc HB2.out.size _)
      refine (putP_any w1.heap.size w1.heap.size w ⟨0, []⟩ A n c xs _ HB1.out.size HBA.out HWA.out HX.out HN.out.symm HIN.out h40 (by simp)).mono ?_
      rintro e w3 ⟨⟨u, rfl⟩, hw3, hb3, hk3⟩
      obtain ⟨p, hp⟩ : ∃ p, w1.heap.size = p := ⟨_, rfl⟩
      obtain ⟨q, hq⟩ : ∃ q, w2.heap.size = q := ⟨_, rfl⟩
      have HD3 : Hid (w3.heap[q]? = some (.cells #[.slice none 0 0, .int .i64 0] 31 (0, 0))) := Lib.hid (by
        have h1 := heap_alloc_new w2 (.cells #[.slice none 0 0, .int .i64 0] 31 (0, 0))
        have h2 := hk3 w2.heap.size _ _ h1 (by decide) (by have := HPQ.out; omega)
        rw [← hq]
        exact h2.trans h1)
      have HB3 : Hid (Below w.heap.size w w3) := Lib.hid (HBA.out.trans (hb3.mono HB1.out.size))
      have HW3 := Lib.hid hw3
      have HQ : Hid (w.heap.size ≤ q ∧ p ≠ q ∧ w.heap.size ≤ p) := Lib.hid (by have h1 := HPQ.out; have h2 := HB1.out.size; omega)
      rw [hp] at HW3
      rw [hp, hq]
      clear hw3 hb3 hk3 HWA HBA HB2 HW2 HPQ hp hq
      have HL0 : Hid (LP w w3 q ⟨0, []⟩ w3) := Lib.hid ⟨.ok rfl ⟨HQ.out.1, .slice none 0 0, HD3.out, World.ownsRow_nil _ _ _ _, by simp [Value.ownBlock]⟩, HB3.out, KeepsU.refl _ _⟩
      go_wp2_with fail
      go_loopw [7] (fun i wr => ∃ k : Nat, i = .int .i64 k ∧ k ≤ n ∧ LP w w3 q (wSets ⟨0, []⟩ (xs.take k)) wr) (fun i _ => n - (intOf i).toNat)
      case atStart => exact ⟨0, rfl, Nat.zero_le _, HL0.out⟩
      case round =>
        obtain ⟨k, rfl, hk, hL⟩ := hrel
        have HL := Lib.hid hL
        clear hL
        obtain ⟨W1, rfl⟩ : ∃ W : World, W = wr := ⟨wr, rfl⟩
        by_cases hlt : k < n
        · have hjl : k < xs.length := by have := HN.out; omega
          have hjy : xs[k]? = some xs[k] := List.getElem?_eq_getElem hjl
          have HXI := Lib.hid (HIN.out _ (List.getElem_mem hjl))
          have HLEN0 := Lib.hid (sets_len (xs.take k) (fun x hx => HIN.out x (List.mem_of_mem_take hx)) ⟨0, []⟩)
          obtain ⟨ad, L, n1, c1, T, m, d, rfl, k0, k1, e1, hL, e2, hT⟩ := set_at HL.out.b HX.out hjy
          have HJX := Lib.hid hjy
          generalize xs[k] = x at HJX HXI e1 hL e2 hT
          have HSA : Hid (SetAt w L n1 T m x) := Lib.hid ⟨e1, hL, e2, hT⟩
          obtain ⟨st, hst⟩ : ∃ st, wSets ⟨0, []⟩ (xs.take k) = st := ⟨_, rfl⟩
          rw [hst] at HL HLEN0
          have HST := Lib.hid hst
          have HLS : Hid (st.l.length ≤ 10000000000) := Lib.hid (by have h1 := HLEN0.out; rw [List.length_take] at h1; simp only [List.length_nil] at h1; omega)
          clear hjy hjl e1 hL e2 hT hst HLEN0
          go_wp2_with fail
          refine (plainS_any L T n1 c1 m d _).mono ?_
          rintro e w4 ⟨rfl, hb4⟩
          have HL4 : Hid (LP w w3 q st w4) := Lib.hid ⟨HL.out.W.below hb4, HL.out.b.trans (hb4.mono HL.out.b.size), HL.out.k.trans (KeepsU.below HL.out.W.le.2 hb4)⟩
          clear hb4 k0 k1
          go_wp2_with fail
          refine (putD_any w.heap.size q w st L n1 c1 T m d x _ (Nat.le_refl _) HL4.out.b HL4.out.W HSA.out HXI.out HLS.out).mono ?_
          rintro e w5 ⟨⟨u2, rfl⟩, hW5, hb5, hk5⟩
          have HL5 : Hid (LP w w3 q (wSet st x) w5) := Lib.hid ⟨hW5, HL4.out.b.trans hb5, HL4.out.k.trans hk5.2⟩
          clear hW5 hb5 hk5
          go_wp2_with fail
          go_roundw
          case rel =>
            refine ⟨k + 1, by go_num, by omega, ?_⟩
            have e9 : wSets ⟨0, []⟩ (xs.take (k + 1)) = wSet st x := by rw [← HST.out]; exact fold_succ wSet _ xs k x HJX.out
            rw [e9]
            exact HL5.out
          case measure => simp [intOf]; omega
        · have hkn : k = n := by omega
          subst hkn
          have HS : Hid (wSets ⟨0, []⟩ (xs.take k) = wSets ⟨0, []⟩ xs) := Lib.hid (by rw [List.take_of_length_le (by have := HN.out; omega)])
          rw [HS.out] at HL
          obtain ⟨st, hst⟩ : ∃ st, wSets ⟨0, []⟩ xs = st := ⟨_, rfl⟩
          have HST := Lib.hid hst
          rw [hst] at HL HW3
          clear hst HS hlt
          have HWP : Hid (WrS p p st W1) := Lib.hid (HW3.out.keepsU HL.out.k (fun v e t fr h g hg => by
            have h1 := HD3.out.symm.trans h
            simp only [Option.some.injEq, Obj.cells.injEq] at h1
            have h2 : v = .slice none 0 0 := by have h3 := congrArg Array.toList h1.1; simp at h3; exact h3.1.symm
            subst h2
            cases hg) (HL.out.b.os.trans HB3.out.os.symm) (HL.out.b.tape.trans HB3.out.tape.symm) (HL.out.b.output.trans HB3.out.output.symm) HQ.out.2.1 HD3.out)
          go_wp2_with fail
          refine (wbytes_s p p st _ HWP.out).mono ?_
          rintro e w6 ⟨rfl, rfl⟩
          go_wp2_with fail
          refine (rwbytes_s w.heap.size q st _ HL.out.W).mono ?_
          rintro e w7 ⟨rfl, m7, rfl⟩
          have HB7 : Hid (Below w.heap.size w (W1.drewN m7)) := Lib.hid (HL.out.b.trans (Go.Joins.below_draws _ _ _))
          obtain ⟨W7, hW7⟩ : ∃ W, W1.drewN m7 = W := ⟨_, rfl⟩
          rw [hW7] at HB7
          rw [hW7]
          clear hW7 HWP HL HD3 HW3 HL0
          obtain ⟨bo, hbo⟩ : ∃ bo, outB st = bo := ⟨_, rfl⟩
          have HBO := Lib.hid hbo
          rw [hbo]
          clear hbo
          obtain ⟨er, her⟩ : ∃ er, st.e = er := ⟨_, rfl⟩
          have HER := Lib.hid her
          rw [her]
          clear her
          go_wp2_with fail
          refine (newRd_any b _ (by omega)).mono ?_
          rintro e w8 ⟨⟨pr, rfl, hpr, hrd⟩, hb8⟩
          have HB8 : Hid (Below w.heap.size w w8) := Lib.hid (HB7.out.trans (hb8.mono HB7.out.size))
          have HR8 : Hid (RP pr ⟨0, bl b⟩ w8) := Lib.hid ⟨b, 0, hrd, by simp, Nat.zero_le _, by omega⟩
          have HPR : Hid (w.heap.size ≤ pr ∧ pr < w8.heap.size) := Lib.hid ⟨Nat.le_trans HB7.out.size hpr, blk_lt hrd⟩
          clear hpr hrd hb8
          go_wp2_with fail
          have HRB : Hid (RP pr ⟨0, bl b⟩ (w8.alloc (.cells #[.string b, .int .i64 0] 46 (0, 0)))) := Lib.hid ((RP.of pr).keep HR8.out (World.grownBy_alloc w8 _ none) (by simp))
          refine (getP_any pr ⟨0, bl b⟩ _ HRB.out).mono ?_
          rintro e w9 ⟨v1, v2, rfl, hg9, hR9, hv9⟩
          have HO9 : Hid (w9.heap[w8.heap.size]? = some (.cells #[.string b, .int .i64 0] 46 (0, 0))) := Lib.hid ((hg9.block _ (by simp) (by have := HPR.out.2; intro e; have e2 := Option.some.inj e; omega)).trans (heap_alloc_new w8 _))
          have HB9 : Hid (Below w.heap.size w w9) := Lib.hid (below_grown (HB8.out.alloc HB8.out.size _) hg9 (by have := HB8.out.size; simp; omega) (fun g e => by cases e; exact HPR.out.1))
          obtain ⟨q2, hq2⟩ : ∃ q2, w8.heap.size = q2 := ⟨_, rfl⟩
          have HQ2 : Hid (pr < q2 ∧ w.heap.size ≤ q2) := Lib.hid (by have h1 := HPR.out; have h2 := HB8.out.size; omega)
          rw [hq2] at HO9
          rw [hq2]
          obtain ⟨L1, n1, c1, T1, m1, d1, rfl, rfl, hs9⟩ := hv9
          obtain ⟨R, hR⟩ : ∃ R, rSet ⟨0, bl b⟩ = R := ⟨_, rfl⟩
          rw [hR] at hR9 hs9
          have HRI : Hid (SetIn R.1) := Lib.hid (by rw [← hR]; exact rSet_in _)
          have HV9 := Lib.hid hs9
          have HR9 := Lib.hid hR9
          have HRE := Lib.hid hR
          clear hq2 hg9 hs9 hR9 hR HRB HR8
          go_wp2_with fail
          refine (getD_any q2 ⟨0, bl b⟩ _ ⟨b, HO9.out, rfl, by show (bl b).length ≤ _; rw [bl_len]; omega⟩).mono ?_
          rintro e w10 ⟨v3, v4, rfl, hg10, hR10, hv10⟩
          obtain ⟨L2, n2, c2, T2, m2, d2, rfl, rfl, hs10⟩ := hv10
          rw [HRE.out] at hR10 hs10
          have HV10 := Lib.hid hs10
          have HR10 := Lib.hid hR10
          have HP10 : Hid (RP pr R.2 w10) := Lib.hid ((RP.of pr).keep HR9.out hg10 (by have := HQ2.out.1; intro e; have e2 := Option.some.inj e; omega))
          have HW10 : Hid (∀ w', KeepT w10 w' → SetAt w' L1 n1 T1 m1 R.1) := Lib.hid (fun w' h => HV9.out w' ((KeepT.grown hg10 HO9.out (by decide)).trans h))
          have HB10 : Hid (Below w.heap.size w w10) := Lib.hid (below_grown HB9.out hg10 HB9.out.size (fun g e => by cases e; exact HQ2.out.2))
          clear hg10 hs10 hR10 HV9 HR9 HO9
          go_wp2_with fail
          obtain ⟨b', at', hrd', hl', hat', hbs'⟩ := HP10.out
          obtain ⟨bq, hrq, hlq, hll⟩ := HR10.out
          obtain ⟨W11, hW11⟩ : ∃ W, (w10.alloc (.cells #[.slice L1 n1 c1, .slice T1 m1 d1] 39 (0, 0))).alloc (.cells #[.slice L2 n2 c2, .slice T2 m2 d2] 37 (0, 0)) = W := ⟨_, rfl⟩
          have hB11 : Below w10.heap.size w10 W11 := by rw [← hW11]; exact Go.Joins.below_alloc2 _ _ _
          have hC11 : W11.heap[w10.heap.size]? = some (.cells #[.slice L1 n1 c1, .slice T1 m1 d1] 39 (0, 0)) := by rw [← hW11]; exact (Below.heap_alloc _ _ _ (by simp)).trans (heap_alloc_new w10 _)
          have hD11 : W11.heap[w10.heap.size + 1]? = some (.cells #[.slice L2 n2 c2, .slice T2 m2 d2] 37 (0, 0)) := by
            rw [← hW11]
            have h1 := heap_alloc_new (w10.alloc (.cells #[.slice L1 n1 c1, .slice T1 m1 d1] 39 (0, 0))) (.cells #[.slice L2 n2 c2, .slice T2 m2 d2] 37 (0, 0))
            simpa using h1
          rw [hW11]
          obtain ⟨e11, l11⟩ : ∃ x : RS, x = R.2 := ⟨_, rfl⟩
          have HEN : Hid (n2 = n1 ∧ m2 = m1) := Lib.hid (by
            have h1 := HW10.out w10 (KeepT.refl _)
            have h2 := HV10.out w10 (KeepT.refl _)
            exact ⟨h2.1.trans h1.1.symm, h2.2.2.1.trans h1.2.2.1.symm⟩)
          obtain ⟨rfl, rfl⟩ := HEN.out
          have HSS : Hid (∀ W, Below W11.heap.size W11 W → SetAt W L1 n2 T1 m2 R.1 ∧ SetAt W L2 n2 T2 m2 R.1) := Lib.hid (fun W hW => by
            have hk := (KeepT.below hB11).trans (KeepT.below hW)
            exact ⟨HW10.out W hk, HV10.out W hk⟩)
          have HRD : Hid (∀ W, Below W11.heap.size W11 W → Rd pr R.2.e b' at' W) := Lib.hid (fun W hW => by
            have h1 : Rd pr R.2.e b' at' W11 := (hB11.block pr (blk_lt hrd')).trans hrd'
            exact (hW.block pr (blk_lt h1)).trans h1)
          have HAT : Hid (at' ≤ b'.size ∧ b'.size ≤ 1000000000000) := Lib.hid ⟨hat', hbs'⟩
          have HLQ : Hid (((b'.size : Int) - at') = (bq.size : Int)) := Lib.hid (by
            have h1 : (bl bq).length = ((bl b').drop at').length := by rw [hlq, hl']
            rw [bl_len, List.length_drop, bl_len] at h1
            omega)
          have HLT : Hid (w10.heap.size < W11.heap.size ∧ w10.heap.size + 1 < W11.heap.size ∧ pr < W11.heap.size ∧ q2 < W11.heap.size) := Lib.hid ⟨blk_lt hC11, blk_lt hD11, Nat.lt_of_lt_of_le (blk_lt hrd') hB11.size, Nat.lt_of_lt_of_le (blk_lt hrq) hB11.size⟩
          have HB11 : Hid (Below w.heap.size w W11) := Lib.hid (HB10.out.trans (hB11.mono HB10.out.size))
          obtain ⟨g0, g1⟩ := RRd.cells (show RRd q2 R.2.e bq W11 from (hB11.block q2 (blk_lt hrq)).trans hrq)
          have g2 := (HRD.out W11 (Below.refl _ _)).cells.1
          have kc0 : W11.cell? ⟨w10.heap.size, 0, none⟩ = some (.slice L1 n2 c1) := by rw [cell_p hC11]; rfl
          have kc1 : W11.cell? ⟨w10.heap.size, 1, none⟩ = some (.slice T1 m2 d1) := by rw [cell_p hC11]; rfl
          have kc2 : W11.cell? ⟨w10.heap.size + 1, 0, none⟩ = some (.slice L2 n2 c2) := by rw [cell_p hD11]; rfl
          have kc3 : W11.cell? ⟨w10.heap.size + 1, 1, none⟩ = some (.slice T2 m2 d2) := by rw [cell_p hD11]; rfl
          have hS0 : Below W11.heap.size W11 W11.drew := sb_drew (Below.refl _ _)
          obtain ⟨f0, hf0⟩ : ∃ f0, w10.heap.size = f0 := ⟨_, rfl⟩
          rw [hf0] at kc0 kc1 kc2 kc3 HLT
          rw [hf0]
          obtain ⟨Re, hRe⟩ : ∃ Re, R.2.e = Re := ⟨_, rfl⟩
          rw [hRe] at g1 g2 HRD
          clear hW11 hB11 hC11 hD11 hrd' hl' hat' hbs' hrq hlq hll hf0 hRe HW10 HV10 HP10 HR10
          go_region_held3 (fun w' => Below W11.heap.size W11 w' ∧ w'.cell? ⟨f0, 0, none⟩ = some (.slice L1 n2 c1) ∧ w'.cell? ⟨f0, 1, none⟩ = some (.slice T1 m2 d1) ∧ w'.cell? ⟨f0 + 1, 0, none⟩ = some (.slice L2 n2 c2) ∧ w'.cell? ⟨f0 + 1, 1, none⟩ = some (.slice T2 m2 d2) ∧ w'.cell? ⟨pr, 0, none⟩ = some (.int .i64 Re) ∧ w'.cell? ⟨q2, 0, none⟩ = some (.string bq) ∧ w'.cell? ⟨q2, 1, none⟩ = some (.int .i64 Re))
            (first
              | (have hI : Below W11.heap.size W11 _ := (by first | assumption | exact sb_drew (by assumption) | exact Below.refl _ _)
                 exact ⟨hI, (hI.cell (p := ⟨f0, 0, none⟩) HLT.out.1).trans kc0, (hI.cell (p := ⟨f0, 1, none⟩) HLT.out.1).trans kc1, (hI.cell (p := ⟨f0 + 1, 0, none⟩) HLT.out.2.1).trans kc2, (hI.cell (p := ⟨f0 + 1, 1, none⟩) HLT.out.2.1).trans kc3, (hI.cell (p := ⟨pr, 0, none⟩) HLT.out.2.2.1).trans g2, (hI.cell (p := ⟨q2, 0, none⟩) HLT.out.2.2.2).trans g0, (hI.cell (p := ⟨q2, 1, none⟩) HLT.out.2.2.2).trans g1⟩)
              | go_keep)
            ((first
              | (go_at_call 10; refine (plainS_any L1 T1 n2 c1 m2 d1 _).mono ?_; rintro e w12 ⟨rfl, hb12⟩; have hx12 : Below W11.heap.size W11 w12 := sb_step (by first | assumption | exact sb_drew (by assumption)) hb12)
              | (go_at_call 16; refine (sameSet_any L1 L2 T1 T2 n2 c1 c2 m2 d1 d2 R.1 _ (HSS.out _ (by first | assumption | exact sb_drew (by assumption))).1 (HSS.out _ (by first | assumption | exact sb_drew (by assumption))).2 HRI.out).mono ?_; rintro e w13 ⟨rfl, hb13⟩; have hx13 : Below W11.heap.size W11 w13 := sb_step (by first | assumption | exact sb_drew (by assumption)) hb13)
              | (go_at_call 18; refine (left_any pr Re b' at' _ (HRD.out _ (by first | assumption | exact sb_drew (by assumption))) HAT.out.1 HAT.out.2).mono ?_; rintro e w15 ⟨rfl, n15, rfl⟩; have hx15 : Below W11.heap.size W11 (World.drewN _ n15) := sb_step (by first | assumption | exact sb_drew (by assumption)) (Go.Joins.below_draws _ _ _))
              | (go_at_call 17; refine (wrong_any pr Re _ (HRD.out _ (by assumption)).cells.1).mono ?_; rintro e w14 ⟨rfl, rfl⟩)))
          have HX15 := Lib.hid hx15
          have hlq9 := HLQ.out
          clear hx12 hx13 hx15 hb12 hb13
          go_wp2_with fail
          have HB15 : Hid (Below w.heap.size w (w13.drewN n15)) := Lib.hid (HB11.out.trans (HX15.out.mono HB11.out.size))
          have HBS : Hid (bo.size ≤ 281474976710656) := Lib.hid (by
            have h1 := sets_len xs HIN.out ⟨0, []⟩
            rw [HST.out] at h1
            simp only [List.length_nil] at h1
            have h2 := HN.out
            rw [← HBO.out, outB]
            split
            · show st.l.toArray.size ≤ _
              simp only [List.size_toArray]
              omega
            · decide)
          obtain ⟨W15, hW15⟩ : ∃ W, w13.drewN n15 = W := ⟨_, rfl⟩
          rw [hW15] at HB15
          rw [hW15]
          clear hW15 HX15
          clear kc0 kc1 kc2 kc3 g0 g1 g2 hS0 hlq9 HSS HRD HLQ HLT HAT HEN
          refine (newRd_any bo _ HBS.out).mono ?_
          rintro e w14 ⟨⟨p2, rfl, hp2, hrd2⟩, hb14⟩
          have HB14 : Hid (Below w.heap.size w w14) := Lib.hid (HB15.out.trans (hb14.mono HB15.out.size))
          have HP2 : Hid (w.heap.size ≤ p2 ∧ p2 < w14.heap.size) := Lib.hid ⟨Nat.le_trans HB15.out.size hp2, blk_lt hrd2⟩
          have HR14 : Hid (RP p2 ⟨0, bl bo⟩ w14) := Lib.hid ⟨bo, 0, hrd2, by simp, Nat.zero_le _, by
            have h1 := sets_len xs HIN.out ⟨0, []⟩
            rw [HST.out] at h1
            simp only [List.length_nil] at h1
            have h2 := HN.out
            rw [← HBO.out, outB]
            split
            · show st.l.toArray.size ≤ _
              simp only [List.size_toArray]
              omega
            · decide⟩
          clear hp2 hrd2 hb14
          go_wp2_with fail
          by_cases he0 : er = 0
          · subst he0
            have HG := Lib.hid (wSets_get (xs := xs) (by rw [HST.out]; exact HER.out))
            have hbl : bl bo = (xs.map setB).flatten := by
              rw [← HBO.out, outB, if_pos HER.out]
              have h1 := HG.out.1
              rw [HST.out] at h1
              rw [← h1]
              show st.l.toArray.toList = st.l
              simp
            have HRP : Hid (RP p2 ⟨0, ((xs.drop 0).map setB).flatten⟩ w14) := Lib.hid (by rw [List.drop_zero, ← hbl]; exact HR14.out)
            clear hbl HR14
            go_loopw [16] (fun i wr => ∃ j : Nat, i = .int .i64 j ∧ j ≤ k ∧ Below w.heap.size w wr ∧ RP p2 ⟨0, ((xs.drop j).map setB).flatten⟩ wr) (fun i _ => k - (intOf i).toNat)
            case atStart => exact ⟨0, rfl, Nat.zero_le _, HB14.out, HRP.out⟩
            case round =>
              obtain ⟨j, rfl, hj, hbw, hrp⟩ := hrel
              have HBW := Lib.hid hbw
              have HRW := Lib.hid hrp
              clear hbw hrp
              obtain ⟨W1, rfl⟩ : ∃ W : World, W = wr := ⟨wr, rfl⟩
              by_cases hlt : j < k
              · have hjl : j < xs.length := by have := HN.out; omega
                have hjy : xs[j]? = some xs[j] := List.getElem?_eq_getElem hjl
                have HXI := Lib.hid (HIN.out _ (List.getElem_mem hjl))
                have HFT := Lib.hid (HG.out.2 _ (List.getElem_mem hjl))
                have HDR : Hid (xs.drop j = xs[j] :: xs.drop (j + 1)) := Lib.hid (List.drop_eq_getElem_cons hjl)
                obtain ⟨ad, L, n1, c1, T, m, d, rfl, kw0, kw1, e1, hL, e2, hT⟩ := set_at (Below.refl _ w) HX.out hjy
                generalize xs[j] = x at HXI HFT HDR e1 hL e2 hT
                have HSA : Hid (SetAt w L n1 T m x) := Lib.hid ⟨e1, hL, e2, hT⟩
                have KW0 := Lib.hid kw0
                have KW1 := Lib.hid kw1
                have k0 := cell_below HBW.out kw0
                have k1 := cell_below HBW.out kw1
                have hn1 : n1 ≤ 1000 := by have := HXI.out.1; omega
                have hm1 : m ≤ 1000 := by have := HXI.out.2.1; omega
                clear hjy hjl kw0 kw1 e1 hL e2 hT
                by_cases h120 : n1 ≤ 120
                · by_cases h20 : m ≤ 20
                  · go_wp2_with fail
                    go_loopw [17] (fun i wl => ∃ t : Nat, i = .int .i64 t ∧ t ≤ m ∧ wl = W1 ∧ ∀ (q : Nat) (y : TakeD), q < t → x.takes[q]? = some y → y.pl.length ≤ 12) (fun i _ => m - (intOf i).toNat)
                    case atStart => exact ⟨0, rfl, Nat.zero_le _, rfl, fun _ _ h => absurd h (Nat.not_lt_zero _)⟩
                    case round =>
                      obtain ⟨t, rfl, ht, hwl, hall⟩ := hrel
                      have hwl2 := hwl.symm
                      clear hwl
                      subst hwl2
                      have HALL := Lib.hid hall
                      clear hall
                      by_cases hlt2 : t < m
                      · have htl : t < x.takes.length := by have := HSA.out.2.2.1; omega
                        have hty : x.takes[t]? = some x.takes[t] := List.getElem?_eq_getElem htl
                        obtain ⟨ad2, Q, pn, pc, rfl, hpn, _, _, _, _, k5⟩ := take_at HBW.out HSA.out.2.2.2 hty
                        have htI : (t : Int) < m := by omega
                        by_cases h12 : pn ≤ 12
                        · go_wp2_with fail
                          go_roundw
                          case rel => exact ⟨t + 1, by go_num, by omega, by first | rfl | trivial, fun q y hq hy => by
                            by_cases hqt : q < t
                            · exact HALL.out q y hqt hy
                            · have : q = t := by omega
                              subst this
                              rw [hty] at hy
                              cases hy
                              omega⟩
                          case measure => simp [intOf]; omega
                        · have h12i : (12 : Int) < pn := by omega
                          go_wp2_with fail
                          refine (HAL.out _).mono ?_
                          rintro e w15 ⟨rfl, hb15⟩
                          go_wp2_with fail
                          refine bodyPost_ret (results_tmp rfl _ _ _) rfl ?_
                          exact ⟨rfl, HBW.out.trans (hb15.mono HBW.out.size)⟩
                      · have htm : t = m := by omega
                        subst htm
                        have HFW : Hid (SetFew x) := Lib.hid ⟨by have := HSA.out.1; omega, by have := HSA.out.2.2.1; omega, fun y hy => by
                          obtain ⟨q, hq⟩ := List.mem_iff_getElem?.1 hy
                          have hql := (List.getElem?_eq_some_iff.1 hq).1
                          exact HALL.out q y (by have := HSA.out.2.2.1; omega) hq⟩
                        have HGT : Hid (rSet ⟨0, ((xs.drop j).map setB).flatten⟩ = (x, ⟨0, ((xs.drop (j + 1)).map setB).flatten⟩)) := Lib.hid (by
                          rw [HDR.out, List.map_cons, List.flatten_cons]
                          exact rSet_put HXI.out.ok HFT.out HFW.out _)
                        have HRD : Hid (RP p2 ⟨0, ((xs.drop j).map setB).flatten⟩ W1.drew) := Lib.hid ((RP.of p2).keep HRW.out (grownBy_drew W1 none) (by simp))
                        have hz0 : Below w.heap.size w W1.drew := sb_drew HBW.out
                        have hgP : ∀ (W : World), RP p2 ⟨0, ((xs.drop j).map setB).flatten⟩ W → Calls Tryz.prog 14 #[.pointer (some ⟨p2, 0, none⟩)] W fun en w' => ∃ L2 c2 T2 d2, en = .returned (.agg #[.slice L2 n1 c2, .slice T2 t d2]) ∧ W.grownBy w' (some p2) ∧ RP p2 ⟨0, ((xs.drop (j + 1)).map setB).flatten⟩ w' ∧ ∀ W', KeepT w' W' → SetAt W' L2 n1 T2 t x := fun W hW => (getP_any p2 _ W hW).mono fun en w' ⟨v1, v2, h1, h2, h3, h4⟩ => by
                          rw [HGT.out] at h3 h4
                          obtain ⟨L2, n2, c2, T2, m2, d2, rfl, rfl, h5⟩ := h4
                          have h6 := h5 w' (KeepT.refl _)
                          obtain rfl : n2 = n1 := h6.1.trans HSA.out.1.symm
                          obtain rfl : m2 = t := h6.2.2.1.trans HSA.out.2.2.1.symm
                          exact ⟨L2, c2, T2, d2, h1, h2, h3, h5⟩
                        have HGP := Lib.hid hgP
                        clear hgP
                        go_wp2_with fail
                        go_region_held3 (fun w' => w'.cell? (ad.add (j * 2)) = some (.slice L n1 c1) ∧ w'.cell? ⟨(ad.add (j * 2)).block, (ad.add (j * 2)).off + 1, none⟩ = some (.slice T t d))
                          (first
                            | (have hz9 : Below w.heap.size w _ := (by first | assumption | exact sb_drew (by assumption))
                               exact ⟨cell_below hz9 KW0.out, cell_below hz9 KW1.out⟩)
                            | go_keep)
                          ((first
                            | (go_at_call 10; with_reducible refine Calls.mono (plainS_any _ _ _ _ _ _ _) ?_; rintro e w16 ⟨rfl, hb16⟩; have hz16 : Below w.heap.size w w16 := sb_step (by assumption) hb16; try (have hy16 : Below wG.heap.size wG w16 := sb_step (by assumption) hb16))
                            | (go_at_call 16; with_reducible refine Calls.mono (sameSet_any L2 L T2 T n1 c2 c1 t d2 d x _ (hVG _ (KeepT.below (by assumption))) (SetAt.below (by assumption) HSA.out) HXI.out) ?_; rintro e w17 ⟨rfl, hb17⟩; have hz17 : Below w.heap.size w w17 := sb_step (by assumption) hb17; have hy17 : Below wG.heap.size wG w17 := sb_step (by assumption) hb17)
                            | (go_at_call 14; with_reducible refine Calls.mono (HGP.out _ (by first | exact HRD.out | exact (RP.of p2).keep HRD.out (only_bel (by assumption)) (by simp))) ?_; rintro e wG ⟨L2, c2, T2, d2, rfl, hgG, hRG, hVG⟩; have hzG : Below w.heap.size w wG := sb_grown (by assumption) hgG HP2.out.1; have hyG : Below wG.heap.size wG wG := Below.refl _ _)))
                        all_goals
                          have HR17 := Lib.hid ((RP.of p2).keep hRG (only_bel hy17) (by simp))
                          have HB17 := Lib.hid hz17
                          go_wp2_with fail
                          go_roundw
                          case rel => exact ⟨j + 1, by go_num, by omega, HB17.out, HR17.out⟩
                          case measure => simp [intOf]; omega
                  · go_wp2_with fail
                    refine (HAL.out _).mono ?_
                    rintro e w15 ⟨rfl, hb15⟩
                    go_wp2_with fail
                    refine bodyPost_ret (results_tmp rfl _ _ _) rfl ?_
                    exact ⟨rfl, HBW.out.trans (hb15.mono HBW.out.size)⟩
                · go_wp2_with fail
                  refine (HAL.out _).mono ?_
                  rintro e w15 ⟨rfl, hb15⟩
                  go_wp2_with fail
                  refine bodyPost_ret (results_tmp rfl _ _ _) rfl ?_
                  exact ⟨rfl, HBW.out.trans (hb15.mono HBW.out.size)⟩
              · have hjk : j = k := by omega
                subst hjk
                go_wp2_with fail
                refine (HAL.out _).mono ?_
                rintro e w16 ⟨rfl, hb16⟩
                have HR16 : Hid (RP p2 ⟨0, []⟩ w16) := Lib.hid (by
                  have h1 := (RP.of p2).keep HRW.out (only_bel hb16) (by simp)
                  rw [List.drop_of_length_le (by have := HN.out; omega)] at h1
                  exact h1)
                have HB16 : Hid (Below w.heap.size w w16) := Lib.hid (HBW.out.trans (hb16.mono HBW.out.size))
                clear hb16
                obtain ⟨be, ae, hre, hle, hae, hbe⟩ := HR16.out
                have HRE2 := Lib.hid hre
                have HLE : Hid (rEnd ⟨0, (bl be).drop ae⟩ = 0) := Lib.hid (by
                  have h1 : (bl be).drop ae = [] := hle.symm
                  rw [h1]
                  rfl)
                clear hre hle
                go_wp2_with fail
                refine (end_any p2 0 be ae _ HRE2.out hae hbe).mono ?_
                rintro e w17 ⟨rfl, n17, rfl⟩
                rw [HLE.out]
                go_wp2_with fail
                refine bodyPost_ret (results_tmp rfl _ _ _) rfl ?_
                exact ⟨rfl, HB16.out.trans (Go.Joins.below_draws _ _ _)⟩
          · have hb1 : (er == 0) = false := by simpa using he0
            have hb2 : (er != 0) = true := by simpa using he0
            go_loopw [16] (fun i wr => i = .int .i64 0 ∧ Below w.heap.size w wr) (fun _ _ => 0)
            case atStart => exact ⟨rfl, HB14.out⟩
            case round =>
              obtain ⟨rfl, hbw⟩ := hrel
              have HBW := Lib.hid hbw
              clear hbw
              obtain ⟨W1, rfl⟩ : ∃ W : World, W = wr := ⟨wr, rfl⟩
              by_cases hn0 : 0 < k
              all_goals
                go_wp2_with fail
                refine (HAL.out _).mono ?_
                rintro e w15 ⟨rfl, hb15⟩
                go_wp2_with fail
                refine bodyPost_ret (results_tmp rfl _ _ _) rfl ?_
                exact ⟨rfl, HBW.out.trans (hb15.mono HBW.out.size)⟩
    · have h6i : (6000 : Int) < b.size := by omega
      go_wp2_with fail
      refine (HAL.out _).mono ?_
      rintro e w2 ⟨rfl, hb2⟩
      go_wp2_with fail
      refine bodyPost_ret (results_tmp rfl _ _ _) rfl ?_
      exact ⟨rfl, HB1.out.trans (hb2.mono HB1.out.size)⟩
end Go.Proofs.YtgmbppfkkiobhaaGreat.Wire
