/- check.Put puts sets. -/
import Derived.Test.YtgmbppfkkiobhaaGreatChkPutP
namespace Go.Proofs.YtgmbppfkkiobhaaGreat.Wire
open Go Go.RowKit Go.Lib
theorem set_at {w0 wr : World} (hb : Below w0.heap.size w0 wr) {A : Option Addr} {xs : List SetD} (h : SetsAt w0 A xs) {j : Nat} {x : SetD} (hj : xs[j]? = some x) : ∃ ad L n c T m d, A = some ad ∧ wr.cell? (ad.add (j * 2)) = some (.slice L n c) ∧ wr.cell? ⟨(ad.add (j * 2)).block, (ad.add (j * 2)).off + 1, none⟩ = some (.slice T m d) ∧ n = x.legs.length ∧ LegsAt w0 L x.legs ∧ m = x.takes.length ∧ TakesAt w0 T x.takes := by
  obtain ⟨ad, hA, hc⟩ := h (by intro e; rw [e] at hj; simp at hj)
  obtain ⟨L, n, c, T, m, d, h0, h1, h2, h3, h4, h5⟩ := hc j x hj
  refine ⟨ad, L, n, c, T, m, d, hA, cell_below hb h0, ?_, h2, h3, h4, h5⟩
  rw [← fld1, add_add]; exact cell_below hb h1
theorem leg_at' {w0 wr : World} (hb : Below w0.heap.size w0 wr) {L : Option Addr} {xs : List LegD} (h : LegsAt w0 L xs) {j : Nat} {y : LegD} (hj : xs[j]? = some y) : ∃ ad, L = some ad ∧ wr.cell? (ad.add (j * 2)) = some (.int .i64 y.id) ∧ wr.cell? ⟨(ad.add (j * 2)).block, (ad.add (j * 2)).off + 1, none⟩ = some (.int .i64 y.qty) := by
  obtain ⟨ad, hA, h0, h1⟩ := leg_at hb h hj
  exact ⟨ad, hA, h0, by rw [← fld1, add_add]; exact h1⟩
theorem pl_at' {w0 wr : World} (hb : Below w0.heap.size w0 wr) {L : Option Addr} {xs : List PlD} (h : PlsAt w0 L xs) {j : Nat} {y : PlD} (hj : xs[j]? = some y) : ∃ ad, L = some ad ∧ wr.cell? (ad.add (j * 2)) = some (str8 y.asset) ∧ wr.cell? ⟨(ad.add (j * 2)).block, (ad.add (j * 2)).off + 1, none⟩ = some (.int .i64 y.qty) := by
  obtain ⟨ad, hA, h0, h1⟩ := pl_at hb h hj
  exact ⟨ad, hA, h0, by rw [← fld1, add_add]; exact h1⟩
theorem SetIn.ok {x : SetD} (h : SetIn x) : SetOk x := ⟨h.2.2.1, fun t ht => ⟨(h.2.2.2 t ht).1, fun y hy => ((h.2.2.2 t ht).2.2.2.2 y hy).1⟩⟩
theorem sets_len (xs : List SetD) (hin : ∀ x ∈ xs, SetIn x) (s : WS) : (wSets s xs).l.length ≤ s.l.length + 50000000 * xs.length :=
  fold_len (f := wSet) xs s (fun x hx s => wSet_len (hin x hx).ok (hin x hx).1 (hin x hx).2.1 (fun t ht => ((hin x hx).2.2.2 t ht).2.2.2.1) s)
structure PwAt (B p : Nat) (w : World) (s : WS) (wr : World) : Prop where
  W : WrS B p s wr
  b : Below B w wr
  k : Keeps p w wr
theorem PwAt.box {B p : Nat} {w : World} {s : WS} {wr : World} (h : PwAt B p w s wr) (cs : Array Value) (t : TypeId) : PuAt B p wr.heap.size cs t w s (wr.alloc (.cells cs t (0, 0))) :=
  ⟨h.W.alloc _, h.b.trans ((Below.refl _ wr).alloc (by have := h.W.le; omega) _), h.k.trans (Keeps.alloc p wr _), heap_alloc_new wr _⟩
theorem PuAt.pw {B p q : Nat} {cs : Array Value} {t : TypeId} {w : World} {s : WS} {wr : World} (h : PuAt B p q cs t w s wr) : PwAt B p w s wr := ⟨h.W, h.b, h.k⟩
theorem sz1 (w : World) (o : Obj) : w.heap.size + 1 = (w.alloc o).heap.size := by simp
set_option maxRecDepth 20000 in
set_option maxHeartbeats 2000000 in
theorem putP_any (B p : Nat) (w0 : World) (s0 : WS) (A : Option Addr) (n c : Nat) (xs : List SetD) (w : World) (hB : w0.heap.size ≤ B) (hb0 : Below w0.heap.size w0 w) (h : WrS B p s0 w) (hx : SetsAt w0 A xs) (hn : xs.length = n)
    (hin : ∀ x ∈ xs, SetIn x) (hn40 : n ≤ 40) (hl : s0.l.length ≤ 10000000000) :
    Calls Tryz.prog 8 #[.pointer (some ⟨p, 0, none⟩), .slice A n c] w fun en w' => (∃ u, en = .returned u) ∧ WrS B p (wSets s0 xs) w' ∧ Below B w w' ∧ Keeps p w w' := by
  have HX := Lib.hid hx
  have HIN := Lib.hid hin
  have HLL := Lib.hid hl
  have HB0 := Lib.hid hb0
  have HBB := Lib.hid hB
  have HN := Lib.hid hn
  have HP := Lib.hid h.le
  have HA0 : Hid (PwAt B p w s0 w) := Lib.hid ⟨h, Below.refl _ _, Keeps.refl _ _⟩
  clear hx hin hl hb0 hB hn h
  go_enter Tryz.func8, Tryz.ntmps8
  go_wp2_with fail
  go_loopw [14] (fun i wr => ∃ j : Nat, i = .int .i64 j ∧ j ≤ n ∧ PwAt B p w (wSets s0 (xs.take j)) wr) (fun i _ => n - (intOf i).toNat)
  case atStart => exact ⟨0, rfl, Nat.zero_le _, HA0.out⟩
  case round =>
    obtain ⟨j0, rfl, hj0, hA⟩ := hrel
    have HA := Lib.hid hA
    clear hA
    obtain ⟨W0, rfl⟩ : ∃ W : World, W = wr := ⟨wr, rfl⟩
    by_cases hlt0 : j0 < n
    · have hjl : j0 < xs.length := by have := HN.out; omega
      have hjy : xs[j0]? = some xs[j0] := List.getElem?_eq_getElem hjl
      have HXI := Lib.hid (HIN.out _ (List.getElem_mem hjl))
      have HLEN0 := Lib.hid (sets_len (xs.take j0) (fun x hx => HIN.out x (List.mem_of_mem_take hx)) s0)
      obtain ⟨ad, L, n1, c1, T, m, d, rfl, k0, k1, e1, hL, e2, hT⟩ := set_at (HB0.out.trans (HA.out.b.mono HBB.out)) HX.out hjy
      have HJX := Lib.hid hjy
      generalize xs[j0] = x at HJX HXI e1 hL e2 hT
      have HN1 := Lib.hid e1
      have HM := Lib.hid e2
      have HL := Lib.hid hL
      have HT := Lib.hid hT
      have hnn : n1 ≤ 1000000 := by have := HXI.out.1; omega
      have hmm : m ≤ 1000000 := by have := HXI.out.2.1; omega
      obtain ⟨st, hst⟩ : ∃ st, wSets s0 (xs.take j0) = st := ⟨_, rfl⟩
      rw [hst] at HA HLEN0
      have HST := Lib.hid hst
      have HLS : Hid (st.l.length ≤ 12000000000) := Lib.hid (by have h1 := HLEN0.out; have h2 := HLL.out; rw [List.length_take] at h1; omega)
      clear hjy hjl e1 hL e2 hT hst HLEN0
      have HNN := Lib.hid hnn
      have HMM := Lib.hid hmm
      have HU := Lib.hid (HA.out.box #[.slice L n1 c1, .slice T m d] 39)
      have HQ : Hid (W0.heap.size ≠ p) := Lib.hid (by have := HA.out.W.le; omega)
      go_wp2_with fail
      rw [sz1 W0 (.cells #[.slice L n1 c1, .slice T m d] 39 (0, 0))]
      refine (num1 HU.out (by decide) HQ.out (n1 : Int) (nat_ok HNN.out) (by have := HLS.out; omega)).mono ?_
      rintro e w1 ⟨⟨u, rfl⟩, hU1⟩
      have HU1 := Lib.hid hU1
      clear hU1 k0 k1 HU
      obtain ⟨q, hq⟩ : ∃ q, W0.heap.size = q := ⟨_, rfl⟩
      rw [hq] at HU1 HQ
      rw [hq]
      have b0 : w1.cell? ⟨q, 0, none⟩ = some (.slice L n1 c1) := by rw [cell_p HU1.out.o]; rfl
      go_wp2_with fail
      go_loopw [27] (fun i wl => ∃ j : Nat, i = .int .i64 j ∧ j ≤ n1 ∧ PuAt B p q #[.slice L n1 c1, .slice T m d] 39 w ((x.legs.take j).foldl wLeg (wNum n1 st)) wl) (fun i _ => n1 - (intOf i).toNat)
      case atStart => exact ⟨0, rfl, Nat.zero_le _, HU1.out⟩
      case round =>
        obtain ⟨j, rfl, hj, hU⟩ := hrel
        have HU := Lib.hid hU
        clear hU b0
        obtain ⟨W1, rfl⟩ : ∃ W : World, W = wr := ⟨wr, rfl⟩
        by_cases hlt : j < n1
        · have hjl : j < x.legs.length := by have := HN1.out; omega
          have hjy : x.legs[j]? = some x.legs[j] := List.getElem?_eq_getElem hjl
          have HY := Lib.hid (HXI.out.2.2.1 _ (List.getElem_mem hjl))
          have HLEN := Lib.hid (legs_len HXI.out st j)
          rw [← HN1.out] at HLEN
          obtain ⟨ad1, rfl, l0, l1⟩ := leg_at' (HB0.out.trans (HU.out.b.mono HBB.out)) HL.out hjy
          have HJY := Lib.hid hjy
          generalize x.legs[j] = y at HJY HY l0 l1
          clear hjy hjl
          obtain ⟨s1, hs1⟩ : ∃ s1, (x.legs.take j).foldl wLeg (wNum n1 st) = s1 := ⟨_, rfl⟩
          rw [hs1] at HU HLEN
          have HS1 := Lib.hid hs1
          clear hs1
          have HUB := Lib.hid (HU.out.alloc (.cells #[.int .i64 y.id, .int .i64 y.qty] 99 (0, 0)) (by decide) HQ.out)
          go_wp2_with fail
          rw [sz1 W1 (.cells #[.int .i64 y.id, .int .i64 y.qty] 99 (0, 0))]
          refine (num2 HUB.out (by decide) HQ.out y.id y.qty HY.out.1 HY.out.2 (by have h1 := HLEN.out; have h2 := HLS.out; omega)).mono ?_
          rintro e w2 ⟨⟨u2, rfl⟩, hU2⟩
          have HU2 := Lib.hid hU2
          clear hU2 l0 l1
          go_wp2_with fail
          go_roundw
          case rel =>
            refine ⟨j + 1, by go_num, by omega, ?_⟩
            rw [fold_succ wLeg _ _ _ _ HJY.out, HS1.out]
            exact HU2.out
          case measure => simp [intOf]; omega
        · have HUN : Hid (PuAt B p q #[.slice L n1 c1, .slice T m d] 39 w (x.legs.foldl wLeg (wNum n1 st)) W1) := Lib.hid (by
            have h := HU.out
            rw [List.take_of_length_le (by have := HN1.out; omega)] at h
            exact h)
          clear hj
          obtain ⟨s1, hs1⟩ : ∃ s1, x.legs.foldl wLeg (wNum n1 st) = s1 := ⟨_, rfl⟩
          rw [hs1] at HUN
          have HS1 := Lib.hid hs1
          have HLEN1 : Hid (s1.l.length ≤ st.l.length + 5000) := Lib.hid (by
            have h := legs_len HXI.out st x.legs.length
            rw [List.take_length, ← HN1.out, hs1] at h
            exact h)
          clear hs1
          have b1 : W1.cell? ⟨q, 1, none⟩ = some (.slice T m d) := by rw [cell_p HUN.out.o]; rfl
          go_wp2_with fail
          refine (num1 HUN.out (by decide) HQ.out (m : Int) (nat_ok HMM.out) (by have h1 := HLEN1.out; have h2 := HLS.out; omega)).mono ?_
          rintro e w2 ⟨⟨u2, rfl⟩, hU2⟩
          have HU2 := Lib.hid hU2
          clear hU2 b1
          have b1 : w2.cell? ⟨q, 1, none⟩ = some (.slice T m d) := by rw [cell_p HU2.out.o]; rfl
          go_wp2_with fail
          go_loopw [48] (fun i wl => ∃ j : Nat, i = .int .i64 j ∧ j ≤ m ∧ PwAt B p w ((x.takes.take j).foldl wTake (wNum m s1)) wl) (fun i _ => m - (intOf i).toNat)
          case atStart => exact ⟨0, rfl, Nat.zero_le _, HU2.out.pw⟩
          case round =>
            obtain ⟨j2, rfl, hj2, hB2⟩ := hrel
            have HB2 := Lib.hid hB2
            clear hB2 b1
            obtain ⟨W2, rfl⟩ : ∃ W : World, W = wr := ⟨wr, rfl⟩
            by_cases hlt2 : j2 < m
            · have hjl : j2 < x.takes.length := by have := HM.out; omega
              have hjy : x.takes[j2]? = some x.takes[j2] := List.getElem?_eq_getElem hjl
              have HY := Lib.hid (HXI.out.2.2.2 _ (List.getElem_mem hjl))
              have HLEN := Lib.hid (takes_len HXI.out st j2)
              rw [← HN1.out, ← HM.out, HS1.out] at HLEN
              obtain ⟨ad2, Q, k, c', rfl, hk, hpl, k0, k1, k2, k3⟩ := take_at (HB0.out.trans (HB2.out.b.mono HBB.out)) HT.out hjy
              have HJY := Lib.hid hjy
              generalize x.takes[j2] = y at HJY HY hk hpl k0 k1 k2 k3
              have HK := Lib.hid hk
              have HPL := Lib.hid hpl
              obtain ⟨xa, ea, eba⟩ := str8_ex y.acc
              obtain ⟨xc, ec, ebc⟩ := str8_ex y.ccy
              rw [ea] at k0
              rw [ec] at k1
              have HEA := Lib.hid eba
              have HEC := Lib.hid ebc
              have HXA : Hid (xa.size ≤ maxLen) := Lib.hid (by have h1 := HY.out.2.1; rw [← eba] at h1; have h2 := sz xa; unfold bl8 at h1; omega)
              have HXC : Hid (xc.size ≤ maxLen) := Lib.hid (by have h1 := HY.out.2.2.1; rw [← ebc] at h1; have h2 := sz xc; unfold bl8 at h1; omega)
              have hk200 : k ≤ 1000000 := by have h2 := HY.out.2.2.2.1; omega
              have HK2 := Lib.hid hk200
              clear hjy hjl hk hpl ea ec eba ebc
              obtain ⟨s2, hs2⟩ : ∃ s2, (x.takes.take j2).foldl wTake (wNum m s1) = s2 := ⟨_, rfl⟩
              rw [hs2] at HB2 HLEN
              have HS2 := Lib.hid hs2
              clear hs2
              have HT0 := Lib.hid (HB2.out.box #[.string xa, .string xc, .int .i64 y.amount, .slice Q k c'] 58)
              have HQ2 : Hid (W2.heap.size ≠ p) := Lib.hid (by have := HB2.out.W.le; omega)
              go_wp2_with fail
              rw [sz1 W2 (.cells #[.string xa, .string xc, .int .i64 y.amount, .slice Q k c'] 58 (0, 0))]
              refine (text2 HT0.out (by decide) HQ2.out xa xc HXA.out HXC.out (by have h1 := HLEN.out; have h2 := HLS.out; omega)).mono ?_
              rintro e w3 ⟨⟨u3, rfl⟩, hT1⟩
              have HT1 := Lib.hid hT1
              clear hT1 HT0 k0 k1 k2 k3
              obtain ⟨q2, hq2⟩ : ∃ q2, W2.heap.size = q2 := ⟨_, rfl⟩
              rw [hq2] at HT1 HQ2
              rw [hq2]
              have f2 : w3.cell? ⟨q2, 2, none⟩ = some (.int .i64 y.amount) := by rw [cell_p HT1.out.o]; rfl
              have f3 : w3.cell? ⟨q2, 3, none⟩ = some (.slice Q k c') := by rw [cell_p HT1.out.o]; rfl
              go_wp2_with fail
              refine (num2 HT1.out (by decide) HQ2.out y.amount (k : Int) HY.out.1 (nat_ok HK2.out) (by have h1 := HLEN.out; have h2 := HLS.out; have h3 := wText_len (bl8 xa) s2; have h4 := wText_len (bl8 xc) (wText (bl8 xa) s2); omega)).mono ?_
              rintro e w4 ⟨⟨u4, rfl⟩, hT2⟩
              have hs4 : wNum (k : Int) (wNum y.amount (wText (bl8 xc) (wText (bl8 xa) s2))) = wTake0 y s2 := by rw [HEA.out, HEC.out, wTake0, HK.out]
              rw [hs4] at hT2
              have HT2 := Lib.hid hT2
              clear hT2 f2 f3 hs4
              have f3 : w4.cell? ⟨q2, 3, none⟩ = some (.slice Q k c') := by rw [cell_p HT2.out.o]; rfl
              go_wp2_with fail
              go_loopw [70] (fun i wl => ∃ j : Nat, i = .int .i64 j ∧ j ≤ k ∧ PwAt B p w ((y.pl.take j).foldl wPl (wTake0 y s2)) wl) (fun i _ => k - (intOf i).toNat)
              case atStart => exact ⟨0, rfl, Nat.zero_le _, HT2.out.pw⟩
              case round =>
                obtain ⟨j3, rfl, hj3, hC⟩ := hrel
                have HC := Lib.hid hC
                clear hC f3
                obtain ⟨W3, rfl⟩ : ∃ W : World, W = wr := ⟨wr, rfl⟩
                by_cases hlt3 : j3 < k
                · have hjl : j3 < y.pl.length := by have := HK.out; omega
                  have hjy : y.pl[j3]? = some y.pl[j3] := List.getElem?_eq_getElem hjl
                  have HZ := Lib.hid (HY.out.2.2.2.2 _ (List.getElem_mem hjl))
                  have HLEN3 := Lib.hid (pls_len HY.out s2 j3)
                  obtain ⟨ad3, rfl, g0, g1⟩ := pl_at' (HB0.out.trans (HC.out.b.mono HBB.out)) HPL.out hjy
                  have HJZ := Lib.hid hjy
                  generalize y.pl[j3] = z at HJZ HZ g0 g1
                  obtain ⟨xz, ez, ebz⟩ := str8_ex z.asset
                  rw [ez] at g0
                  have HEZ := Lib.hid ebz
                  have HXZ : Hid (xz.size ≤ maxLen) := Lib.hid (by have h1 := HZ.out.2; rw [← ebz] at h1; have h2 := sz xz; unfold bl8 at h1; omega)
                  clear hjy hjl ez ebz
                  obtain ⟨s5, hs5⟩ : ∃ s5, (y.pl.take j3).foldl wPl (wTake0 y s2) = s5 := ⟨_, rfl⟩
                  rw [hs5] at HC HLEN3
                  have HS5 := Lib.hid hs5
                  clear hs5
                  have HC0 := Lib.hid (HC.out.box #[.string xz, .int .i64 z.qty] 112)
                  have HQ3 : Hid (W3.heap.size ≠ p) := Lib.hid (by have := HC.out.W.le; omega)
                  go_wp2_with fail
                  rw [sz1 W3 (.cells #[.string xz, .int .i64 z.qty] 112 (0, 0))]
                  refine (text1 HC0.out (by decide) HQ3.out xz HXZ.out (by have h1 := HLEN.out; have h2 := HLS.out; have h3 := HLEN3.out; omega)).mono ?_
                  rintro e w7 ⟨⟨u7, rfl⟩, hC1⟩
                  have HC1 := Lib.hid hC1
                  clear hC1 HC0 g0 g1
                  obtain ⟨q3, hq3⟩ : ∃ q3, W3.heap.size = q3 := ⟨_, rfl⟩
                  rw [hq3] at HC1 HQ3
                  rw [hq3]
                  have g1 : w7.cell? ⟨q3, 1, none⟩ = some (.int .i64 z.qty) := by rw [cell_p HC1.out.o]; rfl
                  go_wp2_with fail
                  refine (num1 HC1.out (by decide) HQ3.out z.qty HZ.out.1 (by have h1 := HLEN.out; have h2 := HLS.out; have h3 := HLEN3.out; have h4 := wText_len (bl8 xz) s5; omega)).mono ?_
                  rintro e w8 ⟨⟨u8, rfl⟩, hC2⟩
                  have HC2 := Lib.hid hC2.pw
                  clear hC2 g1
                  go_wp2_with fail
                  go_roundw
                  case rel =>
                    refine ⟨j3 + 1, by go_num, by omega, ?_⟩
                    rw [fold_succ wPl _ _ _ _ HJZ.out, HS5.out]
                    have h := HC2.out
                    rw [HEZ.out] at h
                    exact h
                  case measure => simp [intOf]; omega
                · have HEND := HC.out
                  rw [List.take_of_length_le (by have := HK.out; omega)] at HEND
                  have HEND := Lib.hid HEND
                  go_wp2_with fail
                  go_roundw
                  case rel =>
                    refine ⟨j2 + 1, by go_num, by omega, ?_⟩
                    rw [fold_succ wTake _ _ _ _ HJY.out, HS2.out]
                    exact HEND.out
                  case measure => simp [intOf]; omega
            · have HEND : Hid (PwAt B p w (wSet st x) W2) := Lib.hid (by
                have h := HB2.out
                rw [List.take_of_length_le (by have := HM.out; omega)] at h
                have e : wSet st x = x.takes.foldl wTake (wNum m s1) := by rw [wSet, ← HN1.out, ← HM.out, HS1.out]
                rw [e]
                exact h)
              go_wp2_with fail
              go_roundw
              case rel =>
                refine ⟨j0 + 1, by go_num, by omega, ?_⟩
                have e : wSets s0 (xs.take (j0 + 1)) = wSet st x := by unfold wSets; rw [fold_succ wSet _ _ _ _ HJX.out]; rw [← HST.out]; rfl
                rw [e]
                exact HEND.out
              case measure => simp [intOf]; omega
    · have h3 := HA.out
      rw [List.take_of_length_le (by have := HN.out; omega)] at h3
      have H3 := Lib.hid h3
      clear h3
      go_wp2_with fail
      go_end0
      exact ⟨⟨_, rfl⟩, H3.out.W, H3.out.b, H3.out.k⟩
end Go.Proofs.YtgmbppfkkiobhaaGreat.Wire
