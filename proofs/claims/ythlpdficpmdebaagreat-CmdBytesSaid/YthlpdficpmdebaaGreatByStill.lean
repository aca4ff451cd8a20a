/- complinebook: are the lists as they were (still..), do they bear the marks (marked..). -/
import Derived.Test.YthlpdficpmdebaaGreatByBook
import Derived.Test.YthlpdficpmdebaaGreatJ9
import Derived.Test.YthlpdficpmdebaaGreatByNil
import Derived.Deep.RegionHeld3
namespace Go.Proofs.YthlpdficpmdebaaGreat.Wire
open Go Go.RowKit Go.Lib
theorem sbd {B : Nat} {a w : World} (h : Below B a w) : Below B a w.drew := ⟨h.os, h.tape, h.output, h.size, h.block⟩
theorem sbs {a w w' : World} (h : Below a.heap.size a w) (hb : Below w.heap.size w w') : Below a.heap.size a w' := h.trans (hb.mono h.size)
theorem sbg {a w w' : World} (h : Below a.heap.size a w) (hg : w.grownBy w' none) : Below a.heap.size a w' := below_grown h hg h.size (by simp)
theorem cbel {w w' : World} (hb : Below w.heap.size w w') {p : Addr} {v : Value} (h : w.cell? p = some v) : w'.cell? p = some v := (hb.cell (World.block_lt_of_cell? w _ h)).trans h
theorem IntsAt.bel {w w' : World} {A : Option Addr} {xs : List Int} (h : IntsAt w A xs) (hb : Below w.heap.size w w') : IntsAt w' A xs := fun hne => by
  obtain ⟨ad, e, hc⟩ := h hne
  exact ⟨ad, e, fun j x hx => cbel hb (hc j x hx)⟩
theorem TextsAt.bel {w w' : World} {A : Option Addr} {xs : List ByteArray} (h : TextsAt w A xs) (hb : Below w.heap.size w w') : TextsAt w' A xs := fun hne => by
  obtain ⟨ad, e, hc⟩ := h hne
  exact ⟨ad, e, fun j x hx => cbel hb (hc j x hx)⟩
def SaysTrue (w : World) (en : Ending) (w' : World) : Prop := en = .returned (.bool true) ∧ Below w.heap.size w w'
theorem SlAt.get {w : World} {A : Option Addr} {n c : Nat} {us : List Value} (h : SlAt w A n c us) {q : Nat} (hq : q < n) {u : Value} (hu : us[q]? = some u) : ∃ ad, A = some ad ∧ w.cell? (ad.add q) = some u := by
  rcases h.2 with ⟨_, h0, _⟩ | ⟨ad, hA, hc⟩
  · omega
  · exact ⟨ad, hA, hc q u hu⟩
set_option maxRecDepth 20000 in
set_option maxHeartbeats 4000000 in
theorem stillInts_any (K : Nat) (A1 A2 : Option Addr) (c1 c2 k : Nat) (ls ws : List Value) (w : World) (h1 : w.cell? ⟨K, 2, none⟩ = some (.slice A1 k c1)) (h2 : w.cell? ⟨K, 3, none⟩ = some (.slice A2 k c2)) (hs1 : SlAt w A1 k c1 ls) (hs2 : SlAt w A2 k c2 ws)
    (hq : ∀ q, q < k → ∃ B1 d1 B2 d2 n, ∃ xs : List Int, ls[q]? = some (.slice B1 n d1) ∧ ws[q]? = some (.slice B2 n d2) ∧ IntsAt w B1 xs ∧ IntsAt w B2 xs ∧ xs.length = n ∧ n ≤ 1000000) (hk : k ≤ 200) :
    Calls Tryz.prog 59 #[.pointer (some ⟨K, 0, none⟩)] w (SaysTrue w) := by
  have H1 := Lib.hid h1
  have H2 := Lib.hid h2
  have HS1 := Lib.hid hs1
  have HS2 := Lib.hid hs2
  have HQ := Lib.hid hq
  clear h1 h2 hs1 hs2 hq
  go_enter Tryz.func59, Tryz.ntmps59
  go_wp2_with fail
  go_loopw [3] (fun i wr => ∃ q : Nat, i = .int .i64 q ∧ q ≤ k ∧ Below w.heap.size w wr) (fun i _ => k - (intOf i).toNat)
  case atStart => exact ⟨0, rfl, Nat.zero_le _, Below.refl _ _⟩
  case round =>
    obtain ⟨q, rfl, hqk, hb⟩ := hrel
    have HB := Lib.hid hb
    clear hb
    have b1 := cbel HB.out H1.out
    have b2 := cbel HB.out H2.out
    by_cases hlt : q < k
    · obtain ⟨B1, d1, B2, d2, n, xs, hl1, hl2, ha1, ha2, hxn, hn⟩ := HQ.out q hlt
      obtain ⟨ad1, rfl, hc1⟩ := HS1.out.get hlt hl1
      obtain ⟨ad2, rfl, hc2⟩ := HS2.out.get hlt hl2
      have a1 := cbel HB.out hc1
      have a2 := cbel HB.out hc2
      have HC1 := Lib.hid hc1
      have HC2 := Lib.hid hc2
      have HA1 := Lib.hid ha1
      have HA2 := Lib.hid ha2
      have HXN := Lib.hid hxn
      have HNN := Lib.hid hn
      clear hl1 hl2 ha1 ha2 hxn hc1 hc2 hn
      have hz0 : Below w.heap.size w wr.drew := sbd HB.out
      have hq0 : (0 : Int) ≤ q := by omega
      have hq1 : (q : Int) < k := by omega
      go_wp2_with fail
      go_region_held3 (fun w' => w'.cell? ⟨K, 2, none⟩ = some (.slice (some ad1) k c1) ∧ w'.cell? ⟨K, 3, none⟩ = some (.slice (some ad2) k c2) ∧ w'.cell? (ad1.add q) = some (.slice B1 n d1) ∧ w'.cell? (ad2.add q) = some (.slice B2 n d2))
        (first
          | (have hz9 : Below w.heap.size w _ := (by first | assumption | exact sbd (by assumption))
             exact ⟨cbel hz9 H1.out, cbel hz9 H2.out, cbel hz9 HC1.out, cbel hz9 HC2.out⟩)
          | go_keep)
        ((first
          | (go_at_call 49; with_reducible refine Calls.mono (sameInts_any B1 B2 n d1 d2 xs _ (HA1.out.bel (by first | assumption | exact sbd (by assumption))) (HA2.out.bel (by first | assumption | exact sbd (by assumption))) HXN.out HNN.out) ?_; rintro e w5 ⟨rfl, m5, rfl⟩; have hz5 := below_drewN' (n := m5) (show Below w.heap.size w _ from by first | assumption | exact sbd (by assumption)))))
      all_goals
        have HZ5 := Lib.hid hz5
        clear hz5 hz0
        go_wp2_with fail
        go_roundw
        case rel => exact ⟨q + 1, by go_num, by omega, ⟨HZ5.out.os, HZ5.out.tape, HZ5.out.output, HZ5.out.size, HZ5.out.block⟩⟩
        case measure => simp [intOf]; omega
    · go_wp2_with fail
      first | go_ret2 | refine bodyPost_ret (results_tmp rfl _ _ _) rfl ?_
      exact ⟨rfl, HB.out⟩
set_option maxRecDepth 20000 in
set_option maxHeartbeats 4000000 in
theorem markedInts_any (A : Option Addr) (k c : Nat) (ls : List Value) (w : World) (hs : SlAt w A k c ls) (hq : ∀ q, q < k → ∃ B1 d1 n, ls[q]? = some (.slice B1 n d1) ∧ IntsAt w B1 (mIs q 0 n) ∧ n ≤ 90000) (hk : k ≤ 200) :
    Calls Tryz.prog 110 #[.slice A k c] w (SaysTrue w) := by
  have HS := Lib.hid hs
  have HQ := Lib.hid hq
  clear hs hq
  go_enter Tryz.func110, Tryz.ntmps110
  go_wp2_with fail
  go_loopw [3] (fun i wr => ∃ q : Nat, i = .int .i64 q ∧ q ≤ k ∧ Below w.heap.size w wr) (fun i _ => k - (intOf i).toNat)
  case atStart => exact ⟨0, rfl, Nat.zero_le _, Below.refl _ _⟩
  case round =>
    obtain ⟨q, rfl, hqk, hb⟩ := hrel
    have HB := Lib.hid hb
    clear hb
    by_cases hlt : q < k
    · obtain ⟨B1, d1, n, hl1, ha1, hn⟩ := HQ.out q hlt
      obtain ⟨ad1, rfl, hc1⟩ := HS.out.get hlt hl1
      have a1 := cbel HB.out hc1
      have HC1 := Lib.hid hc1
      have HA1 := Lib.hid ha1
      have HNN := Lib.hid hn
      have HK := Lib.hid hk
      have HLT := Lib.hid hlt
      clear hl1 ha1 hc1
      have hz0 : Below w.heap.size w wr.drew := sbd HB.out
      have hq0 : (0 : Int) ≤ q := by omega
      have hq1 : (q : Int) < k := by omega
      go_wp2_with fail
      go_region_held3 (fun w' => w'.cell? (ad1.add q) = some (.slice B1 n d1))
        (first
          | (have hz9 : Below w.heap.size w _ := (by first | assumption | exact sbd (by assumption))
             exact cbel hz9 HC1.out)
          | go_keep)
        ((first
          | (go_at_call 167; with_reducible refine Calls.mono (markI_any q 0 n _ (by have h1 := HK.out; have h2 := HLT.out; omega) (by have := HNN.out; omega)) ?_; rintro e w5 ⟨v5, rfl, ho5, hg5⟩; obtain ⟨A5, c5, rfl⟩ := own_form ho5; have hi5 := (SlAt.own ho5).ints; have hz5 : Below w.heap.size w w5 := sbg (by assumption) hg5; have hy5 : Below w5.heap.size w5 w5 := Below.refl _ _)
          | (go_at_call 49; with_reducible refine Calls.mono (sameInts_any B1 A5 n d1 c5 (mIs q 0 n) _ (HA1.out.bel (by first | assumption | exact sbd (by assumption))) (hi5.bel (by first | assumption | exact sbd (by assumption))) (by simp [mIs]) (by have := HNN.out; omega)) ?_; rintro e w6 ⟨rfl, m6, rfl⟩; have hz6 := below_drewN' (n := m6) (show Below w.heap.size w _ from by first | assumption | exact sbd (by assumption)))))
      all_goals
        have HZ6 := Lib.hid hz6
        clear hz6 hz5 hy5 hz0 hi5 ho5 hg5
        go_wp2_with fail
        go_roundw
        case rel => exact ⟨q + 1, by go_num, by omega, ⟨HZ6.out.os, HZ6.out.tape, HZ6.out.output, HZ6.out.size, HZ6.out.block⟩⟩
        case measure => simp [intOf]; omega
    · go_wp2_with fail
      first | go_ret2 | refine bodyPost_ret (results_tmp rfl _ _ _) rfl ?_
      exact ⟨rfl, HB.out⟩
set_option maxRecDepth 20000 in
set_option maxHeartbeats 4000000 in
theorem stillTexts_any (K : Nat) (A1 A2 : Option Addr) (c1 c2 k : Nat) (ls ws : List Value) (w : World) (h1 : w.cell? ⟨K, 0, none⟩ = some (.slice A1 k c1)) (h2 : w.cell? ⟨K, 1, none⟩ = some (.slice A2 k c2)) (hs1 : SlAt w A1 k c1 ls) (hs2 : SlAt w A2 k c2 ws)
    (hq : ∀ q, q < k → ∃ B1 d1 B2 d2 n, ∃ xs : List ByteArray, ls[q]? = some (.slice B1 n d1) ∧ ws[q]? = some (.slice B2 n d2) ∧ TextsAt w B1 xs ∧ TextsAt w B2 xs ∧ xs.length = n ∧ n ≤ 1000000) (hk : k ≤ 200) :
    Calls Tryz.prog 58 #[.pointer (some ⟨K, 0, none⟩)] w (SaysTrue w) := by
  have H1 := Lib.hid h1
  have H2 := Lib.hid h2
  have HS1 := Lib.hid hs1
  have HS2 := Lib.hid hs2
  have HQ := Lib.hid hq
  clear h1 h2 hs1 hs2 hq
  go_enter Tryz.func58, Tryz.ntmps58
  go_wp2_with fail
  go_loopw [3] (fun i wr => ∃ q : Nat, i = .int .i64 q ∧ q ≤ k ∧ Below w.heap.size w wr) (fun i _ => k - (intOf i).toNat)
  case atStart => exact ⟨0, rfl, Nat.zero_le _, Below.refl _ _⟩
  case round =>
    obtain ⟨q, rfl, hqk, hb⟩ := hrel
    have HB := Lib.hid hb
    clear hb
    have b1 := cbel HB.out H1.out
    have b2 := cbel HB.out H2.out
    by_cases hlt : q < k
    · obtain ⟨B1, d1, B2, d2, n, xs, hl1, hl2, ha1, ha2, hxn, hn⟩ := HQ.out q hlt
      obtain ⟨ad1, rfl, hc1⟩ := HS1.out.get hlt hl1
      obtain ⟨ad2, rfl, hc2⟩ := HS2.out.get hlt hl2
      have a1 := cbel HB.out hc1
      have a2 := cbel HB.out hc2
      have HC1 := Lib.hid hc1
      have HC2 := Lib.hid hc2
      have HA1 := Lib.hid ha1
      have HA2 := Lib.hid ha2
      have HXN := Lib.hid hxn
      have HNN := Lib.hid hn
      clear hl1 hl2 ha1 ha2 hxn hc1 hc2 hn
      have hz0 : Below w.heap.size w wr.drew := sbd HB.out
      have hq0 : (0 : Int) ≤ q := by omega
      have hq1 : (q : Int) < k := by omega
      go_wp2_with fail
      go_region_held3 (fun w' => w'.cell? ⟨K, 0, none⟩ = some (.slice (some ad1) k c1) ∧ w'.cell? ⟨K, 1, none⟩ = some (.slice (some ad2) k c2) ∧ w'.cell? (ad1.add q) = some (.slice B1 n d1) ∧ w'.cell? (ad2.add q) = some (.slice B2 n d2))
        (first
          | (have hz9 : Below w.heap.size w _ := (by first | assumption | exact sbd (by assumption))
             exact ⟨cbel hz9 H1.out, cbel hz9 H2.out, cbel hz9 HC1.out, cbel hz9 HC2.out⟩)
          | go_keep)
        ((first
          | (go_at_call 50; with_reducible refine Calls.mono (sameTexts_any B1 B2 n d1 d2 xs _ (HA1.out.bel (by first | assumption | exact sbd (by assumption))) (HA2.out.bel (by first | assumption | exact sbd (by assumption))) HXN.out HNN.out) ?_; rintro e w5 ⟨rfl, m5, rfl⟩; have hz5 := below_drewN' (n := m5) (show Below w.heap.size w _ from by first | assumption | exact sbd (by assumption)))))
      all_goals
        have HZ5 := Lib.hid hz5
        clear hz5 hz0
        go_wp2_with fail
        go_roundw
        case rel => exact ⟨q + 1, by go_num, by omega, ⟨HZ5.out.os, HZ5.out.tape, HZ5.out.output, HZ5.out.size, HZ5.out.block⟩⟩
        case measure => simp [intOf]; omega
    · go_wp2_with fail
      first | go_ret2 | refine bodyPost_ret (results_tmp rfl _ _ _) rfl ?_
      exact ⟨rfl, HB.out⟩
set_option maxRecDepth 20000 in
set_option maxHeartbeats 4000000 in
theorem markedTexts_any (A : Option Addr) (k c : Nat) (ls : List Value) (w : World) (hs : SlAt w A k c ls) (hq : ∀ q, q < k → ∃ B1 d1 n, ls[q]? = some (.slice B1 n d1) ∧ TextsAt w B1 (mTs q 0 n) ∧ n ≤ 90000) (hk : k ≤ 200) :
    Calls Tryz.prog 109 #[.slice A k c] w (SaysTrue w) := by
  have HS := Lib.hid hs
  have HQ := Lib.hid hq
  clear hs hq
  go_enter Tryz.func109, Tryz.ntmps109
  go_wp2_with fail
  go_loopw [3] (fun i wr => ∃ q : Nat, i = .int .i64 q ∧ q ≤ k ∧ Below w.heap.size w wr) (fun i _ => k - (intOf i).toNat)
  case atStart => exact ⟨0, rfl, Nat.zero_le _, Below.refl _ _⟩
  case round =>
    obtain ⟨q, rfl, hqk, hb⟩ := hrel
    have HB := Lib.hid hb
    clear hb
    by_cases hlt : q < k
    · obtain ⟨B1, d1, n, hl1, ha1, hn⟩ := HQ.out q hlt
      obtain ⟨ad1, rfl, hc1⟩ := HS.out.get hlt hl1
      have a1 := cbel HB.out hc1
      have HC1 := Lib.hid hc1
      have HA1 := Lib.hid ha1
      have HNN := Lib.hid hn
      have HK := Lib.hid hk
      have HLT := Lib.hid hlt
      clear hl1 ha1 hc1
      have hz0 : Below w.heap.size w wr.drew := sbd HB.out
      have hq0 : (0 : Int) ≤ q := by omega
      have hq1 : (q : Int) < k := by omega
      go_wp2_with fail
      go_region_held3 (fun w' => w'.cell? (ad1.add q) = some (.slice B1 n d1))
        (first
          | (have hz9 : Below w.heap.size w _ := (by first | assumption | exact sbd (by assumption))
             exact cbel hz9 HC1.out)
          | go_keep)
        ((first
          | (go_at_call 166; with_reducible refine Calls.mono (markT_any q 0 n _ (by have h1 := HK.out; have h2 := HLT.out; omega) (by have := HNN.out; omega)) ?_; rintro e w5 ⟨v5, rfl, ho5, hg5⟩; obtain ⟨A5, c5, rfl⟩ := own_form ho5; have hi5 := (SlAt.own ho5).texts; have hz5 : Below w.heap.size w w5 := sbg (by assumption) hg5; have hy5 : Below w5.heap.size w5 w5 := Below.refl _ _)
          | (go_at_call 50; with_reducible refine Calls.mono (sameTexts_any B1 A5 n d1 c5 (mTs q 0 n) _ (HA1.out.bel (by first | assumption | exact sbd (by assumption))) (hi5.bel (by first | assumption | exact sbd (by assumption))) (by simp [mTs]) (by have := HNN.out; omega)) ?_; rintro e w6 ⟨rfl, m6, rfl⟩; have hz6 := below_drewN' (n := m6) (show Below w.heap.size w _ from by first | assumption | exact sbd (by assumption)))))
      all_goals
        have HZ6 := Lib.hid hz6
        clear hz6 hz5 hy5 hz0 hi5 ho5 hg5
        go_wp2_with fail
        go_roundw
        case rel => exact ⟨q + 1, by go_num, by omega, ⟨HZ6.out.os, HZ6.out.tape, HZ6.out.output, HZ6.out.size, HZ6.out.block⟩⟩
        case measure => simp [intOf]; omega
    · go_wp2_with fail
      first | go_ret2 | refine bodyPost_ret (results_tmp rfl _ _ _) rfl ?_
      exact ⟨rfl, HB.out⟩
end Go.Proofs.YthlpdficpmdebaaGreat.Wire
