/- complinebook.(*Book).putInts, putTexts: every list that is kept is marked. -/
import Derived.Test.YthlpdficpmdebaaGreatByStill
namespace Go.Proofs.YthlpdficpmdebaaGreat.Wire
open Go Go.RowKit Go.Lib
theorem Mem.cell {B : Nat} {l r : List Row} {w : World} (h : Mem B l r w) {i : Nat} {t : TypeId} {A : Option Addr} {n c : Nat} {us : List Value} (hi : l[i]? = some ⟨t, .slice A n c, n, us⟩) : SlAt w A n c us := SlAt.own (h.own i _ hi)
/-- The rows, one list marked. -/
structure MStep (l l' : List Row) (p : Nat) (t : TypeId) (g n c : Nat) (us us' : List Value) : Prop where
  at_ : l[p]? = some ⟨t, .slice (some ⟨g, 0, none⟩) n c, n, us⟩
  to_ : l' = l.set p ⟨t, .slice (some ⟨g, 0, none⟩) n c, n, us'⟩
theorem set_mid {us vs : List Value} {j n : Nat} {u : Value} (hu : us.length = n) (hv : vs.length = n) (hj : j < n) (h : vs[j]? = some u) : (vs.take j ++ us.drop j).set j u = vs.take (j + 1) ++ us.drop (j + 1) := by
  have h1 : (vs.take j).length = j := by rw [List.length_take]; omega
  have h2 : us.drop j = us[j] :: us.drop (j + 1) := List.drop_eq_getElem_cons (by omega)
  rw [List.set_append_right _ _ (by omega), h1, Nat.sub_self, h2, List.set_cons_zero, List.take_add_one, h]
  simp
theorem set_same {l : List Row} {p : Nat} {a : Row} (h : l[p]? = some a) : l.set p a = l := by
  apply List.ext_getElem?
  intro i
  rw [List.getElem?_set]
  split
  · rename_i e
    subst e
    rw [if_pos (List.getElem?_eq_some_iff.1 h).1, h]
  · rfl
theorem get_set_self {l : List Row} {p : Nat} {a : Row} (h : l[p]? = some a) (b : Row) : (l.set p b)[p]? = some b := by
  rw [List.getElem?_set_self (List.getElem?_eq_some_iff.1 h).1]
theorem ne_of_type {l : List Row} {p i : Nat} {a b : Row} (h : l[p]? = some a) (h2 : l[i]? = some b) (hne : a.t ≠ b.t) : p ≠ i := fun e => by
  subst e
  rw [h] at h2
  cases h2
  exact hne rfl
theorem slice_cell {w : World} {ad : Addr} {n c : Nat} {us : List Value} (h : SlAt w (some ad) n c us) {q : Nat} (hq : q < n) {u : Value} (hu : us[q]? = some u) : w.cell? (ad.add q) = some u := by
  obtain ⟨ad', e, hc⟩ := h.get hq hu
  injection e with e
  subst e
  exact hc
theorem frozen_own {w : World} {B g n c : Nat} {e : TypeId} {us : List Value} (h : w.ownsRow B e 1 (.slice (some ⟨g, 0, none⟩) n c) n us) (k : Nat) : w.frozen? ⟨g, k, none⟩ = false := by
  rcases h.2 with ⟨he, _⟩ | ⟨g2, cap2, cur2, he, _, hg2, _⟩
  · cases he
  · injection he with ha _ _
    injection ha with ha
    injection ha with ha
    subst ha
    exact frozen_p hg2
theorem own_cell {w : World} {B g n c : Nat} {e : TypeId} {us : List Value} (h : w.ownsRow B e 1 (.slice (some ⟨g, 0, none⟩) n c) n us) {j : Nat} {u : Value} (hj : us[j]? = some u) : w.cell? ⟨g, j, none⟩ = some u := by
  have h1 := h.cells (g := g) rfl j u hj
  have e : (⟨g, 0, none⟩ : Addr).add j = ⟨g, j, none⟩ := by unfold Addr.add; split <;> simp_all
  rwa [e] at h1
/-- Where putInts stands: q lists are marked. L tells the rows behind each round. -/
structure PutIntsAt (B K : Nat) (cs : Array Value) (l r : List Row) (w wr : World) : Prop where
  m : Mem B l r wr
  k : BkAt K cs wr
  b : Below B w wr
set_option maxRecDepth 20000 in
set_option maxHeartbeats 4000000 in
theorem putInts_any (B K : Nat) (cs : Array Value) (L : Nat → List Row) (r : List Row) (i k c : Nat) (A : Option Addr) (ls : List Value) (w : World) (hM : Mem B (L 0) r w) (hK : BkAt K cs w) (hB : B ≤ w.heap.size) (hc : cs[2]? = some (.slice A k c))
    (hI : ∀ q, q ≤ k → (L q)[i]? = some ⟨22, .slice A k c, k, ls⟩) (hN : ∀ q, q ≤ k → NoBk (L q) r)
    (hL : ∀ q, q < k → (ls[q]? = some (.slice none 0 0) ∧ L (q + 1) = L q) ∨ ∃ p g n d us, ls[q]? = some (.slice (some ⟨g, 0, none⟩) n d) ∧ n ≤ 90000 ∧ MStep (L q) (L (q + 1)) p 3 g n d us (ints (mIs q 0 n))) (hk : k ≤ 200) :
    Calls Tryz.prog 80 #[.pointer (some ⟨K, 0, none⟩)] w fun en w' => (∃ u, en = .returned u) ∧ PutIntsAt B K cs (L k) r w w' := by
  have HC := Lib.hid hc
  have HI := Lib.hid hI
  have HN := Lib.hid hN
  have HL := Lib.hid hL
  have HB := Lib.hid hB
  have HP0 : Hid (PutIntsAt B K cs (L 0) r w w) := Lib.hid ⟨hM, hK, Below.refl _ _⟩
  clear hM hK hB hc hI hN hL
  go_enter Tryz.func80, Tryz.ntmps80
  go_wp2_with fail
  go_loopw [2] (fun i wr => ∃ q : Nat, i = .int .i64 q ∧ q ≤ k ∧ PutIntsAt B K cs (L q) r w wr) (fun i _ => k - (intOf i).toNat)
  case atStart => exact ⟨0, rfl, Nat.zero_le _, HP0.out⟩
  case round =>
    obtain ⟨q, rfl, hqk, hp⟩ := hrel
    have HP := Lib.hid hp
    have b1 : wr.cell? ⟨K, 2, none⟩ = some (.slice A k c) := by rw [cell_p hp.k]; exact HC.out
    clear hp
    obtain ⟨W1, rfl⟩ : ∃ W : World, W = wr := ⟨wr, rfl⟩
    by_cases hlt : q < k
    · have hsl := HP.out.m.cell (HI.out q (Nat.le_of_lt hlt))
      have hq0 : (0 : Int) ≤ q := by omega
      have hq1 : (q : Int) < k := by omega
      rcases HL.out q hlt with ⟨hl, hnext⟩ | ⟨p, g, n, d, us, hl, hn, hst⟩
      · obtain ⟨ad, rfl, hcl⟩ := hsl.get hlt hl
        have HNX := Lib.hid hnext
        clear hsl hl hnext
        go_wp2_with fail
        refine (markI_any q 0 0 _ (by omega) (by omega)).mono ?_
        rintro e w2 ⟨v2, rfl, ho2, hg2⟩
        have hv2 : v2 = .slice none 0 0 ∨ ∃ A2 c2, v2 = .slice A2 0 c2 := by
          obtain ⟨A2, c2, h⟩ := own_form ho2
          exact .inr ⟨A2, c2, h⟩
        obtain ⟨A2, c2, rfl⟩ : ∃ A2 c2, v2 = .slice A2 0 c2 := own_form ho2
        have HP2 : Hid (PutIntsAt B K cs (L (q + 1)) r w w2) := Lib.hid (by rw [HNX.out]; exact ⟨HP.out.m.old hg2, HP.out.k.old hg2, below_grown HP.out.b hg2 (Nat.le_trans HB.out HP.out.b.size) (by simp)⟩)
        clear ho2 hg2 hv2 hcl b1
        go_wp2_with fail
        go_loopw [4] (fun i wr => i = .int .i64 0 ∧ PutIntsAt B K cs (L (q + 1)) r w wr) (fun _ _ => 0)
        case atStart => exact ⟨rfl, HP2.out⟩
        case round =>
          obtain ⟨rfl, hp3⟩ := hrel
          have HP3 := Lib.hid hp3
          clear hp3
          go_wp2_with fail
          go_roundw
          case rel => exact ⟨q + 1, by go_num, by omega, HP3.out⟩
          case measure => simp [intOf]; omega
      · obtain ⟨ad, rfl, hcl⟩ := hsl.get hlt hl
        have HCL := Lib.hid hcl
        have HST := Lib.hid hst
        have HLS := Lib.hid hl
        have HM0 := Lib.hid HP.out.m
        have HNN := Lib.hid hn
        have hnI : (n : Int) ≤ 90000 := by omega
        clear hsl hl hst
        go_wp2_with fail
        refine (markI_any q 0 n _ (by omega) (by omega)).mono ?_
        rintro e w2 ⟨v2, rfl, ho2, hg2⟩
        obtain ⟨A2, c2, rfl⟩ := own_form ho2
        have HQ : Hid (PutIntsAt B K cs (L q) r w w2 ∧ w2.ownsRow W1.heap.size 3 1 (.slice A2 n c2) n (ints (mIs q 0 n))) := Lib.hid ⟨⟨HP.out.m.old hg2, HP.out.k.old hg2, below_grown HP.out.b hg2 (Nat.le_trans HB.out HP.out.b.size) (by simp)⟩, ho2⟩
        have HBW : Hid (B ≤ W1.heap.size) := Lib.hid (Nat.le_trans HB.out HP.out.b.size)
        clear ho2 hcl b1
        go_wp2_with fail
        go_loopw [4] (fun i wr => ∃ j : Nat, i = .int .i64 j ∧ j ≤ n ∧ PutIntsAt B K cs ((L q).set p ⟨3, .slice (some ⟨g, 0, none⟩) n d, n, (ints (mIs q 0 n)).take j ++ us.drop j⟩) r w wr ∧ wr.ownsRow W1.heap.size 3 1 (.slice A2 n c2) n (ints (mIs q 0 n))) (fun i _ => n - (intOf i).toNat)
        case atStart =>
          refine ⟨0, rfl, Nat.zero_le _, ?_, HQ.out.2⟩
          have h0 : (L q).set p ⟨3, .slice (some ⟨g, 0, none⟩) n d, n, (ints (mIs q 0 n)).take 0 ++ us.drop 0⟩ = L q := by
            rw [List.take_zero, List.drop_zero, List.nil_append]
            exact set_same HST.out.at_
          rw [h0]
          exact HQ.out.1
        case round =>
          obtain ⟨j, rfl, hj, hp3, ho3⟩ := hrel
          have HP3 := Lib.hid hp3
          have HO3 := Lib.hid ho3
          clear hp3 ho3
          obtain ⟨W3, rfl⟩ : ∃ W : World, W = wr := ⟨wr, rfl⟩
          have b1 : W3.cell? ⟨K, 2, none⟩ = some (.slice (some ad) k c) := by rw [cell_p HP3.out.k]; exact HC.out
          by_cases hjn : j < n
          · have HW := Lib.hid (get_set_self HST.out.at_ ⟨3, .slice (some ⟨g, 0, none⟩) n d, n, (ints (mIs q 0 n)).take j ++ us.drop j⟩)
            have HIQ : Hid (((L q).set p ⟨3, .slice (some ⟨g, 0, none⟩) n d, n, (ints (mIs q 0 n)).take j ++ us.drop j⟩)[i]? = some ⟨22, .slice (some ad) k c, k, ls⟩) := Lib.hid (get_set_ne (HI.out q (Nat.le_of_lt hlt)) (ne_of_type HST.out.at_ (HI.out q (Nat.le_of_lt hlt)) (show (3 : Nat) ≠ 22 by decide)))
            have a1 : W3.cell? (ad.add q) = some (.slice (some ⟨g, 0, none⟩) n d) := slice_cell (HP3.out.m.cell HIQ.out) hlt HLS.out
            obtain ⟨ad2, hA2, hm2⟩ := (SlAt.own HO3.out).get hjn (show (ints (mIs q 0 n))[j]? = some (.int .i64 (-1000000 * (q : Int) - (j : Int) - 7)) by simp [ints, mIs_get q 0 n j hjn])
            subst hA2
            have how := HP3.out.m.own p _ HW.out
            have hus : us.length = n := by have := (HM0.out.own p _ HST.out.at_).1; simpa using this
            have f1 : W3.frozen? ⟨g, j, none⟩ = false := frozen_own how j
            obtain ⟨u0, hu0⟩ : ∃ u0, ((ints (mIs q 0 n)).take j ++ us.drop j)[j]? = some u0 := by
              refine ⟨_, List.getElem?_eq_getElem ?_⟩
              simp [ints, mIs_len]; omega
            have c1 : W3.cell? ⟨g, j, none⟩ = some u0 := own_cell how hu0
            have d1 : W3.drew.cell? ⟨K, 2, none⟩ = some (.slice (some ad) k c) := by simpa using b1
            have d2 : W3.drew.cell? (ad.add q) = some (.slice (some ⟨g, 0, none⟩) n d) := by simpa using a1
            have d3 : W3.drew.cell? (ad2.add j) = some (.int .i64 (-1000000 * (q : Int) - (j : Int) - 7)) := by simpa using hm2
            have d4 : W3.drew.frozen? ⟨g, j, none⟩ = false := by simpa using f1
            have d5 : W3.drew.cell? ⟨g, j, none⟩ = some u0 := by simpa using c1
            have hj0 : (0 : Int) ≤ j := by omega
            have hj1 : (j : Int) < n := by omega
            have HOW := Lib.hid how
            have HUS := Lib.hid hus
            clear how hu0 hm2 hus
            go_wp2_with fail
            go_region
            have hgs : W3.grownBy (W3.drew.setCell ⟨g, j, none⟩ (.int .i64 (-1000000 * (q : Int) - (j : Int) - 7))) (some g) := (grown_drew W3 (some g)).trans (grownBy_setCell W3.drew g j _)
            have hown' := own_set (show W3.drew.ownsRow B 3 1 (.slice (some ⟨g, 0, none⟩) n d) n ((ints (mIs q 0 n)).take j ++ us.drop j) from HOW.out) hjn (.int .i64 (-1000000 * (q : Int) - (j : Int) - 7))
            rw [set_mid HUS.out (by simp [ints, mIs_len]) hjn (by simp [ints, mIs_get q 0 n j hjn])] at hown'
            have hm' := HP3.out.m.put (b := ⟨3, .slice (some ⟨g, 0, none⟩) n d, n, (ints (mIs q 0 n)).take (j + 1) ++ us.drop (j + 1)⟩) HW.out hgs hown' (.inl rfl)
            rw [List.set_set] at hm'
            have HM4 := Lib.hid hm'
            have HK4 := Lib.hid (HP3.out.k.row HOW.out (show (3 : Nat) ≠ 76 by decide) hgs)
            have HB4 := Lib.hid (below_grown HP3.out.b hgs (Nat.le_trans HB.out HP3.out.b.size) (by rintro g' ⟨rfl⟩; exact own_ge HOW.out g rfl))
            have HO4 := Lib.hid (HO3.out.kept hgs (.inr (by
              intro e
              have h1 := own_ge HO3.out g e
              have h2 : g < W1.heap.size := (at_lt (HM0.out.own p _ HST.out.at_) rfl).2
              omega)))
            clear hgs hown' hm' b1 a1 f1 c1 d1 d2 d3 d4 d5
            go_wp2_with fail
            go_roundw
            case rel => exact ⟨j + 1, by go_num, by omega, ⟨HM4.out, HK4.out, HB4.out⟩, HO4.out⟩
            case measure => simp [intOf]; omega
          · have HPE : Hid (PutIntsAt B K cs (L (q + 1)) r w W3) := Lib.hid (by
              have hjj : j = n := by omega
              subst hjj
              have hus : us.length = j := by have := (HM0.out.own p _ HST.out.at_).1; simpa using this
              have h := HP3.out
              rw [List.take_of_length_le (by simp [ints, mIs_len]), List.drop_of_length_le (by omega), List.append_nil, ← HST.out.to_] at h
              exact h)
            go_wp2_with fail
            go_roundw
            case rel => exact ⟨q + 1, by go_num, by omega, HPE.out⟩
            case measure => simp [intOf]; omega
    · have HPE : Hid (PutIntsAt B K cs (L k) r w W1) := Lib.hid (by
        have hqq : q = k := by omega
        subst hqq
        exact HP.out)
      go_wp2_with fail
      go_end0
      exact ⟨⟨_, rfl⟩, HPE.out⟩
/-- Where putTexts stands: q lists are marked. L tells the rows behind each round. -/
structure PutTextsAt (B K : Nat) (cs : Array Value) (l r : List Row) (w wr : World) : Prop where
  m : Mem B l r wr
  k : BkAt K cs wr
  b : Below B w wr
set_option maxRecDepth 20000 in
set_option maxHeartbeats 4000000 in
theorem putTexts_any (B K : Nat) (cs : Array Value) (L : Nat → List Row) (r : List Row) (i k c : Nat) (A : Option Addr) (ls : List Value) (w : World) (hM : Mem B (L 0) r w) (hK : BkAt K cs w) (hB : B ≤ w.heap.size) (hc : cs[0]? = some (.slice A k c))
    (hI : ∀ q, q ≤ k → (L q)[i]? = some ⟨23, .slice A k c, k, ls⟩) (hN : ∀ q, q ≤ k → NoBk (L q) r)
    (hL : ∀ q, q < k → (ls[q]? = some (.slice none 0 0) ∧ L (q + 1) = L q) ∨ ∃ p g n d us, ls[q]? = some (.slice (some ⟨g, 0, none⟩) n d) ∧ n ≤ 90000 ∧ MStep (L q) (L (q + 1)) p 9 g n d us (strV (mTs q 0 n))) (hk : k ≤ 200) :
    Calls Tryz.prog 79 #[.pointer (some ⟨K, 0, none⟩)] w fun en w' => (∃ u, en = .returned u) ∧ PutTextsAt B K cs (L k) r w w' := by
  have HC := Lib.hid hc
  have HI := Lib.hid hI
  have HN := Lib.hid hN
  have HL := Lib.hid hL
  have HB := Lib.hid hB
  have HP0 : Hid (PutTextsAt B K cs (L 0) r w w) := Lib.hid ⟨hM, hK, Below.refl _ _⟩
  clear hM hK hB hc hI hN hL
  go_enter Tryz.func79, Tryz.ntmps79
  go_wp2_with fail
  go_loopw [2] (fun i wr => ∃ q : Nat, i = .int .i64 q ∧ q ≤ k ∧ PutTextsAt B K cs (L q) r w wr) (fun i _ => k - (intOf i).toNat)
  case atStart => exact ⟨0, rfl, Nat.zero_le _, HP0.out⟩
  case round =>
    obtain ⟨q, rfl, hqk, hp⟩ := hrel
    have HP := Lib.hid hp
    have b1 : wr.cell? ⟨K, 0, none⟩ = some (.slice A k c) := by rw [cell_p hp.k]; exact HC.out
    clear hp
    obtain ⟨W1, rfl⟩ : ∃ W : World, W = wr := ⟨wr, rfl⟩
    by_cases hlt : q < k
    · have hsl := HP.out.m.cell (HI.out q (Nat.le_of_lt hlt))
      have hq0 : (0 : Int) ≤ q := by omega
      have hq1 : (q : Int) < k := by omega
      rcases HL.out q hlt with ⟨hl, hnext⟩ | ⟨p, g, n, d, us, hl, hn, hst⟩
      · obtain ⟨ad, rfl, hcl⟩ := hsl.get hlt hl
        have HNX := Lib.hid hnext
        clear hsl hl hnext
        go_wp2_with fail
        refine (markT_any q 0 0 _ (by omega) (by omega)).mono ?_
        rintro e w2 ⟨v2, rfl, ho2, hg2⟩
        have hv2 : v2 = .slice none 0 0 ∨ ∃ A2 c2, v2 = .slice A2 0 c2 := by
          obtain ⟨A2, c2, h⟩ := own_form ho2
          exact .inr ⟨A2, c2, h⟩
        obtain ⟨A2, c2, rfl⟩ : ∃ A2 c2, v2 = .slice A2 0 c2 := own_form ho2
        have HP2 : Hid (PutTextsAt B K cs (L (q + 1)) r w w2) := Lib.hid (by rw [HNX.out]; exact ⟨HP.out.m.old hg2, HP.out.k.old hg2, below_grown HP.out.b hg2 (Nat.le_trans HB.out HP.out.b.size) (by simp)⟩)
        clear ho2 hg2 hv2 hcl b1
        go_wp2_with fail
        go_loopw [4] (fun i wr => i = .int .i64 0 ∧ PutTextsAt B K cs (L (q + 1)) r w wr) (fun _ _ => 0)
        case atStart => exact ⟨rfl, HP2.out⟩
        case round =>
          obtain ⟨rfl, hp3⟩ := hrel
          have HP3 := Lib.hid hp3
          clear hp3
          go_wp2_with fail
          go_roundw
          case rel => exact ⟨q + 1, by go_num, by omega, HP3.out⟩
          case measure => simp [intOf]; omega
      · obtain ⟨ad, rfl, hcl⟩ := hsl.get hlt hl
        have HCL := Lib.hid hcl
        have HST := Lib.hid hst
        have HLS := Lib.hid hl
        have HM0 := Lib.hid HP.out.m
        have HNN := Lib.hid hn
        have hnI : (n : Int) ≤ 90000 := by omega
        clear hsl hl hst
        go_wp2_with fail
        refine (markT_any q 0 n _ (by omega) (by omega)).mono ?_
        rintro e w2 ⟨v2, rfl, ho2, hg2⟩
        obtain ⟨A2, c2, rfl⟩ := own_form ho2
        have HQ : Hid (PutTextsAt B K cs (L q) r w w2 ∧ w2.ownsRow W1.heap.size 9 1 (.slice A2 n c2) n (strV (mTs q 0 n))) := Lib.hid ⟨⟨HP.out.m.old hg2, HP.out.k.old hg2, below_grown HP.out.b hg2 (Nat.le_trans HB.out HP.out.b.size) (by simp)⟩, ho2⟩
        have HBW : Hid (B ≤ W1.heap.size) := Lib.hid (Nat.le_trans HB.out HP.out.b.size)
        clear ho2 hcl b1
        go_wp2_with fail
        go_loopw [4] (fun i wr => ∃ j : Nat, i = .int .i64 j ∧ j ≤ n ∧ PutTextsAt B K cs ((L q).set p ⟨9, .slice (some ⟨g, 0, none⟩) n d, n, (strV (mTs q 0 n)).take j ++ us.drop j⟩) r w wr ∧ wr.ownsRow W1.heap.size 9 1 (.slice A2 n c2) n (strV (mTs q 0 n))) (fun i _ => n - (intOf i).toNat)
        case atStart =>
          refine ⟨0, rfl, Nat.zero_le _, ?_, HQ.out.2⟩
          have h0 : (L q).set p ⟨9, .slice (some ⟨g, 0, none⟩) n d, n, (strV (mTs q 0 n)).take 0 ++ us.drop 0⟩ = L q := by
            rw [List.take_zero, List.drop_zero, List.nil_append]
            exact set_same HST.out.at_
          rw [h0]
          exact HQ.out.1
        case round =>
          obtain ⟨j, rfl, hj, hp3, ho3⟩ := hrel
          have HP3 := Lib.hid hp3
          have HO3 := Lib.hid ho3
          clear hp3 ho3
          obtain ⟨W3, rfl⟩ : ∃ W : World, W = wr := ⟨wr, rfl⟩
          have b1 : W3.cell? ⟨K, 0, none⟩ = some (.slice (some ad) k c) := by rw [cell_p HP3.out.k]; exact HC.out
          by_cases hjn : j < n
          · have HW := Lib.hid (get_set_self HST.out.at_ ⟨9, .slice (some ⟨g, 0, none⟩) n d, n, (strV (mTs q 0 n)).take j ++ us.drop j⟩)
            have HIQ : Hid (((L q).set p ⟨9, .slice (some ⟨g, 0, none⟩) n d, n, (strV (mTs q 0 n)).take j ++ us.drop j⟩)[i]? = some ⟨23, .slice (some ad) k c, k, ls⟩) := Lib.hid (get_set_ne (HI.out q (Nat.le_of_lt hlt)) (ne_of_type HST.out.at_ (HI.out q (Nat.le_of_lt hlt)) (show (9 : Nat) ≠ 23 by decide)))
            have a1 : W3.cell? (ad.add q) = some (.slice (some ⟨g, 0, none⟩) n d) := slice_cell (HP3.out.m.cell HIQ.out) hlt HLS.out
            obtain ⟨ad2, hA2, hm2⟩ := (SlAt.own HO3.out).get hjn (show (strV (mTs q 0 n))[j]? = some (.string (nm q j)) by simp [strV, mTs_get q 0 n j hjn])
            subst hA2
            have how := HP3.out.m.own p _ HW.out
            have hus : us.length = n := by have := (HM0.out.own p _ HST.out.at_).1; simpa using this
            have f1 : W3.frozen? ⟨g, j, none⟩ = false := frozen_own how j
            obtain ⟨u0, hu0⟩ : ∃ u0, ((strV (mTs q 0 n)).take j ++ us.drop j)[j]? = some u0 := by
              refine ⟨_, List.getElem?_eq_getElem ?_⟩
              simp [strV, mTs_len]; omega
            have c1 : W3.cell? ⟨g, j, none⟩ = some u0 := own_cell how hu0
            have d1 : W3.drew.cell? ⟨K, 0, none⟩ = some (.slice (some ad) k c) := by simpa using b1
            have d2 : W3.drew.cell? (ad.add q) = some (.slice (some ⟨g, 0, none⟩) n d) := by simpa using a1
            have d3 : W3.drew.cell? (ad2.add j) = some (.string (nm q j)) := by simpa using hm2
            have d4 : W3.drew.frozen? ⟨g, j, none⟩ = false := by simpa using f1
            have d5 : W3.drew.cell? ⟨g, j, none⟩ = some u0 := by simpa using c1
            have hj0 : (0 : Int) ≤ j := by omega
            have hj1 : (j : Int) < n := by omega
            have HOW := Lib.hid how
            have HUS := Lib.hid hus
            clear how hu0 hm2 hus
            go_wp2_with fail
            go_region
            have hgs : W3.grownBy (W3.drew.setCell ⟨g, j, none⟩ (.string (nm q j))) (some g) := (grown_drew W3 (some g)).trans (grownBy_setCell W3.drew g j _)
            have hown' := own_set (show W3.drew.ownsRow B 9 1 (.slice (some ⟨g, 0, none⟩) n d) n ((strV (mTs q 0 n)).take j ++ us.drop j) from HOW.out) hjn (.string (nm q j))
            rw [set_mid HUS.out (by simp [strV, mTs_len]) hjn (by simp [strV, mTs_get q 0 n j hjn])] at hown'
            have hm' := HP3.out.m.put (b := ⟨9, .slice (some ⟨g, 0, none⟩) n d, n, (strV (mTs q 0 n)).take (j + 1) ++ us.drop (j + 1)⟩) HW.out hgs hown' (.inl rfl)
            rw [List.set_set] at hm'
            have HM4 := Lib.hid hm'
            have HK4 := Lib.hid (HP3.out.k.row HOW.out (show (9 : Nat) ≠ 76 by decide) hgs)
            have HB4 := Lib.hid (below_grown HP3.out.b hgs (Nat.le_trans HB.out HP3.out.b.size) (by rintro g' ⟨rfl⟩; exact own_ge HOW.out g rfl))
            have HO4 := Lib.hid (HO3.out.kept hgs (.inr (by
              intro e
              have h1 := own_ge HO3.out g e
              have h2 : g < W1.heap.size := (at_lt (HM0.out.own p _ HST.out.at_) rfl).2
              omega)))
            clear hgs hown' hm' b1 a1 f1 c1 d1 d2 d3 d4 d5
            go_wp2_with fail
            go_roundw
            case rel => exact ⟨j + 1, by go_num, by omega, ⟨HM4.out, HK4.out, HB4.out⟩, HO4.out⟩
            case measure => simp [intOf]; omega
          · have HPE : Hid (PutTextsAt B K cs (L (q + 1)) r w W3) := Lib.hid (by
              have hjj : j = n := by omega
              subst hjj
              have hus : us.length = j := by have := (HM0.out.own p _ HST.out.at_).1; simpa using this
              have h := HP3.out
              rw [List.take_of_length_le (by simp [strV, mTs_len]), List.drop_of_length_le (by omega), List.append_nil, ← HST.out.to_] at h
              exact h)
            go_wp2_with fail
            go_roundw
            case rel => exact ⟨q + 1, by go_num, by omega, HPE.out⟩
            case measure => simp [intOf]; omega
    · have HPE : Hid (PutTextsAt B K cs (L k) r w W1) := Lib.hid (by
        have hqq : q = k := by omega
        subst hqq
        exact HP.out)
      go_wp2_with fail
      go_end0
      exact ⟨⟨_, rfl⟩, HPE.out⟩
end Go.Proofs.YthlpdficpmdebaaGreat.Wire
