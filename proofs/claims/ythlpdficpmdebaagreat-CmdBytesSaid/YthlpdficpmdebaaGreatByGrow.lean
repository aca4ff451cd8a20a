/- complinebook.(*Book).growInts, growTexts: every list that is kept is grown, one element at a time and then by many; the list itself stays as it was. -/
import Derived.Test.YthlpdficpmdebaaGreatByPutM
namespace Go.Proofs.YthlpdficpmdebaaGreat.Wire
open Go Go.RowKit Go.Lib
theorem get_last (l : List Row) (a : Row) : (l ++ [a])[l.length]? = some a := by rw [List.getElem?_append_right (Nat.le_refl _), Nat.sub_self]; rfl
theorem set_last (l : List Row) (a b : Row) : (l ++ [a]).set l.length b = l ++ [b] := by
  rw [List.set_append_right _ _ (Nat.le_refl _), Nat.sub_self]
  rfl
theorem get_lt {l : List Row} {i : Nat} {a : Row} (h : l[i]? = some a) : i < l.length := (List.getElem?_eq_some_iff.1 h).1
/-- What is told of the lists that are grown: t of them are done. -/
def GrownInts (ls gs : List Value) (r : List Row) (t : Nat) : Prop := ∃ n A1 c1 A2 c2, ls[t]? = some (.slice A1 n c1) ∧ gs[t]? = some (.slice A2 (n + 72) c2) ∧ n ≤ 8000 ∧ (⟨3, .slice A1 n c1, n, ints (mIs t 0 n)⟩ : Row) ∈ r ∧ (⟨3, .slice A2 (n + 72) c2, n + 72, ints (mIs t 0 (n + 72))⟩ : Row) ∈ r
structure GrowIntsAt (B K : Nat) (cs : Array Value) (l r : List Row) (ls : List Value) (q : Nat) (v : Value) (w wr : World) (r' : List Row) (gs : List Value) (Ao : Option Addr) (co : Nat) : Prop where
  v_ : v = .slice Ao q co
  m : Mem B (l ++ [⟨22, .slice Ao q co, q, gs⟩]) r' wr
  k : BkAt K cs wr
  b : Below B w wr
  r_ : ∀ b ∈ r, b ∈ r'
  n_ : NoBk (l ++ [⟨22, .slice Ao q co, q, gs⟩]) r'
  g_ : ∀ t, t < q → GrownInts ls gs r' t
set_option maxRecDepth 20000 in
set_option maxHeartbeats 8000000 in
theorem growInts_any (B K : Nat) (cs : Array Value) (L : Nat → List Row) (r : List Row) (i k c : Nat) (A : Option Addr) (ls : List Value) (w : World) (hM : Mem B (L 0) r w) (hK : BkAt K cs w) (hB : B ≤ w.heap.size) (hc : cs[2]? = some (.slice A k c))
    (hI : ∀ q, q ≤ k → (L q)[i]? = some ⟨22, .slice A k c, k, ls⟩) (hN : NoBk (L 0) r)
    (hL : ∀ q, q < k → ∃ p n A1 c1, ls[q]? = some (.slice A1 n c1) ∧ n ≤ 8000 ∧ (L q)[p]? = some ⟨3, .slice A1 n c1, n, ints (mIs q 0 n)⟩ ∧ L (q + 1) = (L q).set p (noRow 3)) (hk : k ≤ 200) :
    Calls Tryz.prog 93 #[.pointer (some ⟨K, 0, none⟩)] w fun en w' => ∃ v r' gs Ao co, en = .returned v ∧ GrowIntsAt B K cs (L k) r ls k v w w' r' gs Ao co := by
  obtain ⟨i0, hi0, hz0, hz1, hz2⟩ := info_parts int_info
  obtain ⟨j0, hj0, hy0, hy1, hy2⟩ := info_parts sli_info
  have HC := Lib.hid hc
  have HI := Lib.hid hI
  have HL := Lib.hid hL
  have HB := Lib.hid hB
  have HP0 : Hid (GrowIntsAt B K cs (L 0) r ls 0 (.slice none 0 0) w w r [] none 0) := Lib.hid ⟨rfl, by
    have h := hM.push (a := ⟨22, .slice none 0 0, 0, []⟩) (World.grownBy.refl _ _) (World.ownsRow_nil _ _ _ _) hB
    exact h, hK, Below.refl _ _, fun _ h => h, hN.push (show (22 : Nat) ≠ 76 by decide), fun t h => absurd h (Nat.not_lt_zero _)⟩
  clear hM hK hB hc hI hN hL
  go_enter Tryz.func93, Tryz.ntmps93
  go_wp2_with fail
  go_loopw [3, 4] (fun v i wr => ∃ q : Nat, i = .int .i64 q ∧ q ≤ k ∧ ∃ r' gs Ao co, GrowIntsAt B K cs (L q) r ls q v w wr r' gs Ao co) (fun _ i _ => k - (intOf i).toNat)
  case atStart => exact ⟨0, rfl, Nat.zero_le _, r, [], none, 0, HP0.out⟩
  case round =>
    obtain ⟨q, rfl, hqk, r', gs, Ao, co, hp⟩ := hrel
    obtain ⟨rfl, hm, hkk, hbw, hrr, hnb, hgr⟩ := hp
    have HM := Lib.hid hm
    have HKK := Lib.hid hkk
    have HBW := Lib.hid hbw
    have HRR := Lib.hid hrr
    have HNB := Lib.hid hnb
    have HGR := Lib.hid hgr
    have b1 : wr.cell? ⟨K, 2, none⟩ = some (.slice A k c) := by rw [cell_p hkk]; exact HC.out
    clear hm hkk hbw hrr hnb hgr
    obtain ⟨W1, rfl⟩ : ∃ W : World, W = wr := ⟨wr, rfl⟩
    by_cases hlt : q < k
    · have hsl := HM.out.cell (get_push (HI.out q (Nat.le_of_lt hlt)))
      have hq0 : (0 : Int) ≤ q := by omega
      have hq1 : (q : Int) < k := by omega
      obtain ⟨p, n, A1, c1, hl, hn, hpos, hnext⟩ := HL.out q hlt
      obtain ⟨ad, rfl, hcl⟩ := hsl.get hlt hl
      have HLS := Lib.hid hl
      have HPOS := Lib.hid hpos
      have HNX := Lib.hid hnext
      have HNN := Lib.hid hn
      have HB1 : Hid (B ≤ W1.heap.size) := Lib.hid (Nat.le_trans HB.out HBW.out.size)
      have HOFF : Hid (∀ (j : Nat) (a : Row), j ≠ p → (L q ++ [⟨22, .slice Ao q co, q, gs⟩])[j]? = some a → a.off ⟨3, .slice A1 n c1, n, (ints (mIs q 0 n))⟩) := Lib.hid (fun j a hj h => HM.out.off j p a _ hj h (get_push HPOS.out))
      have hnI : (n : Int) ≤ 8000 := by omega
      clear hsl hl hpos hnext
      go_wp2_with fail
      go_loopw [5, 6] (fun v i wr => ∃ (j : Nat) (A3 : Option Addr) (c3 : Nat), v = .slice A3 (n + j) c3 ∧ i = .int .i64 j ∧ j ≤ 12 ∧ Mem B ((L q).set p ⟨3, .slice A3 (n + j) c3, n + j, (ints (mIs q 0 (n + j)))⟩ ++ [⟨22, .slice Ao q co, q, gs⟩]) r' wr ∧ (⟨3, .slice A1 n c1, n, (ints (mIs q 0 n))⟩ : Row).at B wr ∧ BkAt K cs wr ∧ Below B w wr) (fun _ i _ => 12 - (intOf i).toNat)
      case atStart =>
        refine ⟨0, A1, c1, rfl, rfl, Nat.zero_le _, ?_, HM.out.own p _ (get_push HPOS.out), HKK.out, HBW.out⟩
        rw [Nat.add_zero, set_same HPOS.out]
        exact HM.out
      case round =>
        obtain ⟨j, A3, c3, rfl, rfl, hj, hm, hold, hkk, hbw⟩ := hrel
        have HM3 := Lib.hid hm
        have HOLD := Lib.hid hold
        have HK3 := Lib.hid hkk
        have HB3 := Lib.hid hbw
        have HB4 : Hid (B ≤ wr.heap.size) := Lib.hid (Nat.le_trans HB.out hbw.size)
        clear hm hold hkk hbw
        obtain ⟨W3, rfl⟩ : ∃ W : World, W = wr := ⟨wr, rfl⟩
        have HPI : Hid (((L q).set p ⟨3, .slice A3 (n + j) c3, n + j, (ints (mIs q 0 (n + j)))⟩ ++ [⟨22, .slice Ao q co, q, gs⟩])[p]? = some ⟨3, .slice A3 (n + j) c3, n + j, (ints (mIs q 0 (n + j)))⟩) := Lib.hid (get_push (get_set_self HPOS.out _))
        have hjI : (j : Int) ≤ 12 := by omega
        by_cases hjn : j < 12
        · go_wp2_with fail
          refine (markI_any q (n + j) 1 _ (by omega) (by omega)).mono ?_
          rintro e w4 ⟨v4, rfl, ho4, hg4⟩
          obtain ⟨g4, cap4, rfl, _, _⟩ := ho4.form (by omega)
          have HO4 := Lib.hid ho4
          have HM4 := Lib.hid (HM3.out.old hg4)
          have HOLD4 := Lib.hid (HOLD.out.old hg4)
          have HK4 := Lib.hid (HK3.out.old hg4)
          have HBB4 := Lib.hid (below_grown HB3.out hg4 HB4.out (by simp))
          have HSZ4 : Hid (B ≤ w4.heap.size) := Lib.hid (Nat.le_trans HB4.out hg4.size)
          clear ho4 hg4
          go_wp2_with (at_builtin
                       refine wpList_append_stay rfl (.tmp 27) (.tmp 31) _ rfl B 3 i0 _ 8 Tryz.underlying22 hi0 hz0 hz1 hz2 rfl (.slice A3 (n + j) c3) (n + j) (ints (mIs q 0 (n + j))) rfl (HM4.out.own p _ HPI.out) ⟨g4, 0, none⟩ 1 cap4 (ints (mIs q (n + j) 1)) rfl (by simp [ints, mIs_len]) (HO4.out.cells rfl) (one_ints _) (by unfold maxLen; omega) (by omega) HSZ4.out ?_
                       intro v5 w5 hown5 hg5 hat5 hkeep5
                       obtain ⟨A5, c5, rfl⟩ := own_form hown5
                       have HO5 := Lib.hid hown5
                       have HG5 := Lib.hid hg5
                       have HAT5 := Lib.hid hat5
                       have HKEEP5 := Lib.hid hkeep5
                       clear hown5 hg5 hat5 hkeep5)
          have hmk : (ints (mIs q 0 (n + j))) ++ ints (mIs q (n + j) 1) = (ints (mIs q 0 (n + (j + 1)))) := by
            have h := mIs_app q 0 (n + j) 1
            rw [Nat.zero_add] at h
            rw [← Nat.add_assoc, ← h]
            simp [ints]
          have HM5 := Lib.hid (HM4.out.put (b := ⟨3, .slice A5 (n + (j + 1)) c5, n + (j + 1), (ints (mIs q 0 (n + (j + 1))))⟩) HPI.out HG5.out (by
            have h := HO5.out
            rw [hmk] at h
            exact h) HAT5.out)
          have ho9 : w4.ownsRow B 3 1 (.slice A3 (n + j) c3) (n + j) (ints (mIs q 0 (n + j))) := HM4.out.own p _ HPI.out
          have HK5 := Lib.hid (HK4.out.row ho9 (show (3 : Nat) ≠ 76 by decide) HG5.out)
          have HB5 := Lib.hid (below_grown HBB4.out HG5.out HSZ4.out (own_ge ho9))
          have HOLD5 : Hid ((⟨3, .slice A1 n c1, n, (ints (mIs q 0 n))⟩ : Row).at B w5) := Lib.hid (HKEEP5.out _ _ _ HOLD4.out (fun _ => show n ≤ n + j by omega))
          have hm5 := HM5.out
          rw [List.set_append_left _ _ (by rw [List.length_set]; exact get_lt HPOS.out), List.set_set] at hm5
          have HM6 := Lib.hid hm5
          clear hmk ho9 hm5
          go_roundw
          case rel => exact ⟨j + 1, A5, c5, rfl, by go_num, by omega, HM6.out, HOLD5.out, HK5.out, HB5.out⟩
          case measure => simp [intOf]; omega
        · have hj12 : j = 12 := by omega
          subst hj12
          go_wp2_with fail
          refine (markI_any q (n + 12) 60 _ (by omega) (by omega)).mono ?_
          rintro e w4 ⟨v4, rfl, ho4, hg4⟩
          obtain ⟨g4, cap4, rfl, _, _⟩ := ho4.form (by omega)
          have HO4 := Lib.hid ho4
          have HM4 := Lib.hid (HM3.out.old hg4)
          have HOLD4 := Lib.hid (HOLD.out.old hg4)
          have HK4 := Lib.hid (HK3.out.old hg4)
          have HBB4 := Lib.hid (below_grown HB3.out hg4 HB4.out (by simp))
          have HSZ4 : Hid (B ≤ w4.heap.size) := Lib.hid (Nat.le_trans HB4.out hg4.size)
          clear ho4 hg4
          have HOUT : Hid (w4.ownsRow B 22 1 (.slice Ao q co) q gs) := Lib.hid (HM4.out.own (L q).length ⟨22, .slice Ao q co, q, gs⟩ (by have h := get_last ((L q).set p ⟨3, .slice A3 (n + 12) c3, n + 12, (ints (mIs q 0 (n + 12)))⟩) ⟨22, .slice Ao q co, q, gs⟩; rw [List.length_set] at h; exact h))
          have HNE : Hid (p ≠ (L q).length) := Lib.hid (by have := get_lt HPOS.out; omega)
          have HOO : Hid ((⟨22, .slice Ao q co, q, gs⟩ : Row).off ⟨3, .slice A3 (n + 12) c3, n + 12, (ints (mIs q 0 (n + 12)))⟩) := Lib.hid (HM4.out.off (L q).length p _ _ (Ne.symm HNE.out) (by have h := get_last ((L q).set p ⟨3, .slice A3 (n + 12) c3, n + 12, (ints (mIs q 0 (n + 12)))⟩) ⟨22, .slice Ao q co, q, gs⟩; rw [List.length_set] at h; exact h) HPI.out)
          go_wp2_with (at_builtin
                       first
                         | (refine wpList_append_stay rfl (.tmp 34) (.tmp 38) _ rfl B 3 i0 _ 8 Tryz.underlying22 hi0 hz0 hz1 hz2 rfl (.slice A3 (n + 12) c3) (n + 12) (ints (mIs q 0 (n + 12))) rfl (HM4.out.own p _ HPI.out) ⟨g4, 0, none⟩ 60 cap4 (ints (mIs q (n + 12) 60)) rfl (by simp [ints, mIs_len]) (HO4.out.cells rfl) (one_ints _) (by unfold maxLen; omega) (by omega) HSZ4.out ?_; intro v5 w5 hown5 hg5 hat5 hkeep5; obtain ⟨A5, c5, rfl⟩ := own_form hown5; have HO5 := Lib.hid hown5; have HG5 := Lib.hid hg5; have HAT5 := Lib.hid hat5; have HKEEP5 := Lib.hid hkeep5; have HSZ5 : Hid (B ≤ w5.heap.size) := Lib.hid (Nat.le_trans HSZ4.out hg5.size); have HOUT5 : Hid (w5.ownsRow B 22 1 (.slice Ao q co) q gs) := Lib.hid (HOUT.out.kept hg5 HOO.out); clear hown5 hg5 hat5 hkeep5)
                         | (refine wpList_append_own_at _ rfl (.tmp 33) (.tmp 40) _ rfl B 22 j0 _ 1 24 Tryz.underlying59 hj0 hy0 hy1 hy2 rfl (by omega) (.slice Ao q co) q gs rfl (HOUT5.out.alloc _) ⟨w5.heap.size, 0, none⟩ 1 1 [.slice A5 (n + 12 + 60) c5] rfl rfl (cell_one_new _ _ _) (by simp [Value.oneCell']) (by unfold maxLen; omega) (by omega) (by have := HSZ5.out; simp; omega) ?_; intro v6 w6 hown6 hg6 _ hat6; obtain ⟨A6, c6, rfl⟩ := own_form hown6; have HO6 := Lib.hid hown6; have HG6 := Lib.hid hg6; have HAT6 := Lib.hid hat6; clear hown6 hg6 hat6))
          have hmk : (ints (mIs q 0 (n + 12))) ++ ints (mIs q (n + 12) 60) = (ints (mIs q 0 (n + 72))) := by
            have h := mIs_app q 0 (n + 12) 60
            rw [Nat.zero_add] at h
            rw [show n + 72 = n + 12 + 60 from rfl, ← h]
            simp [ints]
          have hm5 := HM4.out.put (b := ⟨3, .slice A5 (n + 72) c5, n + 72, (ints (mIs q 0 (n + 72)))⟩) HPI.out HG5.out (by
            have h := HO5.out
            rw [hmk] at h
            exact h) HAT5.out
          rw [List.set_append_left _ _ (by rw [List.length_set]; exact get_lt HPOS.out), List.set_set] at hm5
          have hm5a := hm5.old (World.grownBy_alloc w5 (.cells #[.slice A5 (n + 12 + 60) c5] 22) none)
          have hlast := get_last ((L q).set p ⟨3, .slice A5 (n + 72) c5, n + 72, (ints (mIs q 0 (n + 72)))⟩) ⟨22, .slice Ao q co, q, gs⟩
          have hm6 := hm5a.put (b := ⟨22, .slice A6 (q + 1) c6, q + 1, gs ++ [Value.slice A5 (n + 72) c5]⟩) hlast HG6.out HO6.out HAT6.out
          rw [set_last] at hm6
          have hold5 : (⟨3, .slice A1 n c1, n, (ints (mIs q 0 n))⟩ : Row).at B w5 := HKEEP5.out _ _ _ HOLD4.out (fun _ => show n ≤ n + 12 by omega)
          have hold5a := hold5.old (World.grownBy_alloc w5 (.cells #[.slice A5 (n + 12 + 60) c5] 22) none)
          have hoffL : (⟨22, .slice Ao q co, q, gs⟩ : Row).off ⟨3, .slice A1 n c1, n, (ints (mIs q 0 n))⟩ := HOFF.out (L q).length _ (Ne.symm HNE.out) (get_last (L q) _)
          have hold6 : (⟨3, .slice A1 n c1, n, (ints (mIs q 0 n))⟩ : Row).at B w6 := hold5a.kept HG6.out hoffL.symm
          have hpi6 : ((L q).set p ⟨3, .slice A5 (n + 72) c5, n + 72, (ints (mIs q 0 (n + 72)))⟩ ++ [⟨22, .slice A6 (q + 1) c6, q + 1, gs ++ [Value.slice A5 (n + 72) c5]⟩])[p]? = some ⟨3, .slice A5 (n + 72) c5, n + 72, (ints (mIs q 0 (n + 72)))⟩ := get_push (get_set_self HPOS.out _)
          have hm7 := hm6.drop p 3 (rs := [⟨3, .slice A1 n c1, n, (ints (mIs q 0 n))⟩, ⟨3, .slice A5 (n + 72) c5, n + 72, (ints (mIs q 0 (n + 72)))⟩]) (by
            intro b hb
            simp only [List.mem_cons, List.not_mem_nil, or_false] at hb
            rcases hb with rfl | rfl
            · refine ⟨hold6, fun j a hj ha => ?_⟩
              by_cases hjl : j < (L q).length
              · rw [List.getElem?_append_left (by rw [List.length_set]; exact hjl), List.getElem?_set_ne (Ne.symm hj)] at ha
                exact HOFF.out j a hj (get_push ha)
              · rw [List.getElem?_append_right (by rw [List.length_set]; omega)] at ha
                have hm := List.mem_of_getElem? ha
                simp only [List.mem_cons, List.not_mem_nil, or_false] at hm
                subst hm
                rcases HAT6.out with h | h
                · rcases hoffL with h2 | h2
                  · exact .inl (h.trans h2)
                  · exact .inr (by rw [show (⟨22, .slice A6 (q + 1) c6, q + 1, gs ++ [Value.slice A5 (n + 72) c5]⟩ : Row).v.ownBlock = _ from h]; exact h2)
                · refine .inr ?_
                  rw [show (⟨22, .slice A6 (q + 1) c6, q + 1, gs ++ [Value.slice A5 (n + 72) c5]⟩ : Row).v.ownBlock = _ from h]
                  intro e
                  have h3 := (at_lt hold5a e.symm).2
                  omega
            · exact ⟨hm6.own p _ hpi6, fun j a hj ha => hm6.off j p a _ hj ha hpi6⟩)
          rw [List.set_append_left _ _ (by rw [List.length_set]; exact get_lt HPOS.out), List.set_set, ← HNX.out] at hm7
          have HM7 := Lib.hid hm7
          have hk5 := HK4.out.row (show w4.ownsRow B 3 1 (.slice A3 (n + 12) c3) (n + 12) (ints (mIs q 0 (n + 12))) from HM4.out.own p _ HPI.out) (show (3 : Nat) ≠ 76 by decide) HG5.out
          have HK6 := Lib.hid ((hk5.old (World.grownBy_alloc w5 (.cells #[.slice A5 (n + 12 + 60) c5] 22) none)).row (HOUT5.out.alloc (.cells #[.slice A5 (n + 12 + 60) c5] 22)) (show (22 : Nat) ≠ 76 by decide) HG6.out)
          have hb5 := below_grown HBB4.out HG5.out HSZ4.out (own_ge (show w4.ownsRow B 3 1 (.slice A3 (n + 12) c3) (n + 12) (ints (mIs q 0 (n + 12))) from HM4.out.own p _ HPI.out))
          have HB6 := Lib.hid (below_grown (hb5.alloc HSZ5.out (.cells #[.slice A5 (n + 12 + 60) c5] 22)) HG6.out (by have := HSZ5.out; simp; omega) (own_ge HOUT.out))
          have HGL : Hid (gs.length = q) := Lib.hid (by have := HOUT.out.1; omega)
          have hn7 : NoBk (L (q + 1) ++ [⟨22, .slice A6 (q + 1) c6, q + 1, gs ++ [Value.slice A5 (n + 72) c5]⟩]) ([⟨3, .slice A1 n c1, n, (ints (mIs q 0 n))⟩, ⟨3, .slice A5 (n + 72) c5, n + 72, (ints (mIs q 0 (n + 72)))⟩] ++ r') := by
            refine ⟨fun j a ha => ?_, fun b hb => ?_⟩
            · by_cases hjl : j < (L (q + 1)).length
              · rw [List.getElem?_append_left hjl, HNX.out, List.getElem?_set] at ha
                split at ha
                · split at ha
                  · cases ha; exact (show (3 : Nat) ≠ 76 by decide)
                  · cases ha
                · exact HNB.out.1 j a (get_push ha)
              · rw [List.getElem?_append_right (by omega)] at ha
                have hm := List.mem_of_getElem? ha
                simp only [List.mem_cons, List.not_mem_nil, or_false] at hm
                subst hm
                exact (show (22 : Nat) ≠ 76 by decide)
            · rcases List.mem_append.1 hb with hb | hb
              · simp only [List.mem_cons, List.not_mem_nil, or_false] at hb
                rcases hb with rfl | rfl
                · exact (show (3 : Nat) ≠ 76 by decide)
                · exact (show (3 : Nat) ≠ 76 by decide)
              · exact HNB.out.2 b hb
          have HN7 := Lib.hid hn7
          have HG7 : Hid (∀ t, t < q + 1 → GrownInts ls (gs ++ [Value.slice A5 (n + 72) c5]) ([⟨3, .slice A1 n c1, n, (ints (mIs q 0 n))⟩, ⟨3, .slice A5 (n + 72) c5, n + 72, (ints (mIs q 0 (n + 72)))⟩] ++ r') t) := Lib.hid (fun t ht => by
            by_cases htq : t < q
            · obtain ⟨n', B1, d1, B2, d2, h1, h2, h3, h4, h5⟩ := HGR.out t htq
              exact ⟨n', B1, d1, B2, d2, h1, by rw [List.getElem?_append_left (by have := HGL.out; omega)]; exact h2, h3, List.mem_append_right _ h4, List.mem_append_right _ h5⟩
            · have htt : t = q := by omega
              subst htt
              exact ⟨n, A1, c1, A5, c5, HLS.out, by rw [List.getElem?_append_right (by have := HGL.out; omega), HGL.out, Nat.sub_self]; rfl, HNN.out, by simp, by simp⟩)
          clear hmk hm5 hm5a hlast hm6 hold5 hold5a hoffL hold6 hpi6 hm7 hk5 hb5 hn7
          go_wp2_with fail
          go_roundw
          case rel => exact ⟨q + 1, by go_num, by omega, _, _, A6, c6, rfl, HM7.out, HK6.out, HB6.out, fun b hb => List.mem_append_right _ (HRR.out b hb), HN7.out, HG7.out⟩
          case measure => simp [intOf]; omega
    · have HPE : Hid (∃ r' gs Ao co, GrowIntsAt B K cs (L k) r ls k (.slice Ao k co) w W1 r' gs Ao co) := Lib.hid (by
        have hqq : q = k := by omega
        subst hqq
        exact ⟨r', gs, Ao, co, rfl, HM.out, HKK.out, HBW.out, HRR.out, HNB.out, HGR.out⟩)
      have hqq : q = k := by omega
      subst hqq
      go_wp2_with fail
      refine bodyPost_ret (results_tmp rfl _ _ _) rfl ?_
      exact ⟨_, r', gs, Ao, co, rfl, rfl, HM.out, HKK.out, HBW.out, HRR.out, HNB.out, HGR.out⟩
/-- What is told of the lists that are grown: t of them are done. -/
def GrownTexts (ls gs : List Value) (r : List Row) (t : Nat) : Prop := ∃ n A1 c1 A2 c2, ls[t]? = some (.slice A1 n c1) ∧ gs[t]? = some (.slice A2 (n + 72) c2) ∧ n ≤ 8000 ∧ (⟨9, .slice A1 n c1, n, strV (mTs t 0 n)⟩ : Row) ∈ r ∧ (⟨9, .slice A2 (n + 72) c2, n + 72, strV (mTs t 0 (n + 72))⟩ : Row) ∈ r
structure GrowTextsAt (B K : Nat) (cs : Array Value) (l r : List Row) (ls : List Value) (q : Nat) (v : Value) (w wr : World) (r' : List Row) (gs : List Value) (Ao : Option Addr) (co : Nat) : Prop where
  v_ : v = .slice Ao q co
  m : Mem B (l ++ [⟨23, .slice Ao q co, q, gs⟩]) r' wr
  k : BkAt K cs wr
  b : Below B w wr
  r_ : ∀ b ∈ r, b ∈ r'
  n_ : NoBk (l ++ [⟨23, .slice Ao q co, q, gs⟩]) r'
  g_ : ∀ t, t < q → GrownTexts ls gs r' t
set_option maxRecDepth 20000 in
set_option maxHeartbeats 8000000 in
theorem growTexts_any (B K : Nat) (cs : Array Value) (L : Nat → List Row) (r : List Row) (i k c : Nat) (A : Option Addr) (ls : List Value) (w : World) (hM : Mem B (L 0) r w) (hK : BkAt K cs w) (hB : B ≤ w.heap.size) (hc : cs[0]? = some (.slice A k c))
    (hI : ∀ q, q ≤ k → (L q)[i]? = some ⟨23, .slice A k c, k, ls⟩) (hN : NoBk (L 0) r)
    (hL : ∀ q, q < k → ∃ p n A1 c1, ls[q]? = some (.slice A1 n c1) ∧ n ≤ 8000 ∧ (L q)[p]? = some ⟨9, .slice A1 n c1, n, strV (mTs q 0 n)⟩ ∧ L (q + 1) = (L q).set p (noRow 9)) (hk : k ≤ 200) :
    Calls Tryz.prog 92 #[.pointer (some ⟨K, 0, none⟩)] w fun en w' => ∃ v r' gs Ao co, en = .returned v ∧ GrowTextsAt B K cs (L k) r ls k v w w' r' gs Ao co := by
  obtain ⟨i0, hi0, hz0, hz1, hz2⟩ := info_parts str_info
  obtain ⟨j0, hj0, hy0, hy1, hy2⟩ := info_parts slt_info
  have HC := Lib.hid hc
  have HI := Lib.hid hI
  have HL := Lib.hid hL
  have HB := Lib.hid hB
  have HP0 : Hid (GrowTextsAt B K cs (L 0) r ls 0 (.slice none 0 0) w w r [] none 0) := Lib.hid ⟨rfl, by
    have h := hM.push (a := ⟨23, .slice none 0 0, 0, []⟩) (World.grownBy.refl _ _) (World.ownsRow_nil _ _ _ _) hB
    exact h, hK, Below.refl _ _, fun _ h => h, hN.push (show (23 : Nat) ≠ 76 by decide), fun t h => absurd h (Nat.not_lt_zero _)⟩
  clear hM hK hB hc hI hN hL
  go_enter Tryz.func92, Tryz.ntmps92
  go_wp2_with fail
  go_loopw [3, 4] (fun v i wr => ∃ q : Nat, i = .int .i64 q ∧ q ≤ k ∧ ∃ r' gs Ao co, GrowTextsAt B K cs (L q) r ls q v w wr r' gs Ao co) (fun _ i _ => k - (intOf i).toNat)
  case atStart => exact ⟨0, rfl, Nat.zero_le _, r, [], none, 0, HP0.out⟩
  case round =>
    obtain ⟨q, rfl, hqk, r', gs, Ao, co, hp⟩ := hrel
    obtain ⟨rfl, hm, hkk, hbw, hrr, hnb, hgr⟩ := hp
    have HM := Lib.hid hm
    have HKK := Lib.hid hkk
    have HBW := Lib.hid hbw
    have HRR := Lib.hid hrr
    have HNB := Lib.hid hnb
    have HGR := Lib.hid hgr
    have b1 : wr.cell? ⟨K, 0, none⟩ = some (.slice A k c) := by rw [cell_p hkk]; exact HC.out
    clear hm hkk hbw hrr hnb hgr
    obtain ⟨W1, rfl⟩ : ∃ W : World, W = wr := ⟨wr, rfl⟩
    by_cases hlt : q < k
    · have hsl := HM.out.cell (get_push (HI.out q (Nat.le_of_lt hlt)))
      have hq0 : (0 : Int) ≤ q := by omega
      have hq1 : (q : Int) < k := by omega
      obtain ⟨p, n, A1, c1, hl, hn, hpos, hnext⟩ := HL.out q hlt
      obtain ⟨ad, rfl, hcl⟩ := hsl.get hlt hl
      have HLS := Lib.hid hl
      have HPOS := Lib.hid hpos
      have HNX := Lib.hid hnext
      have HNN := Lib.hid hn
      have HB1 : Hid (B ≤ W1.heap.size) := Lib.hid (Nat.le_trans HB.out HBW.out.size)
      have HOFF : Hid (∀ (j : Nat) (a : Row), j ≠ p → (L q ++ [⟨23, .slice Ao q co, q, gs⟩])[j]? = some a → a.off ⟨9, .slice A1 n c1, n, (strV (mTs q 0 n))⟩) := Lib.hid (fun j a hj h => HM.out.off j p a _ hj h (get_push HPOS.out))
      have hnI : (n : Int) ≤ 8000 := by omega
      clear hsl hl hpos hnext
      go_wp2_with fail
      go_loopw [5, 6] (fun v i wr => ∃ (j : Nat) (A3 : Option Addr) (c3 : Nat), v = .slice A3 (n + j) c3 ∧ i = .int .i64 j ∧ j ≤ 12 ∧ Mem B ((L q).set p ⟨9, .slice A3 (n + j) c3, n + j, (strV (mTs q 0 (n + j)))⟩ ++ [⟨23, .slice Ao q co, q, gs⟩]) r' wr ∧ (⟨9, .slice A1 n c1, n, (strV (mTs q 0 n))⟩ : Row).at B wr ∧ BkAt K cs wr ∧ Below B w wr) (fun _ i _ => 12 - (intOf i).toNat)
      case atStart =>
        refine ⟨0, A1, c1, rfl, rfl, Nat.zero_le _, ?_, HM.out.own p _ (get_push HPOS.out), HKK.out, HBW.out⟩
        rw [Nat.add_zero, set_same HPOS.out]
        exact HM.out
      case round =>
        obtain ⟨j, A3, c3, rfl, rfl, hj, hm, hold, hkk, hbw⟩ := hrel
        have HM3 := Lib.hid hm
        have HOLD := Lib.hid hold
        have HK3 := Lib.hid hkk
        have HB3 := Lib.hid hbw
        have HB4 : Hid (B ≤ wr.heap.size) := Lib.hid (Nat.le_trans HB.out hbw.size)
        clear hm hold hkk hbw
        obtain ⟨W3, rfl⟩ : ∃ W : World, W = wr := ⟨wr, rfl⟩
        have HPI : Hid (((L q).set p ⟨9, .slice A3 (n + j) c3, n + j, (strV (mTs q 0 (n + j)))⟩ ++ [⟨23, .slice Ao q co, q, gs⟩])[p]? = some ⟨9, .slice A3 (n + j) c3, n + j, (strV (mTs q 0 (n + j)))⟩) := Lib.hid (get_push (get_set_self HPOS.out _))
        have hjI : (j : Int) ≤ 12 := by omega
        by_cases hjn : j < 12
        · go_wp2_with fail
          refine (markT_any q (n + j) 1 _ (by omega) (by omega)).mono ?_
          rintro e w4 ⟨v4, rfl, ho4, hg4⟩
          obtain ⟨g4, cap4, rfl, _, _⟩ := ho4.form (by omega)
          have HO4 := Lib.hid ho4
          have HM4 := Lib.hid (HM3.out.old hg4)
          have HOLD4 := Lib.hid (HOLD.out.old hg4)
          have HK4 := Lib.hid (HK3.out.old hg4)
          have HBB4 := Lib.hid (below_grown HB3.out hg4 HB4.out (by simp))
          have HSZ4 : Hid (B ≤ w4.heap.size) := Lib.hid (Nat.le_trans HB4.out hg4.size)
          clear ho4 hg4
          go_wp2_with (at_builtin
                       refine wpList_append_stay rfl (.tmp 27) (.tmp 31) _ rfl B 9 i0 _ 16 Tryz.underlying23 hi0 hz0 hz1 hz2 rfl (.slice A3 (n + j) c3) (n + j) (strV (mTs q 0 (n + j))) rfl (HM4.out.own p _ HPI.out) ⟨g4, 0, none⟩ 1 cap4 (strV (mTs q (n + j) 1)) rfl (by simp [strV, mTs_len]) (HO4.out.cells rfl) (one_strs _) (by unfold maxLen; omega) (by omega) HSZ4.out ?_
                       intro v5 w5 hown5 hg5 hat5 hkeep5
                       obtain ⟨A5, c5, rfl⟩ := own_form hown5
                       have HO5 := Lib.hid hown5
                       have HG5 := Lib.hid hg5
                       have HAT5 := Lib.hid hat5
                       have HKEEP5 := Lib.hid hkeep5
                       clear hown5 hg5 hat5 hkeep5)
          have hmk : (strV (mTs q 0 (n + j))) ++ strV (mTs q (n + j) 1) = (strV (mTs q 0 (n + (j + 1)))) := by
            have h := mTs_app q 0 (n + j) 1
            rw [Nat.zero_add] at h
            rw [← Nat.add_assoc, ← h]
            simp [strV]
          have HM5 := Lib.hid (HM4.out.put (b := ⟨9, .slice A5 (n + (j + 1)) c5, n + (j + 1), (strV (mTs q 0 (n + (j + 1))))⟩) HPI.out HG5.out (by
            have h := HO5.out
            rw [hmk] at h
            exact h) HAT5.out)
          have ho9 : w4.ownsRow B 9 1 (.slice A3 (n + j) c3) (n + j) (strV (mTs q 0 (n + j))) := HM4.out.own p _ HPI.out
          have HK5 := Lib.hid (HK4.out.row ho9 (show (9 : Nat) ≠ 76 by decide) HG5.out)
          have HB5 := Lib.hid (below_grown HBB4.out HG5.out HSZ4.out (own_ge ho9))
          have HOLD5 : Hid ((⟨9, .slice A1 n c1, n, (strV (mTs q 0 n))⟩ : Row).at B w5) := Lib.hid (HKEEP5.out _ _ _ HOLD4.out (fun _ => show n ≤ n + j by omega))
          have hm5 := HM5.out
          rw [List.set_append_left _ _ (by rw [List.length_set]; exact get_lt HPOS.out), List.set_set] at hm5
          have HM6 := Lib.hid hm5
          clear hmk ho9 hm5
          go_roundw
          case rel => exact ⟨j + 1, A5, c5, rfl, by go_num, by omega, HM6.out, HOLD5.out, HK5.out, HB5.out⟩
          case measure => simp [intOf]; omega
        · have hj12 : j = 12 := by omega
          subst hj12
          go_wp2_with fail
          refine (markT_any q (n + 12) 60 _ (by omega) (by omega)).mono ?_
          rintro e w4 ⟨v4, rfl, ho4, hg4⟩
          obtain ⟨g4, cap4, rfl, _, _⟩ := ho4.form (by omega)
          have HO4 := Lib.hid ho4
          have HM4 := Lib.hid (HM3.out.old hg4)
          have HOLD4 := Lib.hid (HOLD.out.old hg4)
          have HK4 := Lib.hid (HK3.out.old hg4)
          have HBB4 := Lib.hid (below_grown HB3.out hg4 HB4.out (by simp))
          have HSZ4 : Hid (B ≤ w4.heap.size) := Lib.hid (Nat.le_trans HB4.out hg4.size)
          clear ho4 hg4
          have HOUT : Hid (w4.ownsRow B 23 1 (.slice Ao q co) q gs) := Lib.hid (HM4.out.own (L q).length ⟨23, .slice Ao q co, q, gs⟩ (by have h := get_last ((L q).set p ⟨9, .slice A3 (n + 12) c3, n + 12, (strV (mTs q 0 (n + 12)))⟩) ⟨23, .slice Ao q co, q, gs⟩; rw [List.length_set] at h; exact h))
          have HNE : Hid (p ≠ (L q).length) := Lib.hid (by have := get_lt HPOS.out; omega)
          have HOO : Hid ((⟨23, .slice Ao q co, q, gs⟩ : Row).off ⟨9, .slice A3 (n + 12) c3, n + 12, (strV (mTs q 0 (n + 12)))⟩) := Lib.hid (HM4.out.off (L q).length p _ _ (Ne.symm HNE.out) (by have h := get_last ((L q).set p ⟨9, .slice A3 (n + 12) c3, n + 12, (strV (mTs q 0 (n + 12)))⟩) ⟨23, .slice Ao q co, q, gs⟩; rw [List.length_set] at h; exact h) HPI.out)
          go_wp2_with (at_builtin
                       first
                         | (refine wpList_append_stay rfl (.tmp 34) (.tmp 38) _ rfl B 9 i0 _ 16 Tryz.underlying23 hi0 hz0 hz1 hz2 rfl (.slice A3 (n + 12) c3) (n + 12) (strV (mTs q 0 (n + 12))) rfl (HM4.out.own p _ HPI.out) ⟨g4, 0, none⟩ 60 cap4 (strV (mTs q (n + 12) 60)) rfl (by simp [strV, mTs_len]) (HO4.out.cells rfl) (one_strs _) (by unfold maxLen; omega) (by omega) HSZ4.out ?_; intro v5 w5 hown5 hg5 hat5 hkeep5; obtain ⟨A5, c5, rfl⟩ := own_form hown5; have HO5 := Lib.hid hown5; have HG5 := Lib.hid hg5; have HAT5 := Lib.hid hat5; have HKEEP5 := Lib.hid hkeep5; have HSZ5 : Hid (B ≤ w5.heap.size) := Lib.hid (Nat.le_trans HSZ4.out hg5.size); have HOUT5 : Hid (w5.ownsRow B 23 1 (.slice Ao q co) q gs) := Lib.hid (HOUT.out.kept hg5 HOO.out); clear hown5 hg5 hat5 hkeep5)
                         | (refine wpList_append_own_at _ rfl (.tmp 33) (.tmp 40) _ rfl B 23 j0 _ 1 24 Tryz.underlying58 hj0 hy0 hy1 hy2 rfl (by omega) (.slice Ao q co) q gs rfl (HOUT5.out.alloc _) ⟨w5.heap.size, 0, none⟩ 1 1 [.slice A5 (n + 12 + 60) c5] rfl rfl (cell_one_new _ _ _) (by simp [Value.oneCell']) (by unfold maxLen; omega) (by omega) (by have := HSZ5.out; simp; omega) ?_; intro v6 w6 hown6 hg6 _ hat6; obtain ⟨A6, c6, rfl⟩ := own_form hown6; have HO6 := Lib.hid hown6; have HG6 := Lib.hid hg6; have HAT6 := Lib.hid hat6; clear hown6 hg6 hat6))
          have hmk : (strV (mTs q 0 (n + 12))) ++ strV (mTs q (n + 12) 60) = (strV (mTs q 0 (n + 72))) := by
            have h := mTs_app q 0 (n + 12) 60
            rw [Nat.zero_add] at h
            rw [show n + 72 = n + 12 + 60 from rfl, ← h]
            simp [strV]
          have hm5 := HM4.out.put (b := ⟨9, .slice A5 (n + 72) c5, n + 72, (strV (mTs q 0 (n + 72)))⟩) HPI.out HG5.out (by
            have h := HO5.out
            rw [hmk] at h
            exact h) HAT5.out
          rw [List.set_append_left _ _ (by rw [List.length_set]; exact get_lt HPOS.out), List.set_set] at hm5
          have hm5a := hm5.old (World.grownBy_alloc w5 (.cells #[.slice A5 (n + 12 + 60) c5] 23) none)
          have hlast := get_last ((L q).set p ⟨9, .slice A5 (n + 72) c5, n + 72, (strV (mTs q 0 (n + 72)))⟩) ⟨23, .slice Ao q co, q, gs⟩
          have hm6 := hm5a.put (b := ⟨23, .slice A6 (q + 1) c6, q + 1, gs ++ [Value.slice A5 (n + 72) c5]⟩) hlast HG6.out HO6.out HAT6.out
          rw [set_last] at hm6
          have hold5 : (⟨9, .slice A1 n c1, n, (strV (mTs q 0 n))⟩ : Row).at B w5 := HKEEP5.out _ _ _ HOLD4.out (fun _ => show n ≤ n + 12 by omega)
          have hold5a := hold5.old (World.grownBy_alloc w5 (.cells #[.slice A5 (n + 12 + 60) c5] 23) none)
          have hoffL : (⟨23, .slice Ao q co, q, gs⟩ : Row).off ⟨9, .slice A1 n c1, n, (strV (mTs q 0 n))⟩ := HOFF.out (L q).length _ (Ne.symm HNE.out) (get_last (L q) _)
          have hold6 : (⟨9, .slice A1 n c1, n, (strV (mTs q 0 n))⟩ : Row).at B w6 := hold5a.kept HG6.out hoffL.symm
          have hpi6 : ((L q).set p ⟨9, .slice A5 (n + 72) c5, n + 72, (strV (mTs q 0 (n + 72)))⟩ ++ [⟨23, .slice A6 (q + 1) c6, q + 1, gs ++ [Value.slice A5 (n + 72) c5]⟩])[p]? = some ⟨9, .slice A5 (n + 72) c5, n + 72, (strV (mTs q 0 (n + 72)))⟩ := get_push (get_set_self HPOS.out _)
          have hm7 := hm6.drop p 9 (rs := [⟨9, .slice A1 n c1, n, (strV (mTs q 0 n))⟩, ⟨9, .slice A5 (n + 72) c5, n + 72, (strV (mTs q 0 (n + 72)))⟩]) (by
            intro b hb
            simp only [List.mem_cons, List.not_mem_nil, or_false] at hb
            rcases hb with rfl | rfl
            · refine ⟨hold6, fun j a hj ha => ?_⟩
              by_cases hjl : j < (L q).length
              · rw [List.getElem?_append_left (by rw [List.length_set]; exact hjl), List.getElem?_set_ne (Ne.symm hj)] at ha
                exact HOFF.out j a hj (get_push ha)
              · rw [List.getElem?_append_right (by rw [List.length_set]; omega)] at ha
                have hm := List.mem_of_getElem? ha
                simp only [List.mem_cons, List.not_mem_nil, or_false] at hm
                subst hm
                rcases HAT6.out with h | h
                · rcases hoffL with h2 | h2
                  · exact .inl (h.trans h2)
                  · exact .inr (by rw [show (⟨23, .slice A6 (q + 1) c6, q + 1, gs ++ [Value.slice A5 (n + 72) c5]⟩ : Row).v.ownBlock = _ from h]; exact h2)
                · refine .inr ?_
                  rw [show (⟨23, .slice A6 (q + 1) c6, q + 1, gs ++ [Value.slice A5 (n + 72) c5]⟩ : Row).v.ownBlock = _ from h]
                  intro e
                  have h3 := (at_lt hold5a e.symm).2
                  omega
            · exact ⟨hm6.own p _ hpi6, fun j a hj ha => hm6.off j p a _ hj ha hpi6⟩)
          rw [List.set_append_left _ _ (by rw [List.length_set]; exact get_lt HPOS.out), List.set_set, ← HNX.out] at hm7
          have HM7 := Lib.hid hm7
          have hk5 := HK4.out.row (show w4.ownsRow B 9 1 (.slice A3 (n + 12) c3) (n + 12) (strV (mTs q 0 (n + 12))) from HM4.out.own p _ HPI.out) (show (9 : Nat) ≠ 76 by decide) HG5.out
          have HK6 := Lib.hid ((hk5.old (World.grownBy_alloc w5 (.cells #[.slice A5 (n + 12 + 60) c5] 23) none)).row (HOUT5.out.alloc (.cells #[.slice A5 (n + 12 + 60) c5] 23)) (show (23 : Nat) ≠ 76 by decide) HG6.out)
          have hb5 := below_grown HBB4.out HG5.out HSZ4.out (own_ge (show w4.ownsRow B 9 1 (.slice A3 (n + 12) c3) (n + 12) (strV (mTs q 0 (n + 12))) from HM4.out.own p _ HPI.out))
          have HB6 := Lib.hid (below_grown (hb5.alloc HSZ5.out (.cells #[.slice A5 (n + 12 + 60) c5] 23)) HG6.out (by have := HSZ5.out; simp; omega) (own_ge HOUT.out))
          have HGL : Hid (gs.length = q) := Lib.hid (by have := HOUT.out.1; omega)
          have hn7 : NoBk (L (q + 1) ++ [⟨23, .slice A6 (q + 1) c6, q + 1, gs ++ [Value.slice A5 (n + 72) c5]⟩]) ([⟨9, .slice A1 n c1, n, (strV (mTs q 0 n))⟩, ⟨9, .slice A5 (n + 72) c5, n + 72, (strV (mTs q 0 (n + 72)))⟩] ++ r') := by
            refine ⟨fun j a ha => ?_, fun b hb => ?_⟩
            · by_cases hjl : j < (L (q + 1)).length
              · rw [List.getElem?_append_left hjl, HNX.out, List.getElem?_set] at ha
                split at ha
                · split at ha
                  · cases ha; exact (show (9 : Nat) ≠ 76 by decide)
                  · cases ha
                · exact HNB.out.1 j a (get_push ha)
              · rw [List.getElem?_append_right (by omega)] at ha
                have hm := List.mem_of_getElem? ha
                simp only [List.mem_cons, List.not_mem_nil, or_false] at hm
                subst hm
                exact (show (23 : Nat) ≠ 76 by decide)
            · rcases List.mem_append.1 hb with hb | hb
              · simp only [List.mem_cons, List.not_mem_nil, or_false] at hb
                rcases hb with rfl | rfl
                · exact (show (9 : Nat) ≠ 76 by decide)
                · exact (show (9 : Nat) ≠ 76 by decide)
              · exact HNB.out.2 b hb
          have HN7 := Lib.hid hn7
          have HG7 : Hid (∀ t, t < q + 1 → GrownTexts ls (gs ++ [Value.slice A5 (n + 72) c5]) ([⟨9, .slice A1 n c1, n, (strV (mTs q 0 n))⟩, ⟨9, .slice A5 (n + 72) c5, n + 72, (strV (mTs q 0 (n + 72)))⟩] ++ r') t) := Lib.hid (fun t ht => by
            by_cases htq : t < q
            · obtain ⟨n', B1, d1, B2, d2, h1, h2, h3, h4, h5⟩ := HGR.out t htq
              exact ⟨n', B1, d1, B2, d2, h1, by rw [List.getElem?_append_left (by have := HGL.out; omega)]; exact h2, h3, List.mem_append_right _ h4, List.mem_append_right _ h5⟩
            · have htt : t = q := by omega
              subst htt
              exact ⟨n, A1, c1, A5, c5, HLS.out, by rw [List.getElem?_append_right (by have := HGL.out; omega), HGL.out, Nat.sub_self]; rfl, HNN.out, by simp, by simp⟩)
          clear hmk hm5 hm5a hlast hm6 hold5 hold5a hoffL hold6 hpi6 hm7 hk5 hb5 hn7
          go_wp2_with fail
          go_roundw
          case rel => exact ⟨q + 1, by go_num, by omega, _, _, A6, c6, rfl, HM7.out, HK6.out, HB6.out, fun b hb => List.mem_append_right _ (HRR.out b hb), HN7.out, HG7.out⟩
          case measure => simp [intOf]; omega
    · have HPE : Hid (∃ r' gs Ao co, GrowTextsAt B K cs (L k) r ls k (.slice Ao k co) w W1 r' gs Ao co) := Lib.hid (by
        have hqq : q = k := by omega
        subst hqq
        exact ⟨r', gs, Ao, co, rfl, HM.out, HKK.out, HBW.out, HRR.out, HNB.out, HGR.out⟩)
      have hqq : q = k := by omega
      subst hqq
      go_wp2_with fail
      refine bodyPost_ret (results_tmp rfl _ _ _) rfl ?_
      exact ⟨_, r', gs, Ao, co, rfl, rfl, HM.out, HKK.out, HBW.out, HRR.out, HNB.out, HGR.out⟩
end Go.Proofs.YthlpdficpmdebaaGreat.Wire
