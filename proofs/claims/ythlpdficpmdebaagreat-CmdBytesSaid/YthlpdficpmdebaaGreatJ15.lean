/- complineref28.Check: the document's walk. -/
import Derived.Test.YthlpdficpmdebaaGreatByShape
import Derived.Test.YthlpdficpmdebaaGreatJ8
import Derived.BigQuiet
import Derived.Test.YthlpdficpmdebaaGreatJ10
import Derived.Test.YthlpdficpmdebaaGreatJ13
namespace Go.Proofs.YthlpdficpmdebaaGreat.Wire
open Go Go.RowKit Go.Lib Gv
/-- The document's Check, its row told. -/
def chkR (kind : Int) (party : ByteArray) (nums : List Int) (n m : Nat) (ta fb mc : Int) (tr : List Int) (wh : Int) : Int :=
  if wh = 0 ∨ (m : Int) ≠ ta ∨ (n : Int) < fb ∨ mc < (n : Int) ∨ (kind = 15 ∧ (n : Int) % 3 ≠ 0) then 1 else if anyB nums tr = true then 1
  else if (wh = 1 ∧ decide (party.toList = [66, 65, 78, 75]) = false) ∨ (wh = 2 ∧ (decide (party.toList = [66, 65, 78, 75]) = true ∨ decide (party.toList = []) = true)) then 22 else 0
theorem any_take (nums tr : List Int) (j : Nat) (hj : j < tr.length) : anyB nums (tr.take (j + 1)) = (anyB nums (tr.take j) || badB (nums.getD tr[j].toNat 0)) := by
  exact any_step _ tr j hj
set_option maxRecDepth 20000 in
set_option maxHeartbeats 4000000 in
theorem checkD_any (kind : Int) (party : ByteArray) (A : Option Addr) (n c : Nat) (nums : List Int) (A' : Option Addr) (m c' : Nat) (hk : okI kind) (hn : nums.length = n) (hn2 : n ≤ maxLen) (hm2 : m ≤ maxLen) (w : World) (hx : IntsAt w A nums) :
    Calls Tryz.prog 15 #[.agg #[.int .i64 kind, .string party, .slice A n c, .slice A' m c']] w (CheckPost (chkD kind party nums n m) w) := by
  have hshape := shapeD_of kind hk
  have hgood := shD_good kind
  obtain ⟨E, hE⟩ : ∃ E, chkD kind party nums n m = E := ⟨_, rfl⟩
  rw [hE]
  unfold chkD at hE
  obtain ⟨⟨ta, fb, mc, tr, wh⟩, hrow⟩ : ∃ r, shD kind = r := ⟨_, rfl⟩
  rw [hrow] at hshape hgood hE
  obtain ⟨hg1, hg2, hg3⟩ := hgood
  dsimp only at hE hg1 hg2 hg3
  have HSH := Lib.hid hshape
  have HE : Hid (chkR kind party nums n m ta fb mc tr wh = E) := Lib.hid hE
  have HG3 := Lib.hid hg3
  have HX := Lib.hid hx
  have HN := Lib.hid hn
  have HN2 := Lib.hid hn2
  have HM2 := Lib.hid hm2
  have HG2 := Lib.hid hg2
  have HG1 := Lib.hid hg1
  clear hshape hE hrow hg3 hx hn hn2 hm2 hk hg2 hg1
  go_enter Tryz.func15, Tryz.ntmps15
  go_wp2_with fail
  refine (HSH.out _).mono ?_
  rintro e w1 ⟨T, tc, rfl, hi1, hb1⟩
  dsimp only at hi1 ⊢
  have hbx : w1.heap[w.heap.size]? = some (cmdBoxD kind party A n c A' m c') := box_at hb1
  obtain ⟨k0, k1, k2, k3⟩ := cmdBoxD_cells hbx
  have HB1 : Hid (Below w.heap.size w w1) := Lib.hid (((Below.refl _ w).alloc (Nat.le_refl _) _).trans (hb1.mono (by simp)))
  have HX1 : Hid (IntsAt w1 A nums) := Lib.hid ((HX.out.grown (World.grownBy_alloc w _ none)).grown (only_of_below hb1 none))
  have HI1 := Lib.hid hi1
  clear hi1 hb1 hbx
  have one : (wh = 0 ∨ (m : Int) ≠ ta ∨ (n : Int) < fb ∨ mc < (n : Int) ∨ (kind = 15 ∧ (n : Int) % 3 ≠ 0)) → Ending.returned (.int .i64 1) = Ending.returned (.int .i64 E) := fun h => by
    rw [← HE.out, chkR, if_pos h]
  have ONE := Lib.hid one
  clear one
  by_cases h1 : wh = 0
  · subst h1
    go_wp2_with fail
    refine bodyPost_ret (results_tmp rfl _ _ _) rfl ?_
    exact ⟨ONE.out (.inl (by first | trivial | rfl)), HB1.out⟩
  have e1 : (wh == 0) = false := by simpa using h1
  have H1 := Lib.hid h1
  clear h1
  by_cases h2 : (m : Int) ≠ ta
  · have e2 : ((m : Int) != ta) = true := by rw [bne_iff_ne]; exact h2
    have H2 := Lib.hid h2
    clear h2
    go_wp2_with fail
    refine bodyPost_ret (results_tmp rfl _ _ _) rfl ?_
    exact ⟨ONE.out (.inr (.inl H2.out)), HB1.out⟩
  have e2 : ((m : Int) != ta) = false := by simpa using h2
  clear h2
  by_cases h3 : (n : Int) < fb
  · go_wp2_with fail
    refine bodyPost_ret (results_tmp rfl _ _ _) rfl ?_
    exact ⟨ONE.out (.inr (.inr (.inl h3))), HB1.out⟩
  by_cases h4 : mc < (n : Int)
  · go_wp2_with fail
    refine bodyPost_ret (results_tmp rfl _ _ _) rfl ?_
    exact ⟨ONE.out (.inr (.inr (.inr (.inl h4)))), HB1.out⟩
  by_cases h5 : kind = 15 ∧ (n : Int) % 3 ≠ 0
  · obtain ⟨rfl, h6⟩ := h5
    have e6 : ((n : Int) % 3 != 0) = true := by rw [bne_iff_ne]; exact h6
    have H6 := Lib.hid h6
    clear h6
    go_wp2_with fail
    refine bodyPost_ret (results_tmp rfl _ _ _) rfl ?_
    exact ⟨ONE.out (.inr (.inr (.inr (.inr ⟨by first | trivial | rfl, H6.out⟩)))), HB1.out⟩
  have HNO : Hid (¬ (wh = 0 ∨ (m : Int) ≠ ta ∨ (n : Int) < fb ∨ mc < (n : Int) ∨ (kind = 15 ∧ (n : Int) % 3 ≠ 0))) := Lib.hid (by
    rintro (h | h | h | h | h)
    · exact H1.out h
    · have := bne_iff_ne.2 h; rw [e2] at this; cases this
    · exact h3 h
    · exact h4 h
    · exact h5 h)
  have hfb : fb ≤ (n : Int) := by omega
  have HFB := Lib.hid hfb
  clear hfb ONE
  have HCK : Hid ((if anyB nums tr = true then (1 : Int) else if (wh = 1 ∧ decide (party.toList = [66, 65, 78, 75]) = false) ∨ (wh = 2 ∧ (decide (party.toList = [66, 65, 78, 75]) = true ∨ decide (party.toList = []) = true)) then (22 : Int) else 0) = E) := Lib.hid (by
    rw [← HE.out, chkR, if_neg HNO.out])
  clear HNO HE
  by_cases hk15 : kind = 15
  · subst hk15
    have h6 : (n : Int) % 3 = 0 := by
      by_cases h : (n : Int) % 3 = 0
      · exact h
      · exact absurd ⟨rfl, h⟩ h5
    have e6 : ((n : Int) % 3 != 0) = false := by rw [h6]; rfl
    clear h5 h6
    go_wp2_with fail
    go_loopw [8] (fun i wr => ∃ (j d : Nat), i = .int .i64 j ∧ j ≤ tr.length ∧ wr = w1.drewN d ∧ anyB nums (tr.take j) = false) (fun i _ => tr.length - (intOf i).toNat)
    case atStart => exact ⟨0, 0, rfl, Nat.zero_le _, rfl, rfl⟩
    case round =>
      obtain ⟨j, d, rfl, hj, rfl, hany⟩ := hrel
      have HANY := Lib.hid hany
      clear hany
      by_cases hlt : j < tr.length
      · have hl3 : tr.length ≤ 3 := HG2.out
        obtain ⟨adT, rfl, hcT⟩ := HI1.out (by intro e0; rw [e0] at hlt; simp at hlt)
        have hc1 := hcT j _ (List.getElem?_eq_getElem hlt)
        obtain ⟨ht1, ht2⟩ := HG3.out _ (List.getElem_mem hlt)
        have HSTEP := Lib.hid (any_take nums tr j hlt)
        have HMEM := Lib.hid (List.getElem_mem hlt)
        generalize tr[j] = tj at hc1 ht1 ht2 HSTEP HMEM
        obtain ⟨tN, rfl⟩ : ∃ tN : Nat, tj = tN := ⟨tj.toNat, by omega⟩
        have hfb2 := HFB.out
        have htn : tN < nums.length := by have := HN.out; omega
        obtain ⟨adA, rfl, hcA⟩ := HX1.out (by intro e0; rw [e0] at htn; simp at htn)
        have hc2 := hcA tN _ (List.getElem?_eq_getElem htn)
        have hget : nums.getD (tN : Int).toNat 0 = nums[tN] := by simp [List.getD_eq_getElem?_getD, htn]
        have HGET := Lib.hid hget
        have htI : (tN : Int) < n := by have := HN.out; omega
        have hj0 : (0 : Int) ≤ j := by omega
        have hj1 : (j : Int) < tr.length := by omega
        generalize nums[tN] = x at hc2 HGET
        clear hcT hcA htn hget ht2 hfb2
        by_cases hx : x = 0 ∨ x = 1
        · have hb : badB x = false := by rcases hx with rfl | rfl <;> rfl
          have HNEXT : Hid (anyB nums (tr.take (j + 1)) = false) := Lib.hid (by rw [HSTEP.out, HANY.out, HGET.out, hb]; rfl)
          clear hb
          rcases hx with rfl | rfl
          all_goals
            go_wp2_with fail
            go_quiet (fail)
            go_wp2_with fail
            go_roundw
            case rel => exact ⟨j + 1, _, by go_num, by omega, rfl, HNEXT.out⟩
            case measure => simp [intOf]; omega
        · have hx0 : (x != 0) = true := by rw [bne_iff_ne]; omega
          have hx1 : (x != 1) = true := by rw [bne_iff_ne]; omega
          have hxa : ¬ x = 0 := by omega
          have hxb : ¬ x = 1 := by omega
          have HBAD : Hid (anyB nums tr = true) := Lib.hid (by
            unfold anyB
            rw [List.any_eq_true]
            exact ⟨_, HMEM.out, by rw [HGET.out]; simp [badB, hxa, hxb]⟩)
          clear hx
          go_wp2_with fail
          go_quiet (fail)
          go_wp2_with fail
          refine bodyPost_ret (results_tmp rfl _ _ _) rfl ?_
          refine ⟨?_, below_drewN' (below_drewN' HB1.out _) _⟩
          rw [← HCK.out, if_pos HBAD.out]
          rfl
      · have HALL : Hid (anyB nums tr = false) := Lib.hid (by
          have h := HANY.out
          rw [List.take_of_length_le (by omega)] at h
          exact h)
        have HE2 : Hid ((if (wh = 1 ∧ decide (party.toList = [66, 65, 78, 75]) = false) ∨ (wh = 2 ∧ (decide (party.toList = [66, 65, 78, 75]) = true ∨ decide (party.toList = []) = true)) then (22 : Int) else 0) = E) := Lib.hid (by
          rw [← HCK.out, if_neg (show ¬ anyB nums tr = true by rw [HALL.out]; simp)])
        go_wp2_with fail
        all_goals
          refine bodyPost_ret (results_tmp rfl _ _ _) rfl ?_
          refine ⟨?_, below_drewN' HB1.out _⟩
          rw [← HE2.out]
          simp_all
  · have e5 : (kind == 15) = false := by simpa using hk15
    have H15 := Lib.hid hk15
    clear h5 hk15
    go_wp2_with fail
    go_loopw [8] (fun i wr => ∃ (j d : Nat), i = .int .i64 j ∧ j ≤ tr.length ∧ wr = w1.drewN d ∧ anyB nums (tr.take j) = false) (fun i _ => tr.length - (intOf i).toNat)
    case atStart => exact ⟨0, 0, rfl, Nat.zero_le _, rfl, rfl⟩
    case round =>
      obtain ⟨j, d, rfl, hj, rfl, hany⟩ := hrel
      have HANY := Lib.hid hany
      clear hany
      by_cases hlt : j < tr.length
      · have hl3 : tr.length ≤ 3 := HG2.out
        obtain ⟨adT, rfl, hcT⟩ := HI1.out (by intro e0; rw [e0] at hlt; simp at hlt)
        have hc1 := hcT j _ (List.getElem?_eq_getElem hlt)
        obtain ⟨ht1, ht2⟩ := HG3.out _ (List.getElem_mem hlt)
        have HSTEP := Lib.hid (any_take nums tr j hlt)
        have HMEM := Lib.hid (List.getElem_mem hlt)
        generalize tr[j] = tj at hc1 ht1 ht2 HSTEP HMEM
        obtain ⟨tN, rfl⟩ : ∃ tN : Nat, tj = tN := ⟨tj.toNat, by omega⟩
        have hfb2 := HFB.out
        have htn : tN < nums.length := by have := HN.out; omega
        obtain ⟨adA, rfl, hcA⟩ := HX1.out (by intro e0; rw [e0] at htn; simp at htn)
        have hc2 := hcA tN _ (List.getElem?_eq_getElem htn)
        have hget : nums.getD (tN : Int).toNat 0 = nums[tN] := by simp [List.getD_eq_getElem?_getD, htn]
        have HGET := Lib.hid hget
        have htI : (tN : Int) < n := by have := HN.out; omega
        have hj0 : (0 : Int) ≤ j := by omega
        have hj1 : (j : Int) < tr.length := by omega
        generalize nums[tN] = x at hc2 HGET
        clear hcT hcA htn hget ht2 hfb2
        by_cases hx : x = 0 ∨ x = 1
        · have hb : badB x = false := by rcases hx with rfl | rfl <;> rfl
          have HNEXT : Hid (anyB nums (tr.take (j + 1)) = false) := Lib.hid (by rw [HSTEP.out, HANY.out, HGET.out, hb]; rfl)
          clear hb
          rcases hx with rfl | rfl
          all_goals
            go_wp2_with fail
            go_quiet (fail)
            go_wp2_with fail
            go_roundw
            case rel => exact ⟨j + 1, _, by go_num, by omega, rfl, HNEXT.out⟩
            case measure => simp [intOf]; omega
        · have hx0 : (x != 0) = true := by rw [bne_iff_ne]; omega
          have hx1 : (x != 1) = true := by rw [bne_iff_ne]; omega
          have hxa : ¬ x = 0 := by omega
          have hxb : ¬ x = 1 := by omega
          have HBAD : Hid (anyB nums tr = true) := Lib.hid (by
            unfold anyB
            rw [List.any_eq_true]
            exact ⟨_, HMEM.out, by rw [HGET.out]; simp [badB, hxa, hxb]⟩)
          clear hx
          go_wp2_with fail
          go_quiet (fail)
          go_wp2_with fail
          refine bodyPost_ret (results_tmp rfl _ _ _) rfl ?_
          refine ⟨?_, below_drewN' (below_drewN' HB1.out _) _⟩
          rw [← HCK.out, if_pos HBAD.out]
          rfl
      · have HALL : Hid (anyB nums tr = false) := Lib.hid (by
          have h := HANY.out
          rw [List.take_of_length_le (by omega)] at h
          exact h)
        have HE2 : Hid ((if (wh = 1 ∧ decide (party.toList = [66, 65, 78, 75]) = false) ∨ (wh = 2 ∧ (decide (party.toList = [66, 65, 78, 75]) = true ∨ decide (party.toList = []) = true)) then (22 : Int) else 0) = E) := Lib.hid (by
          rw [← HCK.out, if_neg (show ¬ anyB nums tr = true by rw [HALL.out]; simp)])
        go_wp2_with fail
        all_goals
          refine bodyPost_ret (results_tmp rfl _ _ _) rfl ?_
          refine ⟨?_, below_drewN' HB1.out _⟩
          rw [← HE2.out]
          simp_all
end Go.Proofs.YthlpdficpmdebaaGreat.Wire
/- The law's own helpers: Plain, sameCmd, sameReply. -/
namespace Go.Proofs.YthlpdficpmdebaaGreat.Wire
open Go Go.RowKit Go.Lib
set_option maxRecDepth 20000 in
set_option maxHeartbeats 1000000 in
theorem plain_any (kind : Int) (party : ByteArray) (A : Option Addr) (n c : Nat) (A' : Option Addr) (m c' : Nat) (w : World) :
    Calls Tryz.prog 10 #[.agg #[.int .i64 kind, .string party, .slice A n c, .slice A' m c']] w fun en w' => en = .returned (.agg #[.int .i64 kind, .string party, .slice A n c, .slice A' m c']) ∧ Below w.heap.size w w' := by
  go_enter Tryz.func10, Tryz.ntmps10
  go_wp2_with fail
  refine bodyPost_ret (v := .agg #[.int .i64 kind, .string party, .slice A n c, .slice A' m c']) (by simp [results, Tryz.results10, go_sem]) rfl ?_
  exact ⟨rfl, ((Below.refl _ w).alloc (Nat.le_refl _) _).alloc (by simp) _⟩
set_option maxRecDepth 20000 in
set_option maxHeartbeats 1000000 in
theorem sameCmd_any (kind : Int) (party : ByteArray) (A B : Option Addr) (n c d : Nat) (A' B' : Option Addr) (m c' d' : Nat) (nums : List Int) (texts : List ByteArray) (w : World)
    (h1 : IntsAt w A nums) (h2 : IntsAt w B nums) (h3 : TextsAt w A' texts) (h4 : TextsAt w B' texts) (hn : nums.length = n) (hm : texts.length = m) (hn2 : n ≤ 2000) (hm2 : m ≤ 100) :
    Calls Tryz.prog 13 #[.agg #[.int .i64 kind, .string party, .slice A n c, .slice A' m c'], .agg #[.int .i64 kind, .string party, .slice B n d, .slice B' m d']] w
      fun en w' => en = .returned (.bool true) ∧ Below w.heap.size w w' := by
  have H1 := Lib.hid h1
  have H2 := Lib.hid h2
  have H3 := Lib.hid h3
  have H4 := Lib.hid h4
  have HN := Lib.hid hn
  have HM := Lib.hid hm
  clear h1 h2 h3 h4 hn hm
  go_enter Tryz.func13, Tryz.ntmps13
  go_wp2_with fail
  refine (sameInts_any A B n c d nums _ ((H1.out.grown (World.grownBy_alloc w _ none)).grown (World.grownBy_alloc _ _ none)) ((H2.out.grown (World.grownBy_alloc w _ none)).grown (World.grownBy_alloc _ _ none)) HN.out (by omega)).mono ?_
  rintro e w1 ⟨rfl, m1, rfl⟩
  go_wp2_with fail
  refine (sameTexts_any A' B' m c' d' texts _ (((H3.out.grown (World.grownBy_alloc w _ none)).grown (World.grownBy_alloc _ _ none)).drewN m1) (((H4.out.grown (World.grownBy_alloc w _ none)).grown (World.grownBy_alloc _ _ none)).drewN m1) HM.out (by omega)).mono ?_
  rintro e w2 ⟨rfl, m2, rfl⟩
  go_wp2_with fail
  go_ret
  exact ⟨rfl, below_drewN' (((Below.refl _ w).alloc (Nat.le_refl _) _).alloc (by simp) _) _⟩
set_option maxRecDepth 20000 in
set_option maxHeartbeats 1000000 in
theorem sameReply_any (err : Int) (A B : Option Addr) (n c d : Nat) (A' B' : Option Addr) (m c' d' : Nat) (nums : List Int) (texts : List ByteArray) (w : World)
    (h1 : IntsAt w A nums) (h2 : IntsAt w B nums) (h3 : TextsAt w A' texts) (h4 : TextsAt w B' texts) (hn : nums.length = n) (hm : texts.length = m) (hn2 : n ≤ 2000) (hm2 : m ≤ 100) :
    Calls Tryz.prog 26 #[.agg #[.int .i64 err, .slice A n c, .slice A' m c'], .agg #[.int .i64 err, .slice B n d, .slice B' m d']] w
      fun en w' => en = .returned (.bool true) ∧ Below w.heap.size w w' := by
  have H1 := Lib.hid h1
  have H2 := Lib.hid h2
  have H3 := Lib.hid h3
  have H4 := Lib.hid h4
  have HN := Lib.hid hn
  have HM := Lib.hid hm
  clear h1 h2 h3 h4 hn hm
  go_enter Tryz.func26, Tryz.ntmps26
  go_wp2_with fail
  refine (sameInts_any A B n c d nums _ ((H1.out.grown (World.grownBy_alloc w _ none)).grown (World.grownBy_alloc _ _ none)) ((H2.out.grown (World.grownBy_alloc w _ none)).grown (World.grownBy_alloc _ _ none)) HN.out (by omega)).mono ?_
  rintro e w1 ⟨rfl, m1, rfl⟩
  go_wp2_with fail
  refine (sameTexts_any A' B' m c' d' texts _ (((H3.out.grown (World.grownBy_alloc w _ none)).grown (World.grownBy_alloc _ _ none)).drewN m1) (((H4.out.grown (World.grownBy_alloc w _ none)).grown (World.grownBy_alloc _ _ none)).drewN m1) HM.out (by omega)).mono ?_
  rintro e w2 ⟨rfl, m2, rfl⟩
  go_wp2_with fail
  go_ret
  exact ⟨rfl, below_drewN' (((Below.refl _ w).alloc (Nat.le_refl _) _).alloc (by simp) _) _⟩
end Go.Proofs.YthlpdficpmdebaaGreat.Wire
