/- complinelaw28.CmdBack returns true: what was put is got; with a byte more, or fewer, it is not. -/
import Derived.Test.YtfpaofeonlfnfaaGreatWireBack
import Derived.Test.YtfpaofeonlfnfaaGreatAlive28
namespace Go.Proofs.YtfpaofeonlfnfaaGreat.Wire
open Go Go.RowKit Go.Lib
theorem Rows2.to {w w1 : World} {B : Nat} {A : Option Addr} {n : Nat} {nums : List Int} {A' : Option Addr} {m : Nat} {texts : List ByteArray} (h : Rows2 w B A n nums A' m texts) (hb : Below B w w1) (hB : B ≤ w1.heap.size) : Rows2 w1 w1.heap.size A n nums A' m texts := h.below hb hB
theorem below_un {B : Nat} {a b : World} (h : Below B a.drew b) : Below B a b := ⟨h.os, h.tape, h.output, h.size, h.block⟩
theorem mo_pos {x : ByteArray} (h : x.toList.isEmpty = false) : 0 < x.size := by
  rcases Nat.eq_zero_or_pos x.size with h0 | h0
  · exfalso
    obtain ⟨d⟩ := x
    have hd : d = #[] := Array.eq_empty_of_size_eq_zero h0
    subst hd
    have e : (⟨#[]⟩ : ByteArray).toList = [] := by
      unfold ByteArray.toList
      unfold ByteArray.toList.loop
      simp [ByteArray.size]
    rw [e] at h
    exact absurd h (by decide)
  · exact h0
set_option maxRecDepth 20000 in
set_option maxHeartbeats 4000000 in
theorem cmdBack_in (kind : Int) (party : ByteArray) (A : Option Addr) (n c : Nat) (nums : List Int) (A' : Option Addr) (m c' : Nat) (texts : List ByteArray)
    (err : Int) (R : Option Addr) (rn rc : Nat) (rnums : List Int) (R' : Option Addr) (rm rc' : Nat) (rtexts : List ByteArray) (mo : ByteArray) (w : World)
    (hk : okI kind) (hp : party.size ≤ maxLen) (hn : n ≤ maxLen) (hm : m ≤ maxLen) (h1 : Rows2 w w.heap.size A n nums A' m texts) (hk2 : okI err) (h2 : Rows2 w w.heap.size R rn rnums R' rm rtexts) :
    Calls Tryz.prog 5 #[.agg #[.int .i64 kind, .string party, .slice A n c, .slice A' m c'], .agg #[.int .i64 err, .slice R rn rc, .slice R' rm rc'], .string mo] w (Gv.TrueBelow w) := by
  have HK := Lib.hid hk
  have HP := Lib.hid hp
  have HN := Lib.hid hn
  have HM := Lib.hid hm
  have H1 := Lib.hid h1
  have HK2 := Lib.hid hk2
  have H2 := Lib.hid h2
  clear hk hp hn hm h1 hk2 h2
  go_enter Tryz.func5, Tryz.ntmps5
  go_wp2_with fail
  refine (light_any (w.heap.size + 2) kind party A n c A' m c' texts _ HP.out HN.out HM.out (by
    have := heap_alloc_new ((w.alloc (cmdBox kind party A n c A' m c')).alloc (repBox err R rn rc R' rm rc')) (.cells #[.int .i64 kind, .string party, .slice A n c, .slice A' m c'] 65 (0, 0))
    have e2 : ((w.alloc (cmdBox kind party A n c A' m c')).alloc (repBox err R rn rc R' rm rc')).heap.size = w.heap.size + 2 := by simp
    rw [e2] at this
    exact this) (((H1.out.tat.grown (World.grownBy_alloc w _ none)).grown (World.grownBy_alloc _ _ none)).grown (World.grownBy_alloc _ _ none)) H1.out.m_ H1.out.max).mono ?_
  rintro e w1 ⟨⟨b, rfl⟩, hb1⟩
  obtain ⟨W0, hW0⟩ : ∃ W0, ((w.alloc (cmdBox kind party A n c A' m c')).alloc (repBox err R rn rc R' rm rc')) = W0 := ⟨_, rfl⟩
  have hb0 : Below w.heap.size w W0 := by rw [← hW0]; exact ((Below.refl _ w).alloc (Nat.le_refl _) _).alloc (by simp) _
  have hs0 : W0.heap.size = w.heap.size + 2 := by rw [← hW0]; simp
  have hcb0 : W0.heap[w.heap.size]? = some (cmdBox kind party A n c A' m c') := by
    rw [← hW0]
    exact (Below.heap_alloc _ _ _ (by simp)).trans (heap_alloc_new w _)
  have hrb0 : W0.heap[w.heap.size + 1]? = some (repBox err R rn rc R' rm rc') := by
    rw [← hW0]
    have := heap_alloc_new (w.alloc (cmdBox kind party A n c A' m c')) (repBox err R rn rc R' rm rc')
    simpa using this
  have hb01 : Below (w.heap.size + 2) W0 w1 := by
    have hx : Below (w.heap.size + 2) W0 (W0.alloc (.cells #[.int .i64 kind, .string party, .slice A n c, .slice A' m c'] 65 (0, 0))) := (Below.refl _ W0).alloc (by omega) _
    refine hx.trans (Below.mono ?_ (show w.heap.size + 2 ≤ w.heap.size + 3 by omega))
    rw [← hW0]
    have e3 : (((w.alloc (cmdBox kind party A n c A' m c')).alloc (repBox err R rn rc R' rm rc')).alloc (.cells #[.int .i64 kind, .string party, .slice A n c, .slice A' m c'] 65)).heap.size = w.heap.size + 3 := by simp
    rw [← e3]
    exact hb1
  have HB1 : Hid (Below w.heap.size w w1) := Lib.hid (hb0.trans (hb01.mono (by omega)))
  have HCB1 : Hid (w1.heap[w.heap.size]? = some (cmdBox kind party A n c A' m c')) := Lib.hid ((hb01.block _ (by omega)).trans hcb0)
  have HRB1 : Hid (w1.heap[w.heap.size + 1]? = some (repBox err R rn rc R' rm rc')) := Lib.hid ((hb01.block _ (by omega)).trans hrb0)
  clear hb0 hs0 hcb0 hrb0 hb01 hb1 hW0
  obtain ⟨k0, k1, k2, k3⟩ := cmdBox_cells HCB1.out
  obtain ⟨r0, r1, r2⟩ := repBox_cells HRB1.out
  go_wp2_with fail
  all_goals first
    | (go_at_call 17
       refine (aliveAny17 _).mono ?_
       rintro e w2 ⟨rfl, hb2⟩
       go_wp2_with fail
       refine bodyPost_ret (results_tmp rfl _ _ _) rfl ?_
       exact ⟨rfl, HB1.out.trans (hb2.mono HB1.out.size)⟩)
    | skip
  obtain ⟨⟨⟨hq1, hq2⟩, hq3⟩, hq4⟩ := ‹((((mo.size : Int) ≤ 300) ∧ mo.toList.isEmpty = false) ∧ (rn : Int) ≤ 2100) ∧ (rm : Int) ≤ 120›
  have HMO := Lib.hid (And.intro (mo_pos hq2) hq1)
  have HRM := Lib.hid hq4
  have HRN := Lib.hid hq3
  clear hq1 hq2 hq3 hq4
  refine (putC_any kind party A n c nums A' m c' texts _ HK.out HP.out (H1.out.to HB1.out HB1.out.size)).mono ?_
  rintro e w2 ⟨hb2, hh⟩
  have HB2 := Lib.hid (HB1.out.trans (hb2.mono HB1.out.size))
  have HCB2 := Lib.hid ((hb2.block _ (blk_lt HCB1.out)).trans HCB1.out)
  have HRB2 := Lib.hid ((hb2.block _ (blk_lt HRB1.out)).trans HRB1.out)
  clear hb2
  rcases hh with ⟨hpa, hnn, hmm, htt, rfl⟩ | ⟨e2, hne, rfl⟩
  · have HF : Hid (Fit kind party nums texts) := Lib.hid ⟨HK.out, hpa, hnn, hmm, H1.out.ok, htt⟩
    obtain ⟨S, hS⟩ : ∃ S : ByteArray, ⟨(cmdB kind (bl party) nums (texts.map bl)).toArray⟩ = S := ⟨_, rfl⟩
    have HNM : Hid (n ≤ 2000 ∧ m ≤ 100) := Lib.hid ⟨by have := H1.out.n_; omega, by have := H1.out.m_; omega⟩
    have HG1 : Hid (∀ W : World, Calls Tryz.prog 21 #[.string S] W fun en w' => Below W.heap.size W w' ∧ ∃ B1 d1 B2 d2,
        en = .returned (.tuple #[.agg #[.int .i64 kind, .string party, .slice B1 n d1, .slice B2 m d2], .int .i64 0]) ∧ IntsAt w' B1 nums ∧ TextsAt w' B2 texts) := Lib.hid (fun W => by
      have h := getC_put kind party nums texts HF.out W
      rw [hS, H1.out.n_, H1.out.m_] at h
      exact h)
    have HG2 : Hid (∀ W : World, Calls Tryz.prog 21 #[.string (S ++ mo)] W fun en w' => Below W.heap.size W w' ∧ en = .returned (.tuple #[.agg #[.int .i64 0, .string ⟨#[]⟩, .slice none 0 0, .slice none 0 0], .int .i64 4])) := Lib.hid (fun W => by
      have h := getC_more kind party nums texts HF.out mo (by have := HMO.out.2; omega) HMO.out.1 W
      rw [hS] at h
      exact h)
    have hSl : 0 < S.size ∧ S.size ≤ 140000 := by
      rw [← hS, size_mk]
      exact ⟨cmdB_pos _ _ _ _, HF.out.len⟩
    have HG3 : Hid (∀ W : World, Calls Tryz.prog 21 #[.string (S.extract 0 (S.size - 1))] W fun en w' => Below W.heap.size W w' ∧ ∃ E : Int, E ≠ 0 ∧ en = .returned (.tuple #[.agg #[.int .i64 0, .string ⟨#[]⟩, .slice none 0 0, .slice none 0 0], .int .i64 E])) := Lib.hid (fun W => by
      have hb : bl S = (bl S).take (S.size - 1) ++ (bl S).drop (S.size - 1) := (List.take_append_drop _ _).symm
      have hx : bl (S.extract 0 (S.size - 1)) = (bl S).take (S.size - 1) := by
        rw [bl, ByteArray.data_extract, Array.toList_extract]
        simp [bl]
      refine getC_less kind party nums texts HF.out _ ((bl S).drop (S.size - 1)) ?_ ?_ W
      · intro h0
        have h1 := bl_drop_len S (S.size - 1)
        rw [h0] at h1
        simp at h1
        omega
      · have h9 : bl S = cmdB kind (bl party) nums (texts.map bl) := by rw [← hS, bl_mk]
        rw [hx, ← hb, h9])
    obtain ⟨hS1, hS2⟩ := hSl
    have HS1 := Lib.hid hS1
    rw [hS]
    clear hpa hnn hmm htt hS
    obtain ⟨k0, k1, k2, k3⟩ := cmdBox_cells HCB2.out
    go_wp2_with fail
    refine (HG1.out _).mono ?_
    rintro e w3 ⟨hb3, B1, d1, B2, d2, rfl, hi3, ht3⟩
    have HB3 := Lib.hid (HB2.out.trans (hb3.mono HB2.out.size))
    have HCB3 := Lib.hid ((hb3.block _ (blk_lt HCB2.out)).trans HCB2.out)
    have HRB3 := Lib.hid ((hb3.block _ (blk_lt HRB2.out)).trans HRB2.out)
    have HI3 := Lib.hid hi3
    have HT3 := Lib.hid ht3
    clear hb3 hi3 ht3
    go_wp2_with fail
    refine (HG2.out _).mono ?_
    rintro e w4 ⟨hb4, rfl⟩
    go_wp2_with fail
    have hXB : (w3.alloc (.cells #[.int .i64 kind, .string party, .slice B1 n d1, .slice B2 m d2] 65)).heap.size ≤ w4.heap.size := hb4.size
    have hg4 : (w3.alloc (.cells #[.int .i64 kind, .string party, .slice B1 n d1, .slice B2 m d2] 65)).grownBy w4 none := only_of_below hb4 _
    have hX4 : w4.heap[w3.heap.size]? = some (.cells #[.int .i64 kind, .string party, .slice B1 n d1, .slice B2 m d2] 65 (0, 0)) := (hg4.block _ (by simp) (by simp)).trans (heap_alloc_new w3 _)
    have hC4 : w4.heap[w.heap.size]? = some (cmdBox kind party A n c A' m c') := (hg4.block _ (by have := blk_lt HCB3.out; simp; omega) (by simp)).trans ((Below.heap_alloc w3 _ _ (blk_lt HCB3.out)).trans HCB3.out)
    have hR4 : w4.heap[w.heap.size + 1]? = some (repBox err R rn rc R' rm rc') := (hg4.block _ (by have := blk_lt HRB3.out; simp; omega) (by simp)).trans ((Below.heap_alloc w3 _ _ (blk_lt HRB3.out)).trans HRB3.out)
    have hB4 : Below w.heap.size w w4 := (HB3.out.alloc HB3.out.size _).trans (hb4.mono (by have := HB3.out.size; simp; omega))
    have hI4 := (HI3.out.grown (World.grownBy_alloc w3 _ none)).grown hg4
    have hT4 := (HT3.out.grown (World.grownBy_alloc w3 _ none)).grown hg4
    obtain ⟨W4, hW4⟩ : ∃ W4, w4.alloc (.cells #[.int .i64 0, .string ⟨#[]⟩, .slice none 0 0, .slice none 0 0] 65) = W4 := ⟨_, rfl⟩
    have HX4 : Hid (W4.heap[w3.heap.size]? = some (.cells #[.int .i64 kind, .string party, .slice B1 n d1, .slice B2 m d2] 65 (0, 0))) := Lib.hid (by rw [← hW4]; exact (Below.heap_alloc w4 _ _ (blk_lt hX4)).trans hX4)
    have HC4 : Hid (W4.heap[w.heap.size]? = some (cmdBox kind party A n c A' m c')) := Lib.hid (by rw [← hW4]; exact (Below.heap_alloc w4 _ _ (blk_lt hC4)).trans hC4)
    have HR4 : Hid (W4.heap[w.heap.size + 1]? = some (repBox err R rn rc R' rm rc')) := Lib.hid (by rw [← hW4]; exact (Below.heap_alloc w4 _ _ (blk_lt hR4)).trans hR4)
    have HB4 : Hid (Below w.heap.size w W4) := Lib.hid (by rw [← hW4]; exact hB4.alloc hB4.size _)
    have HI4 : Hid (IntsAt W4 B1 nums) := Lib.hid (by rw [← hW4]; exact hI4.grown (World.grownBy_alloc w4 _ none))
    have HT4 : Hid (TextsAt W4 B2 texts) := Lib.hid (by rw [← hW4]; exact hT4.grown (World.grownBy_alloc w4 _ none))
    have HRC := Lib.hid (H1.out.to HB4.out HB4.out.size)
    rw [hW4]
    have HXL := Lib.hid (blk_lt HX4.out)
    have HCL := Lib.hid (blk_lt HC4.out)
    clear hXB hg4 hX4 hC4 hR4 hB4 hI4 hT4 hW4 hb4
    obtain ⟨x0, x1, x2, x3⟩ := cmdBox_cells HX4.out
    obtain ⟨c0, c1, c2, c3⟩ := cmdBox_cells HC4.out
    clear k0 k1 k2 k3
    have hS0 : ((S.size : Int) == 0) = false := by rw [beq_eq_false_iff_ne]; have := HS1.out; omega
    go_region_held3 (fun w' => w'.cell? ⟨w3.heap.size, 0, none⟩ = some (.int .i64 kind) ∧ w'.cell? ⟨w3.heap.size, 1, none⟩ = some (.string party) ∧ w'.cell? ⟨w3.heap.size, 2, none⟩ = some (.slice B1 n d1) ∧ w'.cell? ⟨w3.heap.size, 3, none⟩ = some (.slice B2 m d2) ∧
        w'.cell? ⟨w.heap.size, 0, none⟩ = some (.int .i64 kind) ∧ w'.cell? ⟨w.heap.size, 1, none⟩ = some (.string party) ∧ w'.cell? ⟨w.heap.size, 2, none⟩ = some (.slice A n c) ∧ w'.cell? ⟨w.heap.size, 3, none⟩ = some (.slice A' m c'))
      (first
        | go_keep
        | (go_split_ands
           refine ⟨?_, ?_, ?_, ?_, ?_, ?_, ?_, ?_⟩
           all_goals (first | (rw [hb6.cell (by first | exact Nat.lt_of_lt_of_le HXL.out hb5.size | exact Nat.lt_of_lt_of_le HCL.out hb5.size)]; assumption) | (rw [hb5.cell (by first | exact HXL.out | exact HCL.out)]; assumption))))
      ((first
        | (go_at_call 23; refine (plain_any kind party A n c A' m c' _).mono ?_; rintro e w5 ⟨rfl, hb5⟩)
        | (go_at_call 22; refine (sameCmd_any kind party B1 A n d1 c B2 A' m d2 c' nums texts _ ((show IntsAt (World.drew _) _ _ from HI4.out).grown (only_of_below hb5 none)) ((show IntsAt (World.drew _) _ _ from HRC.out.iat).grown (only_of_below hb5 none)) ((show TextsAt (World.drew _) _ _ from HT4.out).grown (only_of_below hb5 none)) ((show TextsAt (World.drew _) _ _ from HRC.out.tat).grown (only_of_below hb5 none)) HRC.out.n_ HRC.out.m_ HNM.out.1 HNM.out.2).mono ?_; rintro e w6 ⟨rfl, hb6⟩)))
    have HB6 := Lib.hid ((HB4.out.trans ((below_un hb5).mono HB4.out.size)).trans (hb6.mono (Nat.le_trans HB4.out.size hb5.size)))
    have HRT : Hid (w6.heap[w.heap.size + 1]? = some (repBox err R rn rc R' rm rc')) := Lib.hid ((hb6.block _ (Nat.lt_of_lt_of_le (blk_lt HR4.out) hb5.size)).trans ((hb5.block _ (blk_lt HR4.out)).trans HR4.out))
    clear hb5 hb6
    clear x0 x1 x2 x3 c0 c1 c2 c3
    have hs1 : (1 : Int) ≤ S.size := by have := HS1.out; omega
    have hsl : ∀ W : World, (Instr.slice 9 (.string S) none (some (.int .i64 ((S.size : Int) - 1))) none).run Tryz.prog W = .ok (.string (S.extract 0 (S.size - 1))) W := fun W => by
      have h := run_slice_string_to_if (P := Tryz.prog) W 9 S .i64 ((S.size : Int) - 1) Tryz.underlying9
      rw [if_pos ⟨by omega, by omega⟩, show ((S.size : Int) - 1).toNat = S.size - 1 by omega] at h
      exact h
    go_wp2_with fail
    refine (HG3.out _).mono ?_
    rintro e wl ⟨hbl, E, hE, rfl⟩
    have hE1 : (E == 0) = false := by simpa using hE
    have HBL := Lib.hid (HB6.out.trans (hbl.mono HB6.out.size))
    have hRL := (hbl.block _ (blk_lt HRT.out)).trans HRT.out
    have HBT := Lib.hid (HBL.out.alloc HBL.out.size (.cells #[.int .i64 0, .string ⟨#[]⟩, .slice none 0 0, .slice none 0 0] 65))
    have HRT := Lib.hid ((Below.heap_alloc wl (.cells #[.int .i64 0, .string ⟨#[]⟩, .slice none 0 0, .slice none 0 0] 65) _ (blk_lt hRL)).trans hRL)
    have HEE := Lib.hid hE
    clear hbl hE hRL hsl hs1
    obtain ⟨u0, u1, u2⟩ := repBox_cells HRT.out
    go_wp2_with fail
    refine (putR_any err R rn rc rnums R' rm rc' rtexts _ HK2.out (H2.out.to HBT.out HBT.out.size)).mono ?_
    rintro e w7 ⟨hb7, hh⟩
    have HB7 := Lib.hid (HBT.out.trans (hb7.mono HBT.out.size))
    have HRB7 := Lib.hid ((hb7.block _ (blk_lt HRT.out)).trans HRT.out)
    clear hb7
    rcases hh with ⟨hnn', hmm', htt', rfl⟩ | ⟨e3, hne3, rfl⟩
    · obtain ⟨T, hT⟩ : ∃ T : ByteArray, ⟨(repB err rnums (rtexts.map bl)).toArray⟩ = T := ⟨_, rfl⟩
      have HG : Hid (∀ W : World, Calls Tryz.prog 25 #[.string T] W fun en w' => Below W.heap.size W w' ∧ ∃ B1 d1 B2 d2,
          en = .returned (.tuple #[.agg #[.int .i64 err, .slice B1 rn d1, .slice B2 rm d2], .int .i64 0]) ∧ IntsAt w' B1 rnums ∧ TextsAt w' B2 rtexts) := Lib.hid (fun W => by
        have h := getR_put err rnums rtexts HK2.out hnn' hmm' H2.out.ok htt' W
        rw [hT, H2.out.n_, H2.out.m_] at h
        exact h)
      have HRN2 : Hid (rn ≤ 2000 ∧ rm ≤ 100) := Lib.hid ⟨by have := H2.out.n_; omega, by have := H2.out.m_; omega⟩
      rw [hT]
      clear hT hnn' hmm' htt'
      go_wp2_with fail
      refine (HG.out _).mono ?_
      rintro e w8 ⟨hb8, B1, d1, B2, d2, rfl, hi8, ht8⟩
      have HB8 := Lib.hid (HB7.out.trans (hb8.mono HB7.out.size))
      have HRB8 := Lib.hid ((hb8.block _ (blk_lt HRB7.out)).trans HRB7.out)
      have HI8 := Lib.hid hi8
      have HT8 := Lib.hid ht8
      clear hb8 hi8 ht8
      go_wp2_with fail
      refine (aliveAny17 _).mono ?_
      rintro e w9 ⟨rfl, hb9⟩
      have hg9 : (w8.alloc (.cells #[.int .i64 err, .slice B1 rn d1, .slice B2 rm d2] 69)).grownBy w9 none := only_of_below hb9 _
      have HY9 : Hid (w9.heap[w8.heap.size]? = some (.cells #[.int .i64 err, .slice B1 rn d1, .slice B2 rm d2] 69 (0, 0))) := Lib.hid ((hg9.block _ (by simp) (by simp)).trans (heap_alloc_new w8 _))
      have HR9 : Hid (w9.heap[w.heap.size + 1]? = some (repBox err R rn rc R' rm rc')) := Lib.hid ((hg9.block _ (by have := blk_lt HRB8.out; simp; omega) (by simp)).trans ((Below.heap_alloc w8 _ _ (blk_lt HRB8.out)).trans HRB8.out))
      have HB9 : Hid (Below w.heap.size w w9) := Lib.hid ((HB8.out.alloc HB8.out.size _).trans (hb9.mono (by have := HB8.out.size; simp; omega)))
      have HI9 := Lib.hid ((HI8.out.grown (World.grownBy_alloc w8 _ none)).grown hg9)
      have HT9 := Lib.hid ((HT8.out.grown (World.grownBy_alloc w8 _ none)).grown hg9)
      have HRR := Lib.hid (H2.out.to HB9.out HB9.out.size)
      clear hb9 hg9
      have y0 : w9.cell? ⟨w8.heap.size, 0, none⟩ = some (.int .i64 err) := by rw [cell_p HY9.out]; rfl
      have y1 : w9.cell? ⟨w8.heap.size, 1, none⟩ = some (.slice B1 rn d1) := by rw [cell_p HY9.out]; rfl
      have y2 : w9.cell? ⟨w8.heap.size, 2, none⟩ = some (.slice B2 rm d2) := by rw [cell_p HY9.out]; rfl
      obtain ⟨z0, z1, z2⟩ := repBox_cells HR9.out
      go_wp2_with fail
      refine (sameReply_any err B1 R rn d1 rc B2 R' rm d2 rc' rnums rtexts _ HI9.out HRR.out.iat HT9.out HRR.out.tat HRR.out.n_ HRR.out.m_ HRN2.out.1 HRN2.out.2).mono ?_
      rintro e w10 ⟨rfl, hb10⟩
      have HB10 := Lib.hid (HB9.out.trans (hb10.mono HB9.out.size))
      clear hb10
      go_wp2_with fail
      go_ret
      exact ⟨rfl, HB10.out⟩
    · have hb31 : (e3 == 0) = false := by simpa using hne3
      have hb32 : (e3 != 0) = true := by simpa using hne3
      have HNE3 := Lib.hid hne3
      clear hne3
      go_wp2_with fail
      refine (aliveAny17 _).mono ?_
      rintro e w9 ⟨rfl, hb9⟩
      have HB9 := Lib.hid (HB7.out.trans (hb9.mono HB7.out.size))
      clear hb9
      go_wp2_with fail
      refine bodyPost_ret (results_tmp rfl _ _ _) rfl ?_
      exact ⟨rfl, HB9.out⟩
  · have hb1 : (e2 == 0) = false := by simpa using hne
    have hb2 : (e2 != 0) = true := by simpa using hne
    obtain ⟨r0, r1, r2⟩ := repBox_cells HRB2.out
    have HNE := Lib.hid hne
    have HBT := HB2
    have HRT := HRB2
    clear hne
    go_wp2_with fail
    refine (putR_any err R rn rc rnums R' rm rc' rtexts _ HK2.out (H2.out.to HBT.out HBT.out.size)).mono ?_
    rintro e w7 ⟨hb7, hh⟩
    have HB7 := Lib.hid (HBT.out.trans (hb7.mono HBT.out.size))
    have HRB7 := Lib.hid ((hb7.block _ (blk_lt HRT.out)).trans HRT.out)
    clear hb7
    rcases hh with ⟨hnn', hmm', htt', rfl⟩ | ⟨e3, hne3, rfl⟩
    · obtain ⟨T, hT⟩ : ∃ T : ByteArray, ⟨(repB err rnums (rtexts.map bl)).toArray⟩ = T := ⟨_, rfl⟩
      have HG : Hid (∀ W : World, Calls Tryz.prog 25 #[.string T] W fun en w' => Below W.heap.size W w' ∧ ∃ B1 d1 B2 d2,
          en = .returned (.tuple #[.agg #[.int .i64 err, .slice B1 rn d1, .slice B2 rm d2], .int .i64 0]) ∧ IntsAt w' B1 rnums ∧ TextsAt w' B2 rtexts) := Lib.hid (fun W => by
        have h := getR_put err rnums rtexts HK2.out hnn' hmm' H2.out.ok htt' W
        rw [hT, H2.out.n_, H2.out.m_] at h
        exact h)
      have HRN2 : Hid (rn ≤ 2000 ∧ rm ≤ 100) := Lib.hid ⟨by have := H2.out.n_; omega, by have := H2.out.m_; omega⟩
      rw [hT]
      clear hT hnn' hmm' htt'
      go_wp2_with fail
      refine (HG.out _).mono ?_
      rintro e w8 ⟨hb8, B1, d1, B2, d2, rfl, hi8, ht8⟩
      have HB8 := Lib.hid (HB7.out.trans (hb8.mono HB7.out.size))
      have HRB8 := Lib.hid ((hb8.block _ (blk_lt HRB7.out)).trans HRB7.out)
      have HI8 := Lib.hid hi8
      have HT8 := Lib.hid ht8
      clear hb8 hi8 ht8
      go_wp2_with fail
      refine (aliveAny17 _).mono ?_
      rintro e w9 ⟨rfl, hb9⟩
      have hg9 : (w8.alloc (.cells #[.int .i64 err, .slice B1 rn d1, .slice B2 rm d2] 69)).grownBy w9 none := only_of_below hb9 _
      have HY9 : Hid (w9.heap[w8.heap.size]? = some (.cells #[.int .i64 err, .slice B1 rn d1, .slice B2 rm d2] 69 (0, 0))) := Lib.hid ((hg9.block _ (by simp) (by simp)).trans (heap_alloc_new w8 _))
      have HR9 : Hid (w9.heap[w.heap.size + 1]? = some (repBox err R rn rc R' rm rc')) := Lib.hid ((hg9.block _ (by have := blk_lt HRB8.out; simp; omega) (by simp)).trans ((Below.heap_alloc w8 _ _ (blk_lt HRB8.out)).trans HRB8.out))
      have HB9 : Hid (Below w.heap.size w w9) := Lib.hid ((HB8.out.alloc HB8.out.size _).trans (hb9.mono (by have := HB8.out.size; simp; omega)))
      have HI9 := Lib.hid ((HI8.out.grown (World.grownBy_alloc w8 _ none)).grown hg9)
      have HT9 := Lib.hid ((HT8.out.grown (World.grownBy_alloc w8 _ none)).grown hg9)
      have HRR := Lib.hid (H2.out.to HB9.out HB9.out.size)
      clear hb9 hg9
      have y0 : w9.cell? ⟨w8.heap.size, 0, none⟩ = some (.int .i64 err) := by rw [cell_p HY9.out]; rfl
      have y1 : w9.cell? ⟨w8.heap.size, 1, none⟩ = some (.slice B1 rn d1) := by rw [cell_p HY9.out]; rfl
      have y2 : w9.cell? ⟨w8.heap.size, 2, none⟩ = some (.slice B2 rm d2) := by rw [cell_p HY9.out]; rfl
      obtain ⟨z0, z1, z2⟩ := repBox_cells HR9.out
      go_wp2_with fail
      refine (sameReply_any err B1 R rn d1 rc B2 R' rm d2 rc' rnums rtexts _ HI9.out HRR.out.iat HT9.out HRR.out.tat HRR.out.n_ HRR.out.m_ HRN2.out.1 HRN2.out.2).mono ?_
      rintro e w10 ⟨rfl, hb10⟩
      have HB10 := Lib.hid (HB9.out.trans (hb10.mono HB9.out.size))
      clear hb10
      go_wp2_with fail
      go_ret
      exact ⟨rfl, HB10.out⟩
    · have hb31 : (e3 == 0) = false := by simpa using hne3
      have hb32 : (e3 != 0) = true := by simpa using hne3
      have HNE3 := Lib.hid hne3
      clear hne3
      go_wp2_with fail
      refine (aliveAny17 _).mono ?_
      rintro e w9 ⟨rfl, hb9⟩
      have HB9 := Lib.hid (HB7.out.trans (hb9.mono HB7.out.size))
      clear hb9
      go_wp2_with fail
      refine bodyPost_ret (results_tmp rfl _ _ _) rfl ?_
      exact ⟨rfl, HB9.out⟩
end Go.Proofs.YtfpaofeonlfnfaaGreat.Wire
