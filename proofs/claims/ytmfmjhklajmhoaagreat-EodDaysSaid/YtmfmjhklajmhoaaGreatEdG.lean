/- EodDays: the law is walked. -/
import Derived.Test.YtmfmjhklajmhoaaGreatEdE
import Derived.Test.YtmfmjhklajmhoaaGreatEdB
import Derived.SliceStrings
import Derived.ChangeSlices
namespace Go.Proofs.YtmfmjhklajmhoaaGreat.Ed
open Go Go.RowKit Go.Lib Go.Maps Wire
theorem DaysAt.below {w w' : World} {A : Option Addr} {xs : List Int} (h : DaysAt w A xs) (hb : Below w.heap.size w w') : DaysAt w' A xs := fun hne => by
 obtain ⟨ad, hA, hc⟩ := h hne
 exact ⟨ad, hA, fun j x hx => (hb.cell (p := ad.add j) (World.block_lt_of_cell? w _ (hc j x hx))).trans (hc j x hx)⟩
theorem St.k0 {w : World} {hb r l b g li c p u n : Nat} {D : DataW Unit} {today : Int} (h : St w hb r l b g li c p u n D today) : w.cell? ⟨hb, 0, none⟩ = some (.pointer (some ⟨r, 0, none⟩)) ∧ w.cell? ⟨r, 0, none⟩ = some (.pointer (some ⟨c, 0, none⟩)) ∧ w.cell? ⟨hb, 5, none⟩ = some (.int .i64 today) := by
 obtain ⟨tH, hH⟩ := h.hall.hall
 exact ⟨by simp [World.cell?, hH, p0], h.hall.cref, by simp [World.cell?, hH]⟩
theorem closed_below {w w1 w2 : World} {c m : Nat} (hB : Below w.heap.size w w1) (hC : Closed w1 w2 c m) (hc : w.heap.size ≤ c) : Below w.heap.size w w2 :=
 belowG hB hC.grown hB.size (fun g e => by cases e; exact hc)
theorem close_none {w w1 : World} {hb r l b g li c p u : Nat} {D : DataW Unit} (hS : St w1 hb r l b g li c p u 0 D 0) (hA : Apart hb r l b g li c p u) (hB : Below w.heap.size w w1) (hc : w.heap.size ≤ c) :
 Calls Tryz.prog 6 #[.pointer (some ⟨c, 0, none⟩), .slice none 0 0] w1 fun e w2 => e = .returned (.int .i64 0) ∧ Below w.heap.size w w2 ∧ ∃ D', St w2 hb r l b g li c p u 0 D' 0 := by
 obtain ⟨cs, t, hcb⟩ := hS.calb
 refine (close_any c 0 D none 0 0 [] w1 hS.hall.cal (fun h => absurd rfl h) rfl (by omega) (by simp) cs t hcb).mono ?_
 rintro e w2 (⟨_, rfl, hC⟩ | ⟨hf, _⟩)
 · exact ⟨rfl, closed_below hB hC hc, hS.closed hA hC⟩
 · simp [daysB] at hf
theorem close_days {w w1 : World} {hb r l b g li c p u : Nat} {D : DataW Unit} (A : Option Addr) (m cc : Nat) (xs : List Int) (hS : St w1 hb r l b g li c p u 0 D 0) (hA : Apart hb r l b g li c p u) (hB : Below w.heap.size w w1) (hc : w.heap.size ≤ c)
 (hx : DaysAt w1 A xs) (hm : xs.length = m) (hm2 : m ≤ 60) (hwf : ∀ x ∈ xs, Lit.wf (.int .i64 x) = true) :
 Calls Tryz.prog 6 #[.pointer (some ⟨c, 0, none⟩), .slice A m cc] w1 fun e w2 => ∃ er : Int, e = .returned (.int .i64 er) ∧ Below w.heap.size w w2 ∧ (er = 0 → ∃ D', St w2 hb r l b g li c p u (0 + m) D' 0) := by
 obtain ⟨cs, t, hcb⟩ := hS.calb
 refine (close_any c 0 D A m cc xs w1 hS.hall.cal hx hm (by omega) hwf cs t hcb).mono ?_
 rintro e w2 (⟨_, rfl, hC⟩ | ⟨_, rfl, rfl⟩)
 · exact ⟨0, rfl, closed_below hB hC hc, fun _ => hS.closed hA hC⟩
 · exact ⟨17, rfl, hB, fun h => absurd h (by decide)⟩
def Inv (w0 w : World) (hb r l b g li c p u m : Nat) (D : DataW Unit) (k : Nat) : Prop :=
 ∃ today : Int, 0 ≤ today ∧ today ≤ 434 * k ∧ St w hb r l b g li c p u m D today ∧ Below w0.heap.size w0 w
set_option maxRecDepth 20000 in
set_option maxHeartbeats 4000000 in
theorem daysLaw (A : Option Addr) (m cc : Nat) (xs : List Int) (n : Int) (w : World) (hx : DaysAt w A xs) (hm : xs.length = m) (hm0 : m ≤ maxLen) (hwf : ∀ x ∈ xs, Lit.wf (.int .i64 x) = true) (hn0 : -9223372036854775808 ≤ n) (hn1 : n ≤ 9223372036854775807)
 (hal : ∀ w, Calls Tryz.prog 4 #[] w (Gv.TrueBelow w)) :
 Calls Tryz.prog 3 #[.slice A m cc, .int .i64 n] w (Gv.TrueBelow w) := by
 have HX := Lib.hid (And.intro hx (And.intro hm hwf))
 have HA := Lib.hid hal
 have HW := Lib.hid (world_any w)
 clear hx hal hwf hm
 have hm1 : (m : Int) ≤ 9223372036854775807 := by unfold maxLen at hm0; omega
 clear hm0
 by_cases h1 : (60 : Int) < (m : Int)
 · go_enter Tryz.func3, Tryz.ntmps3
   go_wp2_with (go_at_call 4; refine (HA.out _).mono ?_; rintro e w1 ⟨rfl, hb1⟩)
   exact bodyPost_ret (results_tmp rfl _ _ _) rfl ⟨rfl, hb1⟩
 by_cases h2 : n < 0
 · go_enter Tryz.func3, Tryz.ntmps3
   go_wp2_with (go_at_call 4; refine (HA.out _).mono ?_; rintro e w1 ⟨rfl, hb1⟩)
   exact bodyPost_ret (results_tmp rfl _ _ _) rfl ⟨rfl, hb1⟩
 by_cases h3 : 60 < n
 · go_enter Tryz.func3, Tryz.ntmps3
   go_wp2_with (go_at_call 4; refine (HA.out _).mono ?_; rintro e w1 ⟨rfl, hb1⟩)
   exact bodyPost_ret (results_tmp rfl _ _ _) rfl ⟨rfl, hb1⟩
 have hm60 : m ≤ 60 := by omega
 go_enter Tryz.func3, Tryz.ntmps3
 go_wp2_with (first
  | (go_at_call 4; refine (HA.out _).mono ?_; rintro e w9 ⟨rfl, hb9⟩)
  | (go_at_call 5; refine HW.out.mono ?_; rintro e w1 ⟨hb, r, l, b, g, li, c, p, u, rb, D, rfl, hS, hAp, hge, hb1⟩
     obtain ⟨k0, k1, _⟩ := hS.k0
     have HC1 := Lib.hid (close_none hS hAp hb1 hge.2)
     have HAp := Lib.hid (And.intro hAp hge)
     clear hS hAp hge hb1)
  | (go_at_call 6; refine HC1.out.mono ?_; rintro e w2 ⟨rfl, hb2, D2, hS2⟩
     obtain ⟨j0, j1, _⟩ := hS2.k0
     have HC2 := Lib.hid (close_days A m cc xs hS2 HAp.out.1 hb2 HAp.out.2.2 (HX.out.1.below hb2) HX.out.2.1 hm60 HX.out.2.2)
     clear hS2 hb2 k0 k1 HC1)
  | (go_at_call 6; refine HC2.out.mono ?_; rintro e w3 ⟨er, rfl, hb3, hS3⟩
     have HS3 := Lib.hid (And.intro hb3 hS3)
     clear hb3 hS3 j0 j1 HC2))
 · exact bodyPost_ret (results_tmp rfl _ _ _) rfl ⟨rfl, HS3.out.1.trans (hb9.mono HS3.out.1.size)⟩
 have her : (er != 0) = false := by assumption
 obtain ⟨D3, hS3⟩ := HS3.out.2 (by simpa using her)
 have HB3 := Lib.hid HS3.out.1
 have hS3' : Inv w w3 hb r l b g li c p u (0 + m) D3 0 := ⟨0, by omega, by omega, hS3, HB3.out⟩
 have hD3 : Maps.size D3 ≤ 60 := by
  obtain ⟨bm, _, ho⟩ := hS3.hall.cal
  have := ho.size_le
  omega
 have HD := Lib.hid hD3
 have HI := Lib.hid hS3'
 rw [her]
 clear hS3 hS3' hD3 HS3 HX HW hm1
 go_loopw [8] (fun i wr => ∃ k : Nat, i = .int .i64 k ∧ (k : Int) ≤ n ∧ Inv w wr hb r l b g li c p u (0 + m) D3 k) (fun i _ => n.toNat - (intOf i).toNat)
 case atStart => exact ⟨0, rfl, by omega, HI.out⟩
 case round =>
  obtain ⟨k, rfl, hk, today, ht0, ht1, hSr, hBr⟩ := hrel
  by_cases hlt : (k : Int) < n
  · obtain ⟨n1, n2, n3⟩ := next_ok D3 60 HD.out today (by omega) (by omega)
    obtain ⟨k0, k1, k5⟩ := hSr.k0
    have HS := Lib.hid hSr
    have HB := Lib.hid hBr
    obtain ⟨y, hy⟩ : ∃ y, nextD D3 today = y := ⟨_, rfl⟩
    have HNx : Hid (∀ wz, CalAt wz c (0 + m) D3 → Calls Tryz.prog 7 #[.pointer (some ⟨c, 0, none⟩), .int .i64 today] wz fun e w' => e = .returned (.int .i64 y) ∧ Below wz.heap.size wz w') :=
     Lib.hid (fun wz hc => by have h := next_any c (0 + m) D3 today (by omega) wz hc; rw [hy] at h; exact h)
    have HEn : Hid (∀ wz, HallAt wz hb r l b g li c (0 + m) D3 today → Calls Tryz.prog 9 #[.pointer (some ⟨hb, 0, none⟩)] wz fun e w' => e = .returned (.tuple #[.agg #[.slice none 0 0, .slice none 0 0, .slice none 0 0, .int .i64 y], .int .i64 0]) ∧ wz.grownBy w' (some hb) ∧
     ∃ tH, w'.heap[hb]? = some (.cells #[p0 r, p0 l, p0 b, p0 g, p0 li, .int .i64 y] tH (0, 0))) :=
     Lib.hid (fun wz hc => by have h := end_any noLoans hb r l b g li c (0 + m) D3 today wz hc (by omega) (by omega); rw [hy] at h; exact h)
    rw [hy] at n1 n2 n3
    have hy0 : ¬ y < 0 := by omega
    have HIs : Hid (∀ wz, CalAt wz c (0 + m) D3 → Calls Tryz.prog 10 #[.pointer (some ⟨c, 0, none⟩), .int .i64 y] wz fun e w' => e = .returned (.bool true) ∧ Below wz.heap.size wz w') :=
     Lib.hid (fun wz hc => by have h := is_any c (0 + m) D3 y (wf_day (by omega) (by omega)) wz hc; rw [n3] at h; exact h)
    have HNX := Lib.hid (And.intro n1 n2)
    have HT := Lib.hid (And.intro ht0 ht1)
    have HK := Lib.hid (And.intro (World.block_lt_of_cell? wr _ k0) (World.block_lt_of_cell? wr _ k1))
    clear hSr hBr n1 n2 n3 hy
    go_wp2_with fail
    have hS0 : Below wr.heap.size wr wr.drew := sb_drew (Below.refl _ _)
    go_region_held3 (fun w' => Below wr.heap.size wr w' ∧ w'.cell? ⟨hb, 0, none⟩ = some (.pointer (some ⟨r, 0, none⟩)) ∧ w'.cell? ⟨r, 0, none⟩ = some (.pointer (some ⟨c, 0, none⟩)) ∧ w'.cell? ⟨hb, 5, none⟩ = some (.int .i64 today))
     (first
      | (have hI : Below wr.heap.size wr _ := (by first | assumption | exact sb_drew (by assumption) | exact Below.refl _ _)
         exact ⟨hI, (hI.cell (p := ⟨hb, 0, none⟩) HK.out.1).trans k0, (hI.cell (p := ⟨r, 0, none⟩) HK.out.2).trans k1, (hI.cell (p := ⟨hb, 5, none⟩) HK.out.1).trans k5⟩)
      | go_keep)
     ((first
       | (go_at_call 7; refine (HNx.out _ (HS.out.new (by first | assumption | exact sb_drew (by assumption))).hall.cal).mono ?_; rintro e w2 ⟨rfl, hb2⟩; have hx2 : Below wr.heap.size wr w2 := sb_step (by first | assumption | exact sb_drew (by assumption)) hb2)))
    have HS2 := Lib.hid (HS.out.new hx2)
    have HB2 := Lib.hid (HB.out.trans (hx2.mono HB.out.size))
    have HP := Lib.hid (picture_any hb r l b g li c p u (0 + m) D3 today w2 HS2.out (by omega) (by have h := HT.out; unfold okI; omega))
    clear hx2 hb2 hS0 k0 k1 k5 HNx HS HB HK
    go_wp2_with (first
     | (go_at_call 8; refine HP.out.mono ?_; rintro e w4 ⟨⟨s4, rfl⟩, hb4⟩
        have HS4 := Lib.hid (HS2.out.new hb4)
        have HB4 := Lib.hid (HB2.out.trans (hb4.mono HB2.out.size))
        have HE := Lib.hid (HEn.out w4 HS4.out.hall)
        clear hb4 HP HEn)
     | (go_at_call 9; refine HE.out.mono ?_; rintro e w5 ⟨rfl, hg5, hH5⟩
        have hS5 := HS4.out.ended HAp.out.1 hg5 hH5
        have hbx : Below w5.heap.size w5 (w5.alloc (.cells #[.slice none 0 0, .slice none 0 0, .slice none 0 0, .int .i64 y] 48)) := (Below.refl _ w5).alloc (Nat.le_refl _) _
        have HB5 := Lib.hid ((belowG HB4.out hg5 HB4.out.size (fun g e => by cases e; exact HAp.out.2.1)).trans (hbx.mono (Nat.le_trans HB4.out.size hg5.size)))
        have HS5 := Lib.hid (hS5.new hbx)
        have q0 : (w5.alloc (.cells #[.slice none 0 0, .slice none 0 0, .slice none 0 0, .int .i64 y] 48)).cell? ⟨hb, 0, none⟩ = some (.pointer (some ⟨r, 0, none⟩)) := HS5.out.k0.1
        have q1 : (w5.alloc (.cells #[.slice none 0 0, .slice none 0 0, .slice none 0 0, .int .i64 y] 48)).cell? ⟨r, 0, none⟩ = some (.pointer (some ⟨c, 0, none⟩)) := HS5.out.k0.2.1
        have q5 : (w5.alloc (.cells #[.slice none 0 0, .slice none 0 0, .slice none 0 0, .int .i64 y] 48)).cell? ⟨hb, 5, none⟩ = some (.int .i64 y) := HS5.out.k0.2.2
        have HI5 := Lib.hid (HIs.out _ HS5.out.hall.cal)
        clear hg5 hH5 hS5 HE HIs hbx)
     | (go_at_call 10; refine HI5.out.mono ?_; rintro e w6 ⟨rfl, hb6⟩
        have hx6 : w6.heap[w5.heap.size]? = some (.cells #[.slice none 0 0, .slice none 0 0, .slice none 0 0, .int .i64 y] 48 (0, 0)) := (hb6.block _ (by rw [World.size_alloc]; omega)).trans (heap_alloc_new w5 _)
        have e0 : w6.cell? ⟨w5.heap.size, 0, none⟩ = some (.slice none 0 0) := by rw [cell_p hx6]; rfl
        have e1 : w6.cell? ⟨w5.heap.size, 1, none⟩ = some (.slice none 0 0) := by rw [cell_p hx6]; rfl
        have e2 : w6.cell? ⟨w5.heap.size, 2, none⟩ = some (.slice none 0 0) := by rw [cell_p hx6]; rfl
        clear hx6))
    go_roundw
    case rel => exact ⟨k + 1, by go_num, by omega, y, by omega, by have h := HNX.out; have h' := HT.out; omega, HS5.out.new hb6, HB5.out.trans (hb6.mono HB5.out.size)⟩
    case measure => simp [intOf]; omega
  · go_wp2_with (go_at_call 4; refine (HA.out _).mono ?_; rintro e w9 ⟨rfl, hb9⟩)
    exact bodyPost_ret (results_tmp rfl _ _ _) rfl ⟨rfl, hBr.trans (hb9.mono hBr.size)⟩
end Go.Proofs.YtmfmjhklajmhoaaGreat.Ed
/- EodDays, of whatever comes in. -/
namespace Go.Proofs.YtmfmjhklajmhoaaGreat.Ed
open Go Go.RowKit Go.Lib Go.ChangeShapes Go.WideShapes
set_option maxRecDepth 20000 in
theorem daysIn (hal : ∀ w, Calls Tryz.prog 4 #[] w (Gv.TrueBelow w)) {H : Type} {enc : TypeId × Value → H} (W : World) (base : Nat) (v0 v1 : Value) (hv0 : Value.okWide Tryz.prog W .any base 22 v0) (hv1 : Value.okWide Tryz.prog W .any base 3 v1)
 {d0 : DataW H} {p0 : List MemPlace} (h0 : DataW.Trod enc Tryz.prog W 0 (fun _ => true) true 22 v0 d0 p0) :
 Calls Tryz.prog 3 #[v0, v1] W (Gv.TrueBelow W) := by
 obtain ⟨a, len, cap, rfl⟩ := okWide_slice Tryz.underlying22 hv0
 obtain ⟨n, rfl, hn0, hn1⟩ : ∃ n : Int, v1 = .int .i64 n ∧ -9223372036854775808 ≤ n ∧ n ≤ 9223372036854775807 := by
  unfold Value.okWide at hv1
  rw [Tryz.underlying3] at hv1
  exact Gv.cell_int Tryz.underlying3 hv1
 obtain ⟨fuel, hf⟩ := h0
 have hf' : DataW.trod enc Tryz.prog W 0 (fun _ => true) true fuel 22 [.slice a len cap] = some (d0, p0) := hf
 rcases open_ints Tryz.underlying22 Tryz.underlying3 (by kernel_rfl) hf' with ⟨he, _⟩ | ⟨a', len', cap', zs, he, _, hl, hm, hz, _, hc, hw⟩
 · injection he with he
   injection he with e1 e2 e3
   subst e1 e2 e3
   exact daysLaw none 0 0 [] n W (fun h => absurd rfl h) rfl (by unfold maxLen; omega) (by simp) hn0 hn1 hal
 · injection he with he
   injection he with e1 e2 e3
   subst e1 e2 e3
   simp only [if_true] at hz
   have hcell : ∀ j x, (zs.take len)[j]? = some x → W.cell? (a'.add j) = some (.int .i64 x) := by
    intro j x hx
    obtain ⟨hj, hx'⟩ := List.getElem?_eq_some_iff.1 hx
    rw [List.length_take] at hj
    have h1 := hc j (by omega)
    rw [List.getElem_take] at hx'
    rw [← hx', h1, List.getD_eq_getElem?_getD, List.getElem?_eq_getElem (by omega)]
    rfl
   exact daysLaw (some a') len cap (zs.take len) n W (fun _ => ⟨a', rfl, hcell⟩) (by rw [List.length_take]; omega) (by omega) (fun x hx => hw x (List.mem_of_mem_take hx)) hn0 hn1 hal
end Go.Proofs.YtmfmjhklajmhoaaGreat.Ed
