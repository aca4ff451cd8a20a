/- cmd.shape.fits, and the truths of a command. -/
import Derived.Test.YtgmbppfkkiobhaaGreatWireArgs0
namespace Go.Proofs.YtgmbppfkkiobhaaGreat.Wire
open Go Go.RowKit Go.Lib
set_option maxRecDepth 20000 in
set_option maxHeartbeats 1000000 in
/-- Whether so many numbers are right: the same answer in every world. -/
theorem fits_any (wh t n s : Int) (m : Nat) (hn : 0 ≤ n ∧ n ≤ 60) (hs : 0 ≤ s ∧ s ≤ 60) : ∃ r : Bool, (r = true → n ≤ m) ∧ ∀ (T : Option Addr) (tl tc : Nat) (w : World),
    Calls Tryz.prog 52 #[.agg #[.int .i64 wh, .int .i64 t, .int .i64 n, .int .i64 s, .slice T tl tc], .int .i64 m] w fun en w' => en = .returned (.bool r) ∧ Below w.heap.size w w' := by
  obtain ⟨hn1, hn2⟩ := hn
  obtain ⟨hs1, hs2⟩ := hs
  by_cases h1 : (m : Int) = n
  · refine ⟨true, fun _ => by omega, fun T tl tc w => ?_⟩
    obtain ⟨N, rfl⟩ : ∃ N : Nat, n = N := ⟨n.toNat, by omega⟩
    have h2 : m = N := by omega
    subst h2
    go_enter Tryz.func52, Tryz.ntmps52
    go_wp2_with fail
    refine bodyPost_ret (results_tmp rfl _ _ _) rfl ?_
    exact ⟨rfl, (Below.refl _ w).alloc (Nat.le_refl _) _⟩
  · have hb : ((m : Int) == n) = false := by rw [beq_eq_false_iff_ne]; exact h1
    by_cases h2 : 0 < s ∧ n < (m : Int) ∧ (m : Int) ≤ 60
    · obtain ⟨h3, h4, h5⟩ := h2
      clear h1
      refine ⟨((m : Int) - n) % s == 0, fun _ => by omega, fun T tl tc w => ?_⟩
      have h6 : ¬ s = 0 := by omega
      go_enter Tryz.func52, Tryz.ntmps52
      go_wp2_with fail
      go_ret
      exact ⟨rfl, (Below.refl _ w).alloc (Nat.le_refl _) _⟩
    · refine ⟨false, fun h => by simp at h, fun T tl tc w => ?_⟩
      clear h1
      rcases (show s ≤ 0 ∨ (0 < s ∧ (m : Int) ≤ n) ∨ (0 < s ∧ n < (m : Int) ∧ 60 < (m : Int)) by omega) with h3 | ⟨h3, h4⟩ | ⟨h3, h4, h5⟩
      all_goals
        clear h2
        go_enter Tryz.func52, Tryz.ntmps52
        go_wp2_with fail
        go_ret
        exact ⟨rfl, (Below.refl _ w).alloc (Nat.le_refl _) _⟩
/-- A number that is no truth. -/
def badB (x : Int) : Bool := x != 0 && x != 1
set_option maxRecDepth 20000 in
set_option maxHeartbeats 1000000 in
theorem truth_any (b : Nat) (kind : Int) (party : ByteArray) (A : Option Addr) (n c : Nat) (A' : Option Addr) (m c' : Nat) (nums : List Int) (i : Nat) (w : World) (hb : w.heap[b]? = some (cmdBox kind party A n c A' m c')) (hx : IntsAt w A nums) (hn : nums.length = n) (hi : i < n) :
    Calls Tryz.prog 54 #[.int .i64 i, .pointer (some ⟨b, 0, none⟩)] w fun en w' => en = .returned (.bool (badB (nums.getD i 0))) ∧ w = w' := by
  obtain ⟨k0, k1, k2, k3⟩ := cmdBox_cells hb
  have hil : i < nums.length := by omega
  obtain ⟨ad, rfl, hcs⟩ := hx (by intro e0; rw [e0] at hil; simp at hil)
  have hcell : w.cell? (ad.add i) = some (.int .i64 nums[i]) := hcs i _ (List.getElem?_eq_getElem hil)
  have hg : nums.getD i 0 = nums[i] := by rw [List.getD_eq_getElem?_getD, List.getElem?_eq_getElem hil]; rfl
  rw [hg]
  clear hb hx hn hcs hg
  generalize nums[i] = x at hcell
  go_enter Tryz.func54, Tryz.ntmps54
  go_wp2_with fail
  · have h0 : x = 0 := ‹_›
    subst h0
    refine bodyPost_ret (results_tmp rfl _ _ _) rfl ?_
    exact ⟨rfl, rfl⟩
  · refine bodyPost_ret (results_tmp rfl _ _ _) rfl ?_
    exact ⟨rfl, rfl⟩
/-- Is one of the truths none? -/
def anyB (nums tr : List Int) : Bool := tr.any fun i => badB (nums.getD i.toNat 0)
def IdxPost (nums tr : List Int) (w : World) (en : Ending) (w' : World) : Prop := (∃ r : Int, en = .returned (.int .i64 r) ∧ decide (0 ≤ r) = anyB nums tr) ∧ w = w'
theorem any_step (f : Int → Bool) (l : List Int) (k : Nat) (h : k < l.length) : (l.take (k + 1)).any f = ((l.take k).any f || f l[k]) := by
  rw [List.take_succ_eq_append_getElem h]
  simp only [List.any_append, List.any_cons, List.any_nil, Bool.or_false]
set_option maxRecDepth 20000 in
set_option maxHeartbeats 1000000 in
theorem index_any (b : Nat) (kind : Int) (party : ByteArray) (A : Option Addr) (n c : Nat) (A' : Option Addr) (m c' : Nat) (nums : List Int) (T : Option Addr) (L tc : Nat) (tr : List Int) (w : World) (hb : w.heap[b]? = some (cmdBox kind party A n c A' m c')) (hx : IntsAt w A nums) (hn : nums.length = n)
    (ht : IntsAt w T tr) (hL : tr.length = L) (hL2 : L ≤ 1000) (hgood : ∀ i ∈ tr, 0 ≤ i ∧ i < (n : Int)) :
    Calls Tryz.prog 163 #[.slice T L tc, .func (.func 54) #[] #[.pointer (some ⟨b, 0, none⟩)]] w (IdxPost nums tr w) := by
  have HB := Lib.hid hb
  have HX := Lib.hid hx
  have HN := Lib.hid hn
  have HT := Lib.hid ht
  have HL := Lib.hid hL
  have HG := Lib.hid hgood
  clear hb hx hn ht hL hgood
  go_enter Tryz.func163, Tryz.ntmps163
  go_wp2_with fail
  go_loop [8] (fun i => ∃ k : Nat, i = .int .i64 k ∧ k ≤ L ∧ (tr.take k).any (fun i => badB (nums.getD i.toNat 0)) = false) (fun i => L - (intOf i).toNat)
  case atStart => exact ⟨0, rfl, Nat.zero_le _, rfl⟩
  case round =>
    obtain ⟨k, rfl, hk, hany⟩ := hrel
    have HA := Lib.hid hany
    clear hany
    by_cases hlt : k < L
    · have hxl : k < tr.length := by have := HL.out; omega
      obtain ⟨ad, hA, hcs⟩ := HT.out (by intro e0; rw [e0] at hxl; simp at hxl)
      subst hA
      have hcell := hcs k _ (List.getElem?_eq_getElem hxl)
      have hgk := HG.out _ (List.getElem_mem hxl)
      have hst := any_step (fun i => badB (nums.getD i.toNat 0)) tr k hxl
      rw [HA.out, Bool.false_or] at hst
      obtain ⟨i, hi⟩ : ∃ i : Nat, tr[k] = i := ⟨tr[k].toNat, by omega⟩
      rw [hi] at hcell hgk hst
      have HST := Lib.hid hst
      have HI : Hid (i < n) := Lib.hid (by omega)
      clear hcs hgk hst hi
      have htr := truth_any b kind party A n c A' m c' nums i w HB.out HX.out HN.out HI.out
      have hq : nums.getD (i : Int).toNat 0 = nums.getD i 0 := rfl
      obtain ⟨r, hr⟩ : ∃ r, badB (nums.getD i 0) = r := ⟨_, rfl⟩
      rw [hr] at htr
      have HTR := Lib.hid htr
      have HR := Lib.hid hr
      clear htr hq hr
      cases r
      · go_wp2_with (go_at_call 54; refine HTR.out.mono ?_; rintro e w1 ⟨rfl, rfl⟩)
        go_round
        case rel => exact ⟨k + 1, by go_num, by omega, by rw [HST.out]; exact HR.out⟩
        case measure => simp [intOf]; omega
      · go_wp2_with (go_at_call 54; refine HTR.out.mono ?_; rintro e w1 ⟨rfl, rfl⟩)
        refine bodyPost_ret (results_tmp rfl _ _ _) rfl ?_
        have h1 : (tr.take (k + 1)).any (fun i => badB (nums.getD i.toNat 0)) = true := by rw [HST.out]; exact HR.out
        obtain ⟨y, hy, hyb⟩ := List.any_eq_true.1 h1
        refine ⟨⟨k, rfl, ?_⟩, rfl⟩
        rw [decide_eq_true (by omega)]
        exact (List.any_eq_true.2 ⟨y, List.mem_of_mem_take hy, hyb⟩).symm
    · go_wp2_with fail
      refine bodyPost_ret (results_tmp rfl _ _ _) rfl ?_
      have h1 := HA.out
      rw [List.take_of_length_le (by have := HL.out; omega)] at h1
      exact ⟨⟨-1, rfl, by rw [anyB, h1]; rfl⟩, rfl⟩
set_option maxRecDepth 20000 in
theorem contains_any (b : Nat) (kind : Int) (party : ByteArray) (A : Option Addr) (n c : Nat) (A' : Option Addr) (m c' : Nat) (nums : List Int) (T : Option Addr) (L tc : Nat) (tr : List Int) (w : World) (hb : w.heap[b]? = some (cmdBox kind party A n c A' m c')) (hx : IntsAt w A nums) (hn : nums.length = n)
    (ht : IntsAt w T tr) (hL : tr.length = L) (hL2 : L ≤ 1000) (hgood : ∀ i ∈ tr, 0 ≤ i ∧ i < (n : Int)) :
    Calls Tryz.prog 53 #[.slice T L tc, .func (.func 54) #[] #[.pointer (some ⟨b, 0, none⟩)]] w fun en w' => en = .returned (.bool (anyB nums tr)) ∧ w = w' := by
  have HI := Lib.hid (index_any b kind party A n c A' m c' nums T L tc tr w hb hx hn ht hL hL2 hgood)
  clear hb hx hn ht hL hgood
  go_enter Tryz.func53, Tryz.ntmps53
  go_wp2_with fail
  refine HI.out.mono ?_
  rintro e w1 ⟨⟨r, rfl, hr⟩, rfl⟩
  have HR := Lib.hid hr
  clear hr
  go_wp2_with fail
  go_ret
  exact ⟨by rw [← HR.out]; rfl, rfl⟩
end Go.Proofs.YtgmbppfkkiobhaaGreat.Wire
