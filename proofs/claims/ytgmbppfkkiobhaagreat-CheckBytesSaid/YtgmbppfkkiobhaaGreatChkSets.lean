/- complinelaw24.Sets: where it answers true the sets are few and short. -/
import Derived.Test.YtgmbppfkkiobhaaGreatChkPlain
import Derived.Deep.RegionHeld3
namespace Go.Proofs.YtgmbppfkkiobhaaGreat.Wire
open Go Go.RowKit Go.Lib
def SmallSet (x : SetD) : Prop := x.legs.length ≤ 200 ∧ x.takes.length ≤ 200 ∧ ∀ t ∈ x.takes, t.pl.length ≤ 200
def SetsPost (n : Nat) (xs : List SetD) (w : World) (en : Ending) (w' : World) : Prop := Below w.heap.size w w' ∧ ∃ r : Bool, en = .returned (.bool r) ∧ (r = true → n ≤ 40 ∧ ∀ x ∈ xs, SmallSet x)
theorem sets_at {w0 wr : World} (hb : Below w0.heap.size w0 wr) {A : Option Addr} {xs : List SetD} (h : SetsAt w0 A xs) {j : Nat} {y : SetD} (hj : xs[j]? = some y) :
    ∃ ad, A = some ad ∧ ∃ L n c T m d, wr.cell? (ad.add (j * 2)) = some (.slice L n c) ∧ wr.cell? ⟨(ad.add (j * 2)).block, (ad.add (j * 2)).off + 1, none⟩ = some (.slice T m d) ∧ SetAt w0 L n T m y := by
  obtain ⟨ad, hA, hc⟩ := h (by intro e; rw [e] at hj; simp at hj)
  obtain ⟨L, n, c, T, m, d, h0, h1, h2⟩ := hc j y hj
  exact ⟨ad, hA, L, n, c, T, m, d, cell_below hb h0, by rw [← fld1, add_add]; exact cell_below hb h1, h2⟩
theorem ints_new2 (w : World) (a b : Int) : IntsAt (w.alloc (.cells #[.int .i64 a, .int .i64 b] 3 (0, 0))) (some ⟨w.heap.size, 0, none⟩) [a, b] := fun _ => ⟨_, rfl, fun j x hx => by
  match j, hx with
  | 0, hx => cases hx; show (w.alloc _).cell? ⟨w.heap.size, 0, none⟩ = _; rw [cell_p (heap_alloc_new w _)]; rfl
  | 1, hx => cases hx; show (w.alloc _).cell? ⟨w.heap.size, 0 + 1, none⟩ = _; rw [cell_p (heap_alloc_new w _)]; rfl⟩
theorem ints_new1 (w : World) (a : Int) : IntsAt (w.alloc (.cells #[.int .i64 a] 3 (0, 0))) (some ⟨w.heap.size, 0, none⟩) [a] := fun _ => ⟨_, rfl, fun j x hx => by
  match j, hx with
  | 0, hx => cases hx; show (w.alloc _).cell? ⟨w.heap.size, 0, none⟩ = _; rw [cell_p (heap_alloc_new w _)]; rfl⟩
theorem room_rng (left : Int) (xs : List Int) (h : -1 ≤ left) (h0 : ∀ x ∈ xs, 0 ≤ x) : -1 ≤ room left xs ∧ room left xs ≤ max left (-1) := by
  induction xs generalizing left with
  | nil => simp only [room]; omega
  | cons x xs ih =>
    simp only [room]
    split
    · omega
    · have := ih (left - x) (by omega) (fun y hy => h0 y (by simp [hy]))
      have := h0 x (by simp)
      omega
theorem room2 {a b : Nat} (h : 0 ≤ room 200 [(a : Int), (b : Int)]) : a ≤ 200 ∧ b ≤ 200 := by
  simp only [room] at h
  split at h
  · omega
  · split at h <;> omega
theorem room1 {a : Int} {b : Nat} (h : 0 ≤ room a [(b : Int)]) : 0 ≤ a ∧ (b : Int) ≤ a := by
  simp only [room] at h
  split at h <;> omega
set_option maxRecDepth 20000 in
set_option maxHeartbeats 1000000 in
theorem setsL_any (A : Option Addr) (n c : Nat) (xs : List SetD) (w : World) (hx : SetsAt w A xs) (hn : n = xs.length) :
    Calls Tryz.prog 5 #[.slice A n c] w (SetsPost n xs w) := by
  have HX := Lib.hid hx
  have HN := Lib.hid hn
  clear hx hn
  go_enter Tryz.func5, Tryz.ntmps5
  go_wp2_with fail
  go_loopw [3] (fun i wr => ∃ k : Nat, i = .int .i64 k ∧ k ≤ n ∧ k ≤ 60 ∧ Below w.heap.size w wr ∧ ∀ j x, j < k → xs[j]? = some x → SmallSet x) (fun i _ => n - (intOf i).toNat)
  case atStart => exact ⟨0, rfl, Nat.zero_le _, Nat.zero_le _, Below.refl _ _, fun j x h => by omega⟩
  case round =>
    obtain ⟨k, rfl, hk, hk60, hbw, hall⟩ := hrel
    have HB := Lib.hid hbw
    have HALL := Lib.hid hall
    clear hbw hall
    obtain ⟨W1, rfl⟩ : ∃ W : World, W = wr := ⟨wr, rfl⟩
    by_cases hlt : k < n
    · by_cases h60 : k < 60
      · have hxl : k < xs.length := by have := HN.out; omega
        obtain ⟨x, hxk⟩ : ∃ x, xs[k]? = some x := ⟨_, List.getElem?_eq_getElem hxl⟩
        obtain ⟨ad, hA, L, n1, c1, T, m, d, h0w, h1w, hs⟩ := sets_at (Below.refl _ w) HX.out hxk
        subst hA
        have h0 := cell_below HB.out h0w
        have h1 := cell_below HB.out h1w
        have HC1 := Lib.hid h1w
        clear h0w h1w
        obtain ⟨hs1, -, hs3, hs4⟩ := hs
        have HXK := Lib.hid hxk
        have HS1 := Lib.hid hs1
        have HS3 := Lib.hid hs3
        have HS4 := Lib.hid hs4
        have hi0 : (0 : Int) ≤ k := by omega
        have hi1 : (k : Int) < n := by omega
        clear hxk hs1 hs3 hs4 hxl
        go_wp2_with fail
        have hr0 := room_rng 200 [(n1 : Int), (m : Int)] (by omega) (by simp)
        go_region_held3 (fun w' => w'.cell? (ad.add (k * 2)) = some (.slice L n1 c1) ∧ w'.cell? ⟨(ad.add (k * 2)).block, (ad.add (k * 2)).off + 1, none⟩ = some (.slice T m d))
          (go_keep)
          ((first
            | (go_at_call 24; refine (roomV_any 200 (some ⟨W1.heap.size, 0, none⟩) 2 2 [(n1 : Int), (m : Int)] _ (ints_new2 W1.drew (n1 : Int) (m : Int)) rfl (by omega) (by simp) (by omega)).mono ?_; rintro e w5 ⟨rfl, rfl⟩)))
        obtain ⟨R0, hR0⟩ : ∃ R0, room 200 [(n1 : Int), (m : Int)] = R0 := ⟨_, rfl⟩
        rw [hR0] at hr0
        rw [hR0]
        have HR0 := Lib.hid hR0
        have HBI : Hid (Below w.heap.size w (W1.alloc (.cells #[.int .i64 (n1 : Int), .int .i64 (m : Int)] 3 (0, 0))).drew) := Lib.hid ((HB.out.alloc HB.out.size _).trans ⟨rfl, rfl, rfl, Nat.le_refl _, fun _ _ => rfl⟩)
        clear hR0
        go_wp2_with fail
        go_loopw [4, 5] (fun r i wl => ∃ (a : Int) (j : Nat), r = .int .i64 a ∧ i = .int .i64 j ∧ j ≤ m ∧ -1 ≤ a ∧ a ≤ 200 ∧ (0 ≤ a → 0 ≤ R0) ∧ Below w.heap.size w wl ∧ (0 ≤ a → ∀ i t, i < j → x.takes[i]? = some t → t.pl.length ≤ 200)) (fun _ i _ => m - (intOf i).toNat)
        case atStart => exact ⟨R0, 0, rfl, rfl, Nat.zero_le _, hr0.1, by omega, id, HBI.out, fun _ i t h => by omega⟩
        case round =>
          obtain ⟨a, j, rfl, rfl, hj, ha1, ha2, haR, hbl, htk⟩ := hrel
          have HBL := Lib.hid hbl
          have HTK := Lib.hid htk
          have HAR := Lib.hid haR
          clear hbl htk haR h0 h1
          obtain ⟨W2, rfl⟩ : ∃ W : World, W = wr := ⟨wr, rfl⟩
          have h1 := cell_below HBL.out HC1.out
          by_cases hjm : j < m
          · by_cases ha : 0 ≤ a
            · have hjl : j < x.takes.length := by have := HS3.out; omega
              obtain ⟨y, hjy⟩ : ∃ y, x.takes[j]? = some y := ⟨_, List.getElem?_eq_getElem hjl⟩
              obtain ⟨at_, Q, pn, pc, hT, hpn, hpl, k0, k1, k2, k3⟩ := take_at HBL.out HS4.out hjy
              subst hT
              have HJY := Lib.hid hjy
              have HPN := Lib.hid hpn
              have hj0 : (0 : Int) ≤ j := by omega
              have hj1 : (j : Int) < m := by omega
              have hjI : (j : Int) ≤ 1000 := by have h2 : 0 ≤ room 200 [(n1 : Int), (m : Int)] := (by rw [HR0.out]; exact HAR.out ha); have h3 := room2 h2; omega
              clear hjy hjl hpl hpn k0 k1 k2
              go_wp2_with (go_at_call 24; refine (roomV_any a (some ⟨W2.heap.size, 0, none⟩) 1 1 [(pn : Int)] _ (ints_new1 W2 (pn : Int)) rfl (by omega) (by simp) (by omega)).mono ?_; rintro e w5 ⟨rfl, rfl⟩)
              have hrr := room_rng a [(pn : Int)] ha1 (by simp)
              go_roundw
              case rel =>
                refine ⟨room a [(pn : Int)], j + 1, rfl, by go_num, by omega, hrr.1, by omega, fun h => HAR.out (room1 h).1, HBL.out.alloc HBL.out.size _, fun h i t hi ht => ?_⟩
                by_cases hij : i = j
                · subst hij
                  have e := HJY.out.symm.trans ht
                  injection e with e
                  rw [← e]
                  have h2 := (room1 h).2
                  have h3 := HPN.out
                  omega
                · exact HTK.out ha i t (by omega) ht
              case measure => simp [intOf]; omega
            · go_wp2_with fail
              refine bodyPost_ret (results_tmp rfl _ _ _) rfl ?_
              exact ⟨HBL.out, false, rfl, fun h => by cases h⟩
          · by_cases ha : 0 ≤ a
            · go_wp2_with fail
              go_roundw
              case rel =>
                refine ⟨k + 1, by go_num, by omega, by omega, HBL.out, fun i x' hi hx' => ?_⟩
                by_cases hik : i = k
                · subst hik
                  have e := HXK.out.symm.trans hx'
                  injection e with e
                  rw [← e]
                  have h2 : 0 ≤ room 200 [(n1 : Int), (m : Int)] := by rw [HR0.out]; exact HAR.out ha
                  have h3 := room2 h2
                  have h4 := HS1.out
                  have h5 := HS3.out
                  refine ⟨by omega, by omega, fun t ht => ?_⟩
                  obtain ⟨q, hq, rfl⟩ := List.getElem_of_mem ht
                  exact HTK.out ha q _ (by omega) (List.getElem?_eq_getElem hq)
                · exact HALL.out i x' (by omega) hx'
              case measure => simp [intOf]; omega
            · go_wp2_with fail
              refine bodyPost_ret (results_tmp rfl _ _ _) rfl ?_
              exact ⟨HBL.out, false, rfl, fun h => by cases h⟩
      · have h40 : (40 : Int) < n := by omega
        go_wp2_with fail
        refine bodyPost_ret (results_tmp rfl _ _ _) rfl ?_
        exact ⟨HB.out, false, by first | rfl | (simp; omega), fun h => by cases h⟩
    · by_cases h4 : n ≤ 40
      · have h40 : (n : Int) ≤ 40 := by omega
        go_wp2_with fail
        refine bodyPost_ret (results_tmp rfl _ _ _) rfl ?_
        refine ⟨HB.out, true, by first | rfl | (simp; omega), fun _ => ⟨h4, fun x hx => ?_⟩⟩
        obtain ⟨q, hq, rfl⟩ := List.getElem_of_mem hx
        exact HALL.out q _ (by have := HN.out; omega) (List.getElem?_eq_getElem hq)
      · have h40 : (40 : Int) < n := by omega
        go_wp2_with fail
        refine bodyPost_ret (results_tmp rfl _ _ _) rfl ?_
        exact ⟨HB.out, false, by first | rfl | (simp; omega), fun h => by cases h⟩
end Go.Proofs.YtgmbppfkkiobhaaGreat.Wire
