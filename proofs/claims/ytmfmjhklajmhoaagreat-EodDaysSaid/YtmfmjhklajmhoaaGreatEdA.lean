/- Days of business: which day is one, and that there is always a next one. -/
import Derived.Below
import Derived.Test.YtmfmjhklajmhoaaGreatProg
import Derived.Lib.Hide
import Derived.Maps.OwnSet
import Derived.OwnWalk
import Derived.IntWalk
import Derived.WalkKit
import Derived.LoopTactic
import Derived.Handy
import Derived.BigQuiet
import Derived.Shelf.SlMaps.Clone
import Derived.Lib.BufferMore
import Derived.Lib.BufferWrite
import Derived.Deep.RegionHeld3
import Derived.Deep.DeepCutAuto
namespace Go.Proofs.YtmfmjhklajmhoaaGreat.Ed
def openDay (E : List Int) (d : Int) : Bool := decide (0 ≤ d) && (decide (d ≤ 1000000) && (decide (d.tmod 7 < 5) && !(E.contains d)))
theorem nodup_le : ∀ {l E : List Int}, l.Nodup → (∀ x ∈ l, x ∈ E) → l.length ≤ E.length
 | [], E, _, _ => by simp
 | x :: l, E, hn, hs => by
   obtain ⟨hx, hn⟩ := List.nodup_cons.1 hn
   have hm : x ∈ E := hs x (by simp)
   have h1 : l.length ≤ (E.erase x).length := nodup_le hn fun y hy => by
    have hne : y ≠ x := fun e => hx (e ▸ hy)
    exact (List.mem_erase_of_ne hne).2 (hs y (by simp [hy]))
   have h2 := List.length_erase_of_mem hm
   have h3 : 1 ≤ E.length := List.length_pos_of_mem hm
   simp only [List.length_cons]
   omega
def monday (t : Int) (j : Nat) : Int := 7 * (t / 7 + 1 + j)
def mondays (t : Int) : Nat → List Int
 | 0 => []
 | n + 1 => monday t n :: mondays t n
theorem mondays_length (t : Int) : ∀ n, (mondays t n).length = n
 | 0 => rfl
 | n + 1 => by simp [mondays, mondays_length t n]
theorem mondays_mem {t x : Int} : ∀ {n}, x ∈ mondays t n → ∃ j, j < n ∧ x = monday t j
 | 0, h => by simp [mondays] at h
 | n + 1, h => by
   simp only [mondays, List.mem_cons] at h
   rcases h with rfl | h
   · exact ⟨n, by omega, rfl⟩
   · obtain ⟨j, hj, e⟩ := mondays_mem h
     exact ⟨j, by omega, e⟩
theorem mondays_nodup (t : Int) : ∀ n, (mondays t n).Nodup
 | 0 => List.nodup_nil
 | n + 1 => by
   refine List.nodup_cons.2 ⟨fun h => ?_, mondays_nodup t n⟩
   obtain ⟨j, hj, e⟩ := mondays_mem h
   unfold monday at e
   omega
theorem next_there (E : List Int) (m : Nat) (hE : E.length ≤ m) (t : Int) (h0 : -1 ≤ t) (h1 : t + 7 * m + 14 ≤ 1000000) : ∃ d, t < d ∧ d ≤ t + 7 * m + 14 ∧ openDay E d = true := by
 have : ∃ j, j < m + 1 ∧ ¬ monday t j ∈ E := by
  refine Classical.byContradiction fun hn => ?_
  have hall : ∀ x ∈ mondays t (m + 1), x ∈ E := fun x hx => by
   obtain ⟨j, hj, rfl⟩ := mondays_mem hx
   exact Classical.byContradiction fun h => hn ⟨j, hj, h⟩
  have := nodup_le (mondays_nodup t (m + 1)) hall
  rw [mondays_length] at this
  omega
 obtain ⟨j, hj, hn⟩ := this
 have hb : t < monday t j ∧ monday t j ≤ t + 7 * m + 14 ∧ 0 ≤ monday t j := by
  unfold monday
  omega
 refine ⟨monday t j, hb.1, hb.2.1, ?_⟩
 unfold openDay
 have h7 : (monday t j).tmod 7 = 0 := by
  rw [Int.tmod_eq_emod_of_nonneg hb.2.2]
  unfold monday
  omega
 simp [h7, hb.2.2, hn]
 omega
def nextUp (p : Int → Bool) : Nat → Int → Int
 | 0, _ => -1
 | n + 1, d => bif p (d + 1) then d + 1 else nextUp p n (d + 1)
theorem nextUp_open (p : Int → Bool) : ∀ (n : Nat) (t d : Int), t < d → d ≤ t + n → p d = true → t < nextUp p n t ∧ nextUp p n t ≤ d ∧ p (nextUp p n t) = true
 | 0, t, d, h1, h2, _ => by omega
 | n + 1, t, d, h1, h2, h3 => by
   unfold nextUp
   cases h : p (t + 1) with
   | true => exact ⟨by simp; omega, by simp; omega, by simpa using h⟩
   | false =>
     have hne : d ≠ t + 1 := fun e => by rw [e, h] at h3; cases h3
     have := nextUp_open p n (t + 1) d (by omega) (by omega) h3
     simp only [cond_false]
     exact ⟨by omega, this.2.1, this.2.2⟩
end Go.Proofs.YtmfmjhklajmhoaaGreat.Ed
/- The calendar: which days are days of business. -/
namespace Go.Proofs.YtmfmjhklajmhoaaGreat.Ed
open Go Go.RowKit Go.Lib Go.Maps
def CalAt (w : World) (c : Nat) (n : Nat) (D : DataW Unit) : Prop :=
 ∃ b, w.cell? ⟨c, 0, none⟩ = some (.map (some b)) ∧ w.ownsMap Tryz.prog 3 unitElem b n D
theorem kInt : Keyed Tryz.prog 3 := int_keyed Tryz.underlying3
def dayB (d : Int) : Bool := decide (0 ≤ d) && decide (d ≤ 1000000)
theorem isDay_any (d : Int) (w : World) : Calls Tryz.prog 25 #[.int .i64 d] w fun e w' => e = .returned (.bool (dayB d)) ∧ w = w' := by
 go_enter Tryz.func25, Tryz.ntmps25
 go_wp2_with fail
 all_goals
  rename_i h
  refine bodyPost_ret (results_tmp rfl _ _ _) rfl ⟨?_, rfl⟩
  simp [dayB, h]
  try omega
def openD (D : DataW Unit) (d : Int) : Bool := dayB d && (decide (d.tmod 7 < 5) && !(Maps.has D (.int .i64 d)))
set_option maxRecDepth 20000 in
theorem is_any (c n : Nat) (D : DataW Unit) (d : Int) (hd : Lit.wf (.int .i64 d) = true) (w : World) (hc : CalAt w c n D) :
 Calls Tryz.prog 10 #[.pointer (some ⟨c, 0, none⟩), .int .i64 d] w fun e w' => e = .returned (.bool (openD D d)) ∧ Below w.heap.size w w' := by
 obtain ⟨b, hm, ho⟩ := hc
 go_enter Tryz.func10, Tryz.ntmps10
 go_wp2_with (first
  | (go_at_call 25; refine (isDay_any d _).mono ?_; rintro e w1 ⟨rfl, rfl⟩)
  | (at_lookup; refine wpList_lookup_own_unit _ rfl _ _ 85 rfl 3 87 kInt Tryz.underlying85 (Tryz.zeroValue87 _) b n D rfl ho _ _ rfl (keyOf_int_mk Tryz.underlying3 hd) ?_))
 · rename_i h1 h2
   refine bodyPost_ret (results_tmp rfl _ _ _) rfl ⟨?_, Below.refl _ w⟩
   simp [openD, h1]
   omega
 · rename_i h1 h2
   refine bodyPost_ret (results_tmp rfl _ _ _) rfl ⟨?_, ?_⟩
   · simp [openD, h1, h2]
   · exact (Below.refl _ w).alloc (Nat.le_refl _) _
 · rename_i h1
   refine bodyPost_ret (results_tmp rfl _ _ _) rfl ⟨?_, Below.refl _ w⟩
   simp [openD, h1]
theorem CalAt.below {w w' : World} {B c n : Nat} {D : DataW Unit} (h : CalAt w c n D) (hb : Below B w w') (hB : ∀ b, w.cell? ⟨c, 0, none⟩ = some (.map (some b)) → b < B) (hc : c < B) : CalAt w' c n D := by
 obtain ⟨b, hm, ho⟩ := h
 refine ⟨b, (hb.cell (p := ⟨c, 0, none⟩) hc).trans hm, ?_⟩
 obtain ⟨es, clk, h1, h2⟩ := ho
 exact ⟨es, clk, (hb.block b (hB b hm)).trans h1, h2⟩
theorem CalAt.new {w w' : World} {c n : Nat} {D : DataW Unit} (h : CalAt w c n D) (hb : Below w.heap.size w w') : CalAt w' c n D := by
 obtain ⟨b, hm, ho⟩ := h
 exact CalAt.below ⟨b, hm, ho⟩ hb (fun b' e => by rw [hm] at e; cases e; exact ho.lt) (World.block_lt_of_cell? w _ hm)
def nextD (D : DataW Unit) (t : Int) : Int := nextUp (openD D) (1000000 - t).toNat t
theorem wf_day {d : Int} (h0 : -1 ≤ d) (h1 : d ≤ 1000000) : Lit.wf (.int .i64 d) = true := by
 unfold Lit.wf
 rw [Bool.and_eq_true, decide_eq_true_eq, decide_eq_true_eq]
 have h2 : IntKind.i64.min = -9223372036854775808 := by decide
 have h3 : IntKind.i64.max = 9223372036854775807 := by decide
 rw [h2, h3]
 omega
set_option maxRecDepth 20000 in
theorem next_any (c n : Nat) (D : DataW Unit) (t : Int) (ht : -1 ≤ t) (w : World) (hc : CalAt w c n D) :
 Calls Tryz.prog 7 #[.pointer (some ⟨c, 0, none⟩), .int .i64 t] w fun e w' => e = .returned (.int .i64 (nextD D t)) ∧ Below w.heap.size w w' := by
 go_enter Tryz.func7, Tryz.ntmps7
 go_wp2_with fail
 go_loopw [1] (fun l wr => ∃ d : Int, l = .int .i64 d ∧ -1 ≤ d ∧ nextUp (openD D) (1000000 - d).toNat d = nextD D t ∧ Below w.heap.size w wr) (fun l _ => (1000000 - intOf l).toNat)
 case atStart => exact ⟨t, rfl, ht, rfl, Below.refl _ w⟩
 case round =>
  obtain ⟨d, rfl, hd, hn, hb⟩ := hrel
  have HC := Lib.hid (hc.new hb)
  have HB := Lib.hid hb
  have HN := Lib.hid hn
  clear hc hb hn
  by_cases hlt : d < 1000000
  · have hwf : Lit.wf (.int .i64 (d + 1)) = true := wf_day (by omega) (by omega)
    have hup : nextUp (openD D) (1000000 - d).toNat d = bif openD D (d + 1) then d + 1 else nextUp (openD D) (1000000 - (d + 1)).toNat (d + 1) := by
     obtain ⟨k, hk⟩ : ∃ k, (1000000 - d).toNat = k + 1 := ⟨(1000000 - d).toNat - 1, by omega⟩
     rw [hk, show (1000000 - (d + 1)).toNat = k by omega]
     rfl
    rw [HN.out] at hup
    have HU := Lib.hid hup
    clear hup
    go_wp2_with (go_at_call 10; refine (is_any c n D (d + 1) hwf _ HC.out).mono ?_; rintro e w1 ⟨rfl, hb1⟩)
    case roundEnd =>
     rename_i ho
     have hu := HU.out
     rw [ho] at hu
     go_roundw
     case rel => exact ⟨d + 1, by go_num, by omega, hu.symm, HB.out.trans (hb1.mono HB.out.size)⟩
     case measure => simp [intOf]; omega
    rename_i ho
    refine bodyPost_ret (results_tmp rfl _ _ _) rfl ⟨?_, HB.out.trans (hb1.mono HB.out.size)⟩
    have hu := HU.out
    rw [ho] at hu
    rw [hu]
    rfl
  · go_wp2_with fail
    refine bodyPost_ret (results_tmp rfl _ _ _) rfl ⟨?_, HB.out⟩
    rw [← HN.out, show (1000000 - d).toNat = 0 by omega]
    rfl
end Go.Proofs.YtmfmjhklajmhoaaGreat.Ed
/- The calendar: days are closed. -/
namespace Go.Proofs.YtmfmjhklajmhoaaGreat.Ed
open Go Go.RowKit Go.Lib Go.Maps
def DaysAt (w : World) (A : Option Addr) (xs : List Int) : Prop := xs ≠ [] → ∃ ad, A = some ad ∧ ∀ j x, xs[j]? = some x → w.cell? (ad.add j) = some (.int .i64 x)
theorem not_any (d : Int) (w : World) : Calls Tryz.prog 24 #[.int .i64 d] w fun e w' => e = .returned (.bool (!dayB d)) ∧ w = w' := by
 go_enter Tryz.func24, Tryz.ntmps24
 go_wp2_with (go_at_call 25; refine (isDay_any d _).mono ?_; rintro e w1 ⟨rfl, rfl⟩)
 refine bodyPost_ret (results_tmp rfl _ _ _) rfl ⟨rfl, rfl⟩
def daysB (xs : List Int) : Bool := xs.all dayB
set_option maxRecDepth 20000 in
theorem index_any (A : Option Addr) (m c : Nat) (xs : List Int) (w : World) (hx : DaysAt w A xs) (hm : xs.length = m) (hm2 : m ≤ 100000) :
 Calls Tryz.prog 77 #[.slice A m c, .func (.func 24) #[] #[]] w fun e w' => (∃ k : Int, e = .returned (.int .i64 k) ∧ (0 ≤ k ↔ daysB xs = false)) ∧ w = w' := by
 have HX := Lib.hid hx
 have HM := Lib.hid hm
 clear hx hm
 go_enter Tryz.func77, Tryz.ntmps77
 go_wp2_with fail
 go_loop [5, 8] (fun _ i => ∃ k : Nat, i = .int .i64 k ∧ k ≤ m ∧ daysB (xs.take k) = true) (fun _ i => m - (intOf i).toNat)
 case atStart => exact ⟨0, rfl, Nat.zero_le _, rfl⟩
 case round =>
  obtain ⟨k, rfl, hk, hall⟩ := hrel
  have HA := Lib.hid hall
  clear hall
  by_cases hlt : k < m
  · have hxl : k < xs.length := by have := HM.out; omega
    obtain ⟨ad, hA, hcs⟩ := HX.out (by intro e0; rw [e0] at hxl; simp at hxl)
    subst hA
    have hcell : w.cell? (ad.add k) = some (.int .i64 xs[k]) := hcs k _ (List.getElem?_eq_getElem hxl)
    have htake : xs.take (k + 1) = xs.take k ++ [xs[k]] := List.take_succ_eq_append_getElem hxl
    have hmem : xs[k] ∈ xs := List.getElem_mem hxl
    generalize xs[k] = x at hcell htake hmem
    have HT := Lib.hid (And.intro htake hmem)
    clear hcs htake hmem
    go_wp2_with (go_at_call 24; refine (not_any x _).mono ?_; rintro e w1 ⟨rfl, rfl⟩)
    case roundEnd =>
     rename_i h
     have hd : dayB x = true := by simpa using h
     go_round
     case rel => exact ⟨k + 1, by go_num, by omega, by rw [HT.out.1]; unfold daysB; rw [List.all_append]; have := HA.out; unfold daysB at this; simp [this, hd]⟩
     case measure => simp [intOf]; omega
    rename_i h
    refine bodyPost_ret (results_tmp rfl _ _ _) rfl ⟨⟨k, rfl, ?_⟩, rfl⟩
    have hd : dayB x = false := by simpa using h
    refine ⟨fun _ => ?_, fun _ => by omega⟩
    unfold daysB
    rw [List.all_eq_false]
    exact ⟨x, HT.out.2, by simp [hd]⟩
  · go_wp2_with fail
    refine bodyPost_ret (results_tmp rfl _ _ _) rfl ⟨⟨-1, rfl, ?_⟩, rfl⟩
    have hk2 : k = xs.length := by have := HM.out; omega
    have h := HA.out
    rw [hk2, List.take_length] at h
    simp [h]
theorem contains_any (A : Option Addr) (m c : Nat) (xs : List Int) (w : World) (hx : DaysAt w A xs) (hm : xs.length = m) (hm2 : m ≤ 100000) :
 Calls Tryz.prog 23 #[.slice A m c, .func (.func 24) #[] #[]] w fun e w' => e = .returned (.bool (!daysB xs)) ∧ w = w' := by
 go_enter Tryz.func23, Tryz.ntmps23
 go_wp2_with (go_at_call 77; refine (index_any A m c xs _ hx hm hm2).mono ?_; rintro e w1 ⟨⟨k, rfl, hk⟩, rfl⟩)
 refine bodyPost_ret (results_tmp rfl _ _ _) rfl ⟨?_, rfl⟩
 cases h : daysB xs with
 | true => rw [h] at hk; simp at hk; simp; try omega
 | false => rw [h] at hk; simp at hk; simp; try omega
set_option maxRecDepth 20000 in
theorem clone_any (b n : Nat) (D : DataW Unit) (w : World) (ho : w.ownsMap Tryz.prog 3 unitElem b n D) :
 Calls Tryz.prog 26 #[.map (some b)] w fun e w' => e = .returned (.map (some w.heap.size)) ∧ ∃ es clk, w.heap[b]? = some (.map es clk) ∧ w' = w.alloc (.map es clk) := by
 obtain ⟨es, clk, hb, hF⟩ := ho
 have hq := fun w => run_eql_map_nil_sl (P := Tryz.prog) w 85 _ _ (some b) Tryz.underlying85
 go_enter Tryz.func26, Tryz.ntmps26
 go_wp2
 rw [run_callFunc_extern Tryz.func78 (by kernel_rfl) (by kernel_rfl) (by kernel_rfl) (e := Extern.MapsClone.clone) (by kernel_rfl), run_maps_clone_sl w 85 hb]
 simp only [Result.andThen]
 rw [Oper.upon_value]
 go_wp2
 rw [run_typeAssert_map_sl _ 85 _ _ _ _ Tryz.underlying85]
 simp only [Result.andThen]
 rw [Oper.upon_value]
 go_wp2
 exact bodyPost_ret (results_tmp rfl _ _ _) rfl ⟨rfl, es, clk, hb, rfl⟩
theorem belowG {B : Nat} {a b c : World} {r : Option Nat} (h : Below B a b) (k : b.grownBy c r) (hB : B ≤ b.heap.size) (hr : ∀ g, r = some g → B ≤ g) : Below B a c :=
 ⟨k.os.trans h.os, k.tape.trans h.tape, k.output.trans h.output, Nat.le_trans h.size k.size, fun i hi => (k.block i (by omega) (fun e => by have := hr i e.symm; omega)).trans (h.block i hi)⟩
structure Closed (w w' : World) (c n : Nat) : Prop where
 grown : w.grownBy w' (some c)
 cal : ∃ D : DataW Unit, CalAt w' c n D
 cells : ∀ cs t, w.heap[c]? = some (.cells cs t (0, 0)) → ∃ v, w'.heap[c]? = some (.cells (cs.setIfInBounds 0 v) t (0, 0))
set_option maxRecDepth 20000 in
theorem close_any (c n : Nat) (D : DataW Unit) (A : Option Addr) (m cc : Nat) (xs : List Int) (w : World) (hc : CalAt w c n D) (hx : DaysAt w A xs) (hm : xs.length = m) (hm2 : n + m ≤ 300)
 (hwf : ∀ x ∈ xs, Lit.wf (.int .i64 x) = true) (cs : Array Value) (t : TypeId) (hcc : w.heap[c]? = some (.cells cs t (0, 0))) :
 Calls Tryz.prog 6 #[.pointer (some ⟨c, 0, none⟩), .slice A m cc] w fun e w' =>
  (daysB xs = true ∧ e = .returned (.int .i64 0) ∧ Closed w w' c (n + m)) ∨ (daysB xs = false ∧ e = .returned (.int .i64 17) ∧ w' = w) := by
 obtain ⟨b, hm0, ho⟩ := hc
 go_enter Tryz.func6, Tryz.ntmps6
 have hq := fun w' => run_eql_map_nil_sl (P := Tryz.prog) w' 85 _ _ (some w.heap.size) Tryz.underlying85
 have HCC := Lib.hid hcc
 have HX := Lib.hid hx
 have HW := Lib.hid hwf
 clear hcc hwf hx
 go_wp2_with (first
  | (go_at_call 23; refine (contains_any A m cc xs _ HX.out hm (by omega)).mono ?_; rintro e w1 ⟨rfl, rfl⟩)
  | (go_at_call 26; refine (clone_any b n D _ ho).mono ?_; rintro e w1 ⟨rfl, es, clk, hb, rfl⟩))
 · rename_i h
   have hd : daysB xs = false := by simpa using h
   exact bodyPost_ret (results_tmp rfl _ _ _) rfl (.inr ⟨hd, rfl, rfl⟩)
 · have h : (!daysB xs) = false := by assumption
   have HD : Hid (daysB xs = true) := Lib.hid (by simpa using h)
   have HO : Hid ((w.alloc (.map es clk)).ownsMap Tryz.prog 3 unitElem w.heap.size n D) := Lib.hid (by
    obtain ⟨es', clk', hb', F, hs, hD⟩ := ho
    rw [hb] at hb'
    cases hb'
    exact ⟨es, clk, (MapKept.heap_alloc w _).1, F, hs, hD⟩)
   have HB : Hid (Below w.heap.size w (w.alloc (.map es clk))) := Lib.hid ((Below.refl _ w).alloc (Nat.le_refl _) _)
   have HM := Lib.hid hm
   have HM0 := Lib.hid hm0
   clear h hb ho hm hm0
   generalize w.alloc (.map es clk) = W at HO HB ⊢
   go_loopw [7, 24] (fun _ i wr => ∃ k : Nat, i = .int .i64 k ∧ k ≤ m ∧ (∃ D' : DataW Unit, wr.ownsMap Tryz.prog 3 unitElem w.heap.size (n + k) D') ∧ Below w.heap.size w wr) (fun _ i _ => m - (intOf i).toNat)
   case atStart => exact ⟨0, rfl, Nat.zero_le _, ⟨D, HO.out⟩, HB.out⟩
   case round =>
    obtain ⟨k, rfl, hk, ⟨D', ho'⟩, hb'⟩ := hrel
    have HO' := Lib.hid ho'
    have HB' := Lib.hid hb'
    clear ho' hb'
    by_cases hlt : k < m
    · have hxl : k < xs.length := by have := HM.out; omega
      obtain ⟨ad, hA, hcs⟩ := HX.out (by intro e0; rw [e0] at hxl; simp at hxl)
      subst hA
      have hcell0 : w.cell? (ad.add k) = some (.int .i64 xs[k]) := hcs k _ (List.getElem?_eq_getElem hxl)
      have hcell : wr.cell? (ad.add k) = some (.int .i64 xs[k]) := (HB'.out.cell (p := ad.add k) (World.block_lt_of_cell? w _ hcell0)).trans hcell0
      have hwx := HW.out _ (List.getElem_mem hxl)
      generalize xs[k] = x at hcell hwx
      clear hcs hcell0
      go_wp2_with (at_mapUpdate; refine wpList_mapUpdate_own _ rfl _ _ _ 85 rfl 3 87 kInt Tryz.underlying85 unitElem w.heap.size (n + k) D' rfl HO'.out (by unfold maxLen; omega) _ _ (.int .i64 x) rfl rfl (keyOf_int_mk Tryz.underlying3 hwx) _ [] unitElem_mk ?_; intro w2 hown2 hgrow2)
      case roundEnd =>
       go_roundw
       case rel => exact ⟨k + 1, by go_num, by omega, ⟨_, hown2⟩, belowG HB'.out hgrow2 HB'.out.size (fun g e => by cases e; exact Nat.le_refl _)⟩
       case measure => simp [intOf]; omega
    · have hkm : k = m := by omega
      subst hkm
      have hsz := HO'.out.size_le
      have HSZ : Hid (¬ (300 : Int) < (Maps.size D' : Int)) := Lib.hid (by omega)
      clear hsz
      have hcl : c < w.heap.size := World.block_lt_of_cell? w _ HM0.out
      have hfc : wr.heap[c]? = some (.cells cs t (0, 0)) := (HB'.out.block c hcl).trans HCC.out
      have HFC := Lib.hid hfc
      have HCL := Lib.hid hcl
      have f0 : wr.frozen? ⟨c, 0, none⟩ = false := by simp [World.frozen?, hfc]
      have c0 : wr.cell? ⟨c, 0, none⟩ = some (.map (some b)) := (HB'.out.cell (p := ⟨c, 0, none⟩) hcl).trans HM0.out
      clear hfc hcl
      go_wp2_with (at_len; refine wpList_len_own _ rfl _ 85 rfl 3 87 Tryz.underlying85 _ w.heap.size (n + k) D' rfl HO'.out ?_)
      have hset := Go.Lib.heap_setCell_same (i := 0) HFC.out (.map (some w.heap.size))
      have hg := Lib.grownBy_setCell wr c 0 (.map (some w.heap.size))
      have hb := HB'.out
      refine bodyPost_ret (results_tmp rfl _ _ _) rfl (.inl ⟨HD.out, rfl, ?_, ?_, ?_⟩)
      · exact ⟨hg.os.trans hb.os, hg.tape.trans hb.tape, hg.output.trans hb.output, Nat.le_trans hb.size hg.size, fun i hi hne => (hg.block i (by have := hb.size; omega) hne).trans (hb.block i hi)⟩
      · refine ⟨D', w.heap.size, ?_, HO'.out.setCell (by have := HCL.out; simp; omega) _⟩
        have hz : 0 < cs.size := by
         have h0 := HM0.out
         simp only [World.cell?, HCC.out] at h0
         exact (Array.getElem?_eq_some_iff.1 h0).1
        simp only [World.cell?, hset]
        simp [hz]
      · intro cs' t' h
        rw [HCC.out] at h
        cases h
        exact ⟨_, hset⟩
end Go.Proofs.YtmfmjhklajmhoaaGreat.Ed
/- A day's end where nobody owes and nothing is open. -/
namespace Go.Proofs.YtmfmjhklajmhoaaGreat.Ed
open Go Go.RowKit Go.Lib Go.Maps
def p0 (b : Nat) : Value := .pointer (some ⟨b, 0, none⟩)
set_option maxRecDepth 20000 in
theorem list_nil (b : Nat) (s : Value) (w : World) (hb : w.cell? ⟨b, 0, none⟩ = some (.slice none 0 0)) :
 Calls Tryz.prog 35 #[.pointer (some ⟨b, 0, none⟩), s] w fun e w' => e = .returned (.slice none 0 0) ∧ w = w' := by
 go_enter Tryz.func35, Tryz.ntmps35
 go_wp2_with fail
 go_loop [5, 15] (fun o i => o = .slice none 0 0 ∧ i = .int .i64 0) (fun _ _ => 0)
 case atStart => exact ⟨rfl, rfl⟩
 case round =>
  obtain ⟨rfl, rfl⟩ := hrel
  go_wp2_with fail
  exact bodyPost_ret (results_tmp rfl _ _ _) rfl ⟨rfl, rfl⟩
set_option maxRecDepth 20000 in
theorem expire_nil (b : Nat) (w : World) :
 Calls Tryz.prog 36 #[.pointer (some ⟨b, 0, none⟩), .slice none 0 0] w fun e w' => e = .returned (.int .i64 0) ∧ w = w' := by
 go_enter Tryz.func36, Tryz.ntmps36
 go_wp2_with fail
 go_loop [5, 11] (fun o i => o = .int .i64 0 ∧ i = .int .i64 0) (fun _ _ => 0)
 case atStart => exact ⟨rfl, rfl⟩
 case round =>
  obtain ⟨rfl, rfl⟩ := hrel
  go_wp2_with fail
  exact bodyPost_ret (results_tmp rfl _ _ _) rfl ⟨rfl, rfl⟩
structure HallAt (w : World) (hb r l b g li c n : Nat) (D : DataW Unit) (today : Int) : Prop where
 hall : ∃ tH, w.heap[hb]? = some (.cells #[p0 r, p0 l, p0 b, p0 g, p0 li, .int .i64 today] tH (0, 0))
 cref : w.cell? ⟨r, 0, none⟩ = some (p0 c)
 cal : CalAt w c n D
 book : w.cell? ⟨b, 0, none⟩ = some (.slice none 0 0)
 lines : ∃ tL, w.heap[li]? = some (.cells #[.map none] tL (0, 0))
theorem isNone_no {tH : TypeId} (hb r l b g li : Nat) (today : Int) (w : World) (h : w.heap[hb]? = some (.cells #[p0 r, p0 l, p0 b, p0 g, p0 li, .int .i64 today] tH (0, 0))) :
 Calls Tryz.prog 33 #[.pointer (some ⟨hb, 0, none⟩)] w fun e w' => e = .returned (.bool false) ∧ w = w' := by
 have h4 : w.cell? ⟨hb, 4, none⟩ = some (.pointer (some ⟨li, 0, none⟩)) := by simp [World.cell?, h, p0]
 clear h
 go_enter Tryz.func33, Tryz.ntmps33
 go_wp2_with fail
 exact bodyPost_ret (results_tmp rfl _ _ _) rfl ⟨rfl, rfl⟩
set_option maxRecDepth 20000 in
theorem old_nil {tH : TypeId} (hb r l b g li : Nat) (today : Int) (w : World) (h : w.heap[hb]? = some (.cells #[p0 r, p0 l, p0 b, p0 g, p0 li, .int .i64 today] tH (0, 0))) (hbk : w.cell? ⟨b, 0, none⟩ = some (.slice none 0 0)) :
 Calls Tryz.prog 37 #[.pointer (some ⟨hb, 0, none⟩)] w fun e w' => e = .returned (.slice none 0 0) ∧ Below w.heap.size w w' := by
 have h2 : w.cell? ⟨hb, 2, none⟩ = some (.pointer (some ⟨b, 0, none⟩)) := by simp [World.cell?, h, p0]
 have H := Lib.hid h
 have HBK := Lib.hid hbk
 clear h hbk
 go_enter Tryz.func37, Tryz.ntmps37
 go_wp2_with (first
  | (go_at_call 33; refine (isNone_no hb r l b g li today _ H.out).mono ?_; rintro e w1 ⟨rfl, rfl⟩)
  | (go_at_call 35; refine (list_nil b _ _ ((((Below.refl _ w).alloc (Nat.le_refl _) _).cell (p := ⟨b, 0, none⟩) (World.block_lt_of_cell? w _ HBK.out)).trans HBK.out)).mono ?_; rintro e w1 ⟨rfl, rfl⟩))
 have HB := Lib.hid ((Below.refl _ w).alloc (Nat.le_refl _) (.cells #[.int .i64 0, .int .i64 1, .int .i64 2] 3))
 generalize w.alloc (.cells #[.int .i64 0, .int .i64 1, .int .i64 2] 3) = W at HB ⊢
 go_loop [3, 15] (fun o i => o = .slice none 0 0 ∧ i = .int .i64 0) (fun _ _ => 0)
 case atStart => exact ⟨rfl, rfl⟩
 case round =>
  obtain ⟨rfl, rfl⟩ := hrel
  go_wp2_with fail
  exact bodyPost_ret (results_tmp rfl _ _ _) rfl ⟨rfl, HB.out⟩
def NoLoans : Prop := ∀ (li : Nat) (w : World) (tL : TypeId), w.heap[li]? = some (.cells #[.map none] tL (0, 0)) →
 Calls Tryz.prog 95 #[.pointer (some ⟨li, 0, none⟩), .slice none 0 0] w fun e w' => e = .returned (.slice none 0 0) ∧ Below w.heap.size w w'
set_option maxRecDepth 20000 in
theorem repay_nil {tH tL : TypeId} (hl : NoLoans) (hb r l b g li : Nat) (today : Int) (w : World) (h : w.heap[hb]? = some (.cells #[p0 r, p0 l, p0 b, p0 g, p0 li, .int .i64 today] tH (0, 0))) (hli : w.heap[li]? = some (.cells #[.map none] tL (0, 0))) :
 Calls Tryz.prog 34 #[.pointer (some ⟨hb, 0, none⟩)] w fun e w' => e = .returned (.tuple #[.slice none 0 0, .slice none 0 0]) ∧ Below w.heap.size w w' := by
 have h4 : w.cell? ⟨hb, 4, none⟩ = some (.pointer (some ⟨li, 0, none⟩)) := by simp [World.cell?, h, p0]
 have H := Lib.hid h
 have HLI := Lib.hid hli
 have HL := Lib.hid hl
 clear h hli hl
 go_enter Tryz.func34, Tryz.ntmps34
 go_wp2_with (first
  | (go_at_call 33; refine (isNone_no hb r l b g li today _ H.out).mono ?_; rintro e w1 ⟨rfl, rfl⟩)
  | (go_at_call 95; refine (HL.out li _ _ HLI.out).mono ?_; rintro e W ⟨rfl, hB⟩))
 have HB := Lib.hid hB
 clear hB
 go_loop [4, 5, 20] (fun o o2 i => o = .slice none 0 0 ∧ o2 = .slice none 0 0 ∧ i = .int .i64 0) (fun _ _ _ => 0)
 case atStart => exact ⟨rfl, rfl, rfl⟩
 case round =>
  obtain ⟨rfl, rfl, rfl⟩ := hrel
  go_wp2_with fail
  exact bodyPost_ret (v := .tuple #[.slice none 0 0, .slice none 0 0]) (by simp [results, Tryz.results34, go_sem]) rfl ⟨rfl, HB.out⟩
theorem HallAt.new {w w' : World} {hb r l b g li c n : Nat} {D : DataW Unit} {today : Int} (h : HallAt w hb r l b g li c n D today) (hB : Below w.heap.size w w') : HallAt w' hb r l b g li c n D today := by
 obtain ⟨⟨tH, h0⟩, h1, h2, h3, ⟨tL, h4⟩⟩ := h
 exact ⟨⟨tH, (hB.block hb (Array.getElem?_eq_some_iff.1 h0).1).trans h0⟩, (hB.cell (p := ⟨r, 0, none⟩) (World.block_lt_of_cell? w _ h1)).trans h1, h2.new hB,
  (hB.cell (p := ⟨b, 0, none⟩) (World.block_lt_of_cell? w _ h3)).trans h3, ⟨tL, (hB.block li (Array.getElem?_eq_some_iff.1 h4).1).trans h4⟩⟩
theorem HallAt.cells {w : World} {hb r l b g li c n : Nat} {D : DataW Unit} {today : Int} (h : HallAt w hb r l b g li c n D today) :
 w.cell? ⟨hb, 0, none⟩ = some (p0 r) ∧ w.cell? ⟨hb, 2, none⟩ = some (p0 b) ∧ w.cell? ⟨hb, 4, none⟩ = some (p0 li) ∧ w.cell? ⟨hb, 5, none⟩ = some (.int .i64 today) ∧ w.frozen? ⟨hb, 5, none⟩ = false := by
 obtain ⟨tH, h0⟩ := h.hall
 refine ⟨?_, ?_, ?_, ?_, ?_⟩ <;> simp [World.cell?, World.frozen?, h0]
theorem gb_trans {a b c : World} {p : Nat} (h : a.grownBy b (some p)) (k : b.grownBy c (some p)) : a.grownBy c (some p) :=
 ⟨k.os.trans h.os, k.tape.trans h.tape, k.output.trans h.output, Nat.le_trans h.size k.size, fun i hi hne => (k.block i (by have := h.size; omega) hne).trans (h.block i hi hne)⟩
theorem sb_drew {a w : World} (h : Below a.heap.size a w) : Below a.heap.size a w.drew := ⟨h.os, h.tape, h.output, h.size, h.block⟩
theorem sb_step {a s d : World} (h : Below a.heap.size a s) (hb : Below s.heap.size s d) : Below a.heap.size a d := h.trans (hb.mono h.size)
set_option maxRecDepth 20000 in
set_option maxHeartbeats 4000000 in
theorem end_any (hl : NoLoans) (hb r l b g li c n : Nat) (D : DataW Unit) (today : Int) (w : World) (h : HallAt w hb r l b g li c n D today) (ht : -1 ≤ today) (hn : 0 ≤ nextD D today) :
 Calls Tryz.prog 9 #[.pointer (some ⟨hb, 0, none⟩)] w fun e w' => e = .returned (.tuple #[.agg #[.slice none 0 0, .slice none 0 0, .slice none 0 0, .int .i64 (nextD D today)], .int .i64 0]) ∧ w.grownBy w' (some hb) ∧
  ∃ tH, w'.heap[hb]? = some (.cells #[p0 r, p0 l, p0 b, p0 g, p0 li, .int .i64 (nextD D today)] tH (0, 0)) := by
 have hB0 : Below w.heap.size w (w.alloc (.cells #[.slice none 0 0, .slice none 0 0, .slice none 0 0, .int .i64 0] 48)) := (Below.refl _ w).alloc (Nat.le_refl _) _
 have HA := Lib.hid (h.new hB0)
 have HB0 := Lib.hid hB0
 have hs0 : (w.alloc (.cells #[.slice none 0 0, .slice none 0 0, .slice none 0 0, .int .i64 0] 48)).heap[w.heap.size]? = some (.cells #[.slice none 0 0, .slice none 0 0, .slice none 0 0, .int .i64 0] 48 (0, 0)) := heap_alloc_new w _
 have HS0 := Lib.hid hs0
 have HH := Lib.hid h
 clear h hs0 hB0
 obtain ⟨tH, hHA⟩ := HA.out.hall
 have HHA := Lib.hid hHA
 clear hHA
 go_enter Tryz.func9, Tryz.ntmps9
 go_wp2_with (first
  | (go_at_call 33; refine (isNone_no hb r l b g li today _ HHA.out).mono ?_; rintro e w1 ⟨rfl, rfl⟩))
 clear HHA
 generalize w.alloc (.cells #[.slice none 0 0, .slice none 0 0, .slice none 0 0, .int .i64 0] 48) = W at HA HB0 HS0 ⊢
 have hS0 : Below W.heap.size W W.drew := sb_drew (Below.refl _ _)
 obtain ⟨k0, _, _, k5, _⟩ := HA.out.cells
 have k1 := HA.out.cref
 unfold p0 at k0 k1
 have HK := Lib.hid (And.intro (World.block_lt_of_cell? W _ k0) (World.block_lt_of_cell? W _ k1))
 have HY : Hid (0 ≤ nextD D today) := Lib.hid hn
 clear hn
 go_region_held3 (fun w' => Below W.heap.size W w' ∧ w'.cell? ⟨hb, 0, none⟩ = some (.pointer (some ⟨r, 0, none⟩)) ∧ w'.cell? ⟨r, 0, none⟩ = some (.pointer (some ⟨c, 0, none⟩)) ∧ w'.cell? ⟨hb, 5, none⟩ = some (.int .i64 today))
  (first
   | (have hI : Below W.heap.size W _ := (by first | assumption | exact sb_drew (by assumption) | exact Below.refl _ _)
      exact ⟨hI, (hI.cell (p := ⟨hb, 0, none⟩) HK.out.1).trans k0, (hI.cell (p := ⟨r, 0, none⟩) HK.out.2).trans k1, (hI.cell (p := ⟨hb, 5, none⟩) HK.out.1).trans k5⟩)
   | go_keep)
  ((first
    | (go_at_call 7; refine (next_any c n D today ht _ (HA.out.cal.new (by first | assumption | exact sb_drew (by assumption)))).mono ?_; rintro e w2 ⟨rfl, hb2⟩; have hx2 : Below W.heap.size W w2 := sb_step (by first | assumption | exact sb_drew (by assumption)) hb2)))
 have hA2 := HA.out.new hx2
 have hS2 : w2.heap[w.heap.size]? = some (.cells #[.slice none 0 0, .slice none 0 0, .slice none 0 0, .int .i64 0] 48 (0, 0)) := (hx2.block _ (Array.getElem?_eq_some_iff.1 HS0.out).1).trans HS0.out
 have hB2 : Below w.heap.size w w2 := HB0.out.trans (hx2.mono HB0.out.size)
 have hlt2 : w.heap.size < w2.heap.size := (Array.getElem?_eq_some_iff.1 hS2).1
 have HA2 := Lib.hid hA2
 have HS2 := Lib.hid hS2
 have HB2 := Lib.hid hB2
 have HL2 := Lib.hid hlt2
 clear hx2 hb2 hA2 hS2 hB2 hlt2 hS0 k0 k1 k5 HA HB0 HS0 HK
 have hn0 : ¬ nextD D today < 0 := by have := HY.out; omega
 obtain ⟨y, hy⟩ : ∃ y, nextD D today = y := ⟨_, rfl⟩
 rw [hy] at hn0 ⊢
 have hb3 : Below w2.heap.size w2 (w2.alloc (.cells #[.slice none 0 0, .slice none 0 0, .slice none 0 0, .int .i64 y] 48)) := (Below.refl _ w2).alloc (Nat.le_refl _) _
 have HA3 := Lib.hid (HA2.out.new hb3)
 obtain ⟨tH3, hH3⟩ := HA3.out.hall
 obtain ⟨tL3, hL3⟩ := HA3.out.lines
 have HR := Lib.hid (repay_nil hl hb r l b g li today _ hH3 hL3)
 clear hH3 hL3
 have hx3 : ∀ w4, Below (w2.alloc (.cells #[.slice none 0 0, .slice none 0 0, .slice none 0 0, .int .i64 y] 48)).heap.size (w2.alloc (.cells #[.slice none 0 0, .slice none 0 0, .slice none 0 0, .int .i64 y] 48)) w4 →
  w4.heap[w2.heap.size]? = some (.cells #[.slice none 0 0, .slice none 0 0, .slice none 0 0, .int .i64 y] 48 (0, 0)) ∧ w4.frozen? ⟨w2.heap.size, 0, none⟩ = false ∧ w4.frozen? ⟨w2.heap.size, 1, none⟩ = false ∧ w4.cell? ⟨w2.heap.size, 0, none⟩ = some (.slice none 0 0) ∧ w4.cell? ⟨w2.heap.size, 1, none⟩ = some (.slice none 0 0) := fun w4 hb4 => by
  have hlt : w2.heap.size < (w2.alloc (.cells #[.slice none 0 0, .slice none 0 0, .slice none 0 0, .int .i64 y] 48)).heap.size := by rw [World.size_alloc]; omega
  have hx4 := (hb4.block w2.heap.size hlt).trans (heap_alloc_new w2 (.cells #[.slice none 0 0, .slice none 0 0, .slice none 0 0, .int .i64 y] 48))
  exact ⟨hx4, by simp [World.frozen?, hx4], by simp [World.frozen?, hx4], by simp [World.cell?, hx4], by simp [World.cell?, hx4]⟩
 have HX3 := Lib.hid (And.intro hb3 hx3)
 clear hb3 hx3
 go_upto_region 8 with (go_at_call 34; refine HR.out.mono ?_; rintro e w4 ⟨rfl, hb4⟩; obtain ⟨hx4, f0, f1, g0, g1⟩ := HX3.out.2 w4 hb4)
 have hg1 := Lib.grownBy_setCell w4 w2.heap.size 0 (.slice none 0 0)
 have hg2 := Lib.grownBy_setCell (w4.setCell ⟨w2.heap.size, 0, none⟩ (.slice none 0 0)) w2.heap.size 1 (.slice none 0 0)
 have hb5 : Below w2.heap.size w2 ((w4.setCell ⟨w2.heap.size, 0, none⟩ (.slice none 0 0)).setCell ⟨w2.heap.size, 1, none⟩ (.slice none 0 0)) := by
  have h1 := HX3.out.1.trans (hb4.mono (by rw [World.size_alloc]; omega))
  have h2 := belowG h1 hg1 h1.size (fun g e => by cases e; exact Nat.le_refl _)
  exact belowG h2 hg2 h2.size (fun g e => by cases e; exact Nat.le_refl _)
 have hx5 := Go.Lib.heap_setCell_same (i := 1) (Go.Lib.heap_setCell_same (i := 0) hx4 (.slice none 0 0)) (.slice none 0 0)
 generalize (w4.setCell ⟨w2.heap.size, 0, none⟩ (.slice none 0 0)).setCell ⟨w2.heap.size, 1, none⟩ (.slice none 0 0) = W5 at hb5 hx5 ⊢
 have HB5 : Hid (Below w.heap.size w W5) := Lib.hid (HB2.out.trans (hb5.mono HB2.out.size))
 have HA5 := Lib.hid (HA2.out.new hb5)
 have HS5 := Lib.hid ((hb5.block w.heap.size HL2.out).trans HS2.out)
 have HX5 : Hid (W5.heap[w2.heap.size]? = some (.cells #[.slice none 0 0, .slice none 0 0, .slice none 0 0, .int .i64 y] 48 (0, 0))) := Lib.hid (by simpa using hx5)
 clear hg1 hg2 hb5 hx5 hx4 f0 f1 g0 g1 hb4 HX3 HR HA3 HA2 HS2 HB2
 obtain ⟨q, hq⟩ : ∃ q, w2.heap.size = q := ⟨_, rfl⟩
 rw [hq] at HX5 HL2 ⊢
 clear hq
 obtain ⟨_, k2, _, _, _⟩ := HA5.out.cells
 unfold p0 at k2
 have hb6 : Below W5.heap.size W5 (W5.alloc (.cells #[.int .i64 0, .int .i64 1, .int .i64 2] 3)) := (Below.refl _ W5).alloc (Nat.le_refl _) _
 have HB6 : Hid (Below w.heap.size w (W5.alloc (.cells #[.int .i64 0, .int .i64 1, .int .i64 2] 3))) := Lib.hid (HB5.out.trans (hb6.mono HB5.out.size))
 have HA6 := Lib.hid (HA5.out.new hb6)
 have HS6 := Lib.hid ((hb6.block w.heap.size (Array.getElem?_eq_some_iff.1 HS5.out).1).trans HS5.out)
 have HX6 := Lib.hid ((hb6.block q (Array.getElem?_eq_some_iff.1 HX5.out).1).trans HX5.out)
 have HL6 := Lib.hid (list_nil b (.slice (some ⟨W5.heap.size, 0, none⟩) 3 3) _ HA6.out.book)
 clear hb6
 go_upto_region 9 with (go_at_call 35; refine HL6.out.mono ?_; rintro e w6 ⟨rfl, rfl⟩)
 clear k2 HL6 HA5 HB5 HS5 HX5
 generalize W5.alloc (.cells #[.int .i64 0, .int .i64 1, .int .i64 2] 3) = W6 at HB6 HA6 HS6 HX6 ⊢
 have hS6 : Below W6.heap.size W6 W6.drew := sb_drew (Below.refl _ _)
 obtain ⟨_, k2, _, _, _⟩ := HA6.out.cells
 unfold p0 at k2
 have HK6 := Lib.hid (World.block_lt_of_cell? W6 _ k2)
 go_region_held3 (fun w' => Below W6.heap.size W6 w' ∧ w'.cell? ⟨hb, 2, none⟩ = some (.pointer (some ⟨b, 0, none⟩)))
  (first
   | (have hI : Below W6.heap.size W6 _ := (by first | assumption | exact sb_drew (by assumption) | exact Below.refl _ _)
      exact ⟨hI, (hI.cell (p := ⟨hb, 2, none⟩) HK6.out).trans k2⟩)
   | go_keep)
  ((first
    | (go_at_call 37; refine (old_nil hb r l b g li today _ (HA6.out.new (by first | assumption | exact sb_drew (by assumption))).hall.choose_spec (HA6.out.new (by first | assumption | exact sb_drew (by assumption))).book).mono ?_; rintro e w7 ⟨rfl, hb7⟩; have hx7 : Below W6.heap.size W6 w7 := sb_step (by first | assumption | exact sb_drew (by assumption)) hb7)
    | (go_at_call 36; refine (expire_nil b _).mono ?_; rintro e w8 ⟨rfl, rfl⟩)))
 have HB7 : Hid (Below w.heap.size w w7) := Lib.hid (HB6.out.trans (hx7.mono HB6.out.size))
 have HA7 := Lib.hid (HA6.out.new hx7)
 have HS7 := Lib.hid ((hx7.block w.heap.size (Array.getElem?_eq_some_iff.1 HS6.out).1).trans HS6.out)
 have HX7 := Lib.hid ((hx7.block q (Array.getElem?_eq_some_iff.1 HX6.out).1).trans HX6.out)
 clear hx7 hb7 hS6 k2 HK6 HA6 HB6 HS6 HX6
 obtain ⟨tH7, hH7⟩ := HA7.out.hall
 have HH7 := Lib.hid hH7
 clear hH7
 have hqb : q ≠ hb := fun e => by
  have h1 := HX7.out
  rw [e, HH7.out] at h1
  simp at h1
 have hwb : w.heap.size ≠ hb := fun e => by
  have h1 := HS7.out
  rw [e, HH7.out] at h1
  simp at h1
 have HNE := Lib.hid (And.intro hqb hwb)
 clear hqb hwb
 go_wp2_with fail
 go_loop [53] (fun i => i = .int .i64 0) (fun _ => 0)
 case atStart => rfl
 case round =>
  subst hrel
  obtain ⟨_, _, _, k5, f5⟩ := HA7.out.cells
  go_upto_region 18 with fail
  have hg8 := Lib.grownBy_setCell w7 hb 5 (.int .i64 y)
  have h8 := Go.Lib.heap_setCell_same (i := 5) HH7.out (.int .i64 y)
  have hx8 := (hg8.block q (Array.getElem?_eq_some_iff.1 HX7.out).1 (fun e => HNE.out.1 (by cases e; rfl))).trans HX7.out
  have hs8 := (hg8.block w.heap.size (Array.getElem?_eq_some_iff.1 HS7.out).1 (fun e => HNE.out.2 (by injection e))).trans HS7.out
  have hG8 : w.grownBy (w7.setCell ⟨hb, 5, none⟩ (.int .i64 y)) (some hb) := ⟨hg8.os.trans HB7.out.os, hg8.tape.trans HB7.out.tape, hg8.output.trans HB7.out.output, Nat.le_trans HB7.out.size hg8.size,
   fun i hi hne => (hg8.block i (by have := HB7.out.size; omega) hne).trans (HB7.out.block i hi)⟩
  generalize w7.setCell ⟨hb, 5, none⟩ (.int .i64 y) = W8 at h8 hx8 hs8 hG8 ⊢
  have H8 : Hid (W8.heap[hb]? = some (.cells #[p0 r, p0 l, p0 b, p0 g, p0 li, .int .i64 y] tH7 (0, 0))) := Lib.hid (by simpa using h8)
  have c0 : W8.cell? ⟨q, 0, none⟩ = some (.slice none 0 0) := by simp [World.cell?, hx8]
  have c1 : W8.cell? ⟨q, 1, none⟩ = some (.slice none 0 0) := by simp [World.cell?, hx8]
  have c2 : W8.cell? ⟨q, 2, none⟩ = some (.slice none 0 0) := by simp [World.cell?, hx8]
  have c3 : W8.cell? ⟨q, 3, none⟩ = some (.int .i64 y) := by simp [World.cell?, hx8]
  obtain ⟨z, hz⟩ : ∃ z, w.heap.size = z := ⟨_, rfl⟩
  rw [hz] at hs8 HNE ⊢
  have e0 : W8.cell? ⟨z, 0, none⟩ = some (.slice none 0 0) := by simp [World.cell?, hs8]
  have e1 : W8.cell? ⟨z, 1, none⟩ = some (.slice none 0 0) := by simp [World.cell?, hs8]
  have e2 : W8.cell? ⟨z, 2, none⟩ = some (.slice none 0 0) := by simp [World.cell?, hs8]
  have e3 : W8.cell? ⟨z, 3, none⟩ = some (.int .i64 0) := by simp [World.cell?, hs8]
  have f0 : W8.frozen? ⟨z, 0, none⟩ = false := by simp [World.frozen?, hs8]
  have f1 : W8.frozen? ⟨z, 1, none⟩ = false := by simp [World.frozen?, hs8]
  have f2 : W8.frozen? ⟨z, 2, none⟩ = false := by simp [World.frozen?, hs8]
  have f3 : W8.frozen? ⟨z, 3, none⟩ = false := by simp [World.frozen?, hs8]
  have HZ := Lib.hid (And.intro hs8 (And.intro hG8 hz))
  clear hg8 h8 hx8 hs8 hG8 hz k5 f5
  go_wp2_with fail
  have h9 := Go.Lib.heap_setCell_same (i := 3) (Go.Lib.heap_setCell_same (i := 2) (Go.Lib.heap_setCell_same (i := 1) (Go.Lib.heap_setCell_same (i := 0) HZ.out.1 (.slice none 0 0)) (.slice none 0 0)) (.slice none 0 0)) (.int .i64 y)
  have hg9 : W8.grownBy ((((W8.setCell ⟨z, 0, none⟩ (.slice none 0 0)).setCell ⟨z, 1, none⟩ (.slice none 0 0)).setCell ⟨z, 2, none⟩ (.slice none 0 0)).setCell ⟨z, 3, none⟩ (.int .i64 y)) (some z) :=
   gb_trans (gb_trans (gb_trans (Lib.grownBy_setCell _ z 0 _) (Lib.grownBy_setCell _ z 1 _)) (Lib.grownBy_setCell _ z 2 _)) (Lib.grownBy_setCell _ z 3 _)
  generalize ((((W8.setCell ⟨z, 0, none⟩ (.slice none 0 0)).setCell ⟨z, 1, none⟩ (.slice none 0 0)).setCell ⟨z, 2, none⟩ (.slice none 0 0)).setCell ⟨z, 3, none⟩ (.int .i64 y)) = W9 at h9 hg9 ⊢
  have d0 : W9.cell? ⟨z, 0, none⟩ = some (.slice none 0 0) := by simp [World.cell?, h9]
  have d1 : W9.cell? ⟨z, 1, none⟩ = some (.slice none 0 0) := by simp [World.cell?, h9]
  have d2 : W9.cell? ⟨z, 2, none⟩ = some (.slice none 0 0) := by simp [World.cell?, h9]
  have d3 : W9.cell? ⟨z, 3, none⟩ = some (.int .i64 y) := by simp [World.cell?, h9]
  refine bodyPost_ret (v := .tuple #[.agg #[.slice none 0 0, .slice none 0 0, .slice none 0 0, .int .i64 y], .int .i64 0]) (by simp [results, Tryz.results9, go_sem, d0, d1, d2, d3]) rfl ⟨rfl, ?_, ?_⟩
  · have hG := HZ.out.2.1
    exact ⟨hg9.os.trans hG.os, hg9.tape.trans hG.tape, hg9.output.trans hG.output, Nat.le_trans hG.size hg9.size, fun i hi hne => (hg9.block i (by have := hG.size; omega) (fun e => by cases e; have := HZ.out.2.2; omega)).trans (hG.block i hi hne)⟩
  · exact ⟨_, (hg9.block hb (Array.getElem?_eq_some_iff.1 H8.out).1 (fun e => HNE.out.2 (by cases e; rfl))).trans H8.out⟩
end Go.Proofs.YtmfmjhklajmhoaaGreat.Ed
