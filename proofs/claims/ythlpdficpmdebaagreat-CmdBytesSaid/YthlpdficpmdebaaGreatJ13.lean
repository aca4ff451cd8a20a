/- complinelaw28.Light. -/
import Derived.Test.YthlpdficpmdebaaGreatJ8
import Derived.Test.YthlpdficpmdebaaGreatJ10
import Derived.Test.YthlpdficpmdebaaGreatJ4
import Derived.Deep.RegionHeld3
namespace Go.Proofs.YthlpdficpmdebaaGreat.Wire
open Go Go.RowKit Go.Lib
theorem IntsAt.grown {w w' : World} {A : Option Addr} {xs : List Int} (h : IntsAt w A xs) (hg : w.grownBy w' none) : IntsAt w' A xs := by
  intro hne
  obtain ⟨ad, rfl, hc⟩ := h hne
  exact ⟨ad, rfl, fun j x hx => hg.cell (hc j x hx) (by simp)⟩
theorem TextsAt.grown {w w' : World} {A : Option Addr} {xs : List ByteArray} (h : TextsAt w A xs) (hg : w.grownBy w' none) : TextsAt w' A xs := by
  intro hne
  obtain ⟨ad, rfl, hc⟩ := h hne
  exact ⟨ad, rfl, fun j x hx => hg.cell (hc j x hx) (by simp)⟩
theorem TextsAt.drewN {w : World} {A : Option Addr} {xs : List ByteArray} (h : TextsAt w A xs) (n : Nat) : TextsAt (w.drewN n) A xs := h
theorem ints_new3 (w : World) (x y z : Int) (t : TypeId) : IntsAt (w.alloc (.cells #[.int .i64 x, .int .i64 y, .int .i64 z] t)) (some ⟨w.heap.size, 0, none⟩) [x, y, z] := fun _ =>
  ⟨_, rfl, fun j u hu => World.news_of_block (cs := #[.int .i64 x, .int .i64 y, .int .i64 z]) (heap_alloc_new w _) j _ (by
    match j, hu with
    | 0, hu => simpa using hu
    | 1, hu => simpa using hu
    | 2, hu => simpa using hu)⟩
theorem ints_new3d (w : World) (x y z : Int) (t : TypeId) : IntsAt (w.alloc (.cells #[.int .i64 x, .int .i64 y, .int .i64 z] t)).drew (some ⟨w.heap.size, 0, none⟩) [x, y, z] := ints_new3 w x y z t
def SomeBool (w : World) (en : Ending) (w' : World) : Prop := (∃ r : Bool, en = .returned (.bool r)) ∧ Below w.heap.size w w'
set_option maxRecDepth 20000 in
set_option maxHeartbeats 2000000 in
theorem light_any (g : Nat) (kind : Int) (party : ByteArray) (A : Option Addr) (n c : Nat) (A' : Option Addr) (m c' : Nat) (texts : List ByteArray) (w : World) (hp : party.size ≤ maxLen) (hn : n ≤ maxLen) (hm : m ≤ maxLen)
    (hg : w.heap[g]? = some (.cells #[.int .i64 kind, .string party, .slice A n c, .slice A' m c'] 25 (0, 0))) (hx : TextsAt w A' texts) (hl : texts.length = m) (hmax : ∀ x ∈ texts, x.size ≤ maxLen) :
    Calls Tryz.prog 4 #[.slice (some ⟨g, 0, none⟩) 1 1] w (SomeBool w) := by
  obtain ⟨k0, k1, k2, k3⟩ := cmdBox_cells hg
  have hgs := blk_lt hg
  unfold maxLen at hp hn hm
  have HX := Lib.hid hx
  have HL := Lib.hid hl
  have HMAX := Lib.hid hmax
  have HP := Lib.hid hp
  have HN := Lib.hid hn
  have HM := Lib.hid hm
  clear hg hx hl hmax hp hn hm
  go_enter Tryz.func4, Tryz.ntmps4
  go_wp2_with fail
  refine wp_loop_rounds 2 ?_
  rw [rounds_succ]
  by_cases hbig : 2000 < n ∨ 2000 < m
  · by_cases hn2 : 2000 < n
    · clear hbig
      go_wp2_with fail
      refine bodyPost_ret (results_tmp rfl _ _ _) rfl ?_
      exact ⟨⟨_, rfl⟩, Below.refl _ _⟩
    · have hm2 : 2000 < m := by omega
      clear hbig
      go_wp2_with fail
      refine bodyPost_ret (results_tmp rfl _ _ _) rfl ?_
      exact ⟨⟨_, rfl⟩, Below.refl _ _⟩
  · have hn2 : n ≤ 2000 := by omega
    have hm2 : m ≤ 2000 := by omega
    clear hbig
    go_wp2_with fail
    have q0 : IntKind.i64.wrap (20 * (n : Int)) = 20 * (n : Int) := IntWalk.i64_in _ (by omega)
    go_region_held3 (fun w' => w'.cell? ⟨g, 1, none⟩ = some (.string party) ∧ w'.cell? ⟨g, 2, none⟩ = some (.slice A n c) ∧ w'.cell? ⟨g, 3, none⟩ = some (.slice A' m c')) (first | go_keep)
      ((first
        | (go_at_call 28; refine (room_any _ _ 3 3 [(party.size : Int), 20 * (n : Int), (m : Int)] _ (ints_new3d w _ _ _ 3) rfl (by omega)).mono ?_; rintro e w1 ⟨⟨r, rfl⟩, rfl⟩)))
    have hbw : Below w.heap.size w (w.alloc (.cells #[.int .i64 party.size, .int .i64 (20 * (n : Int)), .int .i64 m] 3)).drew := below_drewN' ((Below.refl _ w).alloc (Nat.le_refl _) _) 1
    have HB0 := Lib.hid hbw
    clear hbw
    generalize (w.alloc (.cells #[.int .i64 party.size, .int .i64 (20 * (n : Int)), .int .i64 m] 3)).drew = W1 at *
    go_wp2_with fail
    go_loopw [3, 5] (fun a i wr => ∃ (x : Int) (k : Nat), a = .int .i64 x ∧ i = .int .i64 k ∧ k ≤ m ∧ Below w.heap.size w wr) (fun _ i _ => m - (intOf i).toNat)
    case atStart => exact ⟨r, 0, rfl, rfl, Nat.zero_le _, HB0.out⟩
    case round =>
      obtain ⟨x, k, rfl, rfl, hk, hbr⟩ := hrel
      have z3 : wr.cell? ⟨g, 3, none⟩ = some (.slice A' m c') := (hbr.cell (p := ⟨g, 3, none⟩) hgs).trans k3
      have HBR := Lib.hid hbr
      by_cases hgo : k < m ∧ 0 ≤ x
      · obtain ⟨hlt, hx0⟩ := hgo
        have hxl : k < texts.length := by have := HL.out; omega
        obtain ⟨ad, hA, hcs⟩ := HX.out (by intro e0; rw [e0] at hxl; simp at hxl)
        subst hA
        have hc0 := hcs k _ (List.getElem?_eq_getElem hxl)
        have hcell : wr.cell? (ad.add k) = some (.string texts[k]) := (hbr.cell (p := ad.add k) (World.block_lt_of_cell? w _ hc0)).trans hc0
        have HMk := Lib.hid (HMAX.out _ (List.getElem_mem hxl))
        generalize texts[k] = s at hcell HMk
        clear hcs hc0 hbr
        go_wp2_with fail
        refine (room_any x _ 1 1 [(s.size : Int)] _ (ints_one wr s.size _) rfl (by omega)).mono ?_
        rintro e w2 ⟨⟨r2, rfl⟩, rfl⟩
        go_wp2_with fail
        go_roundw
        case rel => exact ⟨r2, k + 1, rfl, by go_num, by omega, HBR.out.alloc HBR.out.size _⟩
        case measure => simp [intOf]; omega
      · clear hbr
        rcases (show ¬ k < m ∨ (k < m ∧ x < 0) by omega) with hno | ⟨hlt, hneg⟩
        · clear hgo
          go_wp2_with fail
          rw [rounds_succ]
          go_wp2_with fail
          all_goals
            refine bodyPost_ret (results_tmp rfl _ _ _) rfl ?_
            exact ⟨⟨_, rfl⟩, HBR.out⟩
        · clear hgo
          go_wp2_with fail
          rw [rounds_succ]
          go_wp2_with fail
          all_goals
            refine bodyPost_ret (results_tmp rfl _ _ _) rfl ?_
            exact ⟨⟨_, rfl⟩, HBR.out⟩
end Go.Proofs.YthlpdficpmdebaaGreat.Wire
/- complinelaw28.Light: where it says yes, the lists are short. -/
namespace Go.Proofs.YthlpdficpmdebaaGreat.Wire
open Go Go.RowKit Go.Lib
def SomeQ (q : Prop) (w : World) (en : Ending) (w' : World) : Prop := (∃ r : Bool, en = .returned (.bool r) ∧ (r = true → q)) ∧ Below w.heap.size w w'
set_option maxRecDepth 20000 in
set_option maxHeartbeats 2000000 in
theorem light_q (g : Nat) (kind : Int) (party : ByteArray) (A : Option Addr) (n c : Nat) (A' : Option Addr) (m c' : Nat) (texts : List ByteArray) (w : World) (hp : party.size ≤ maxLen) (hn : n ≤ maxLen) (hm : m ≤ maxLen)
    (hg : w.heap[g]? = some (.cells #[.int .i64 kind, .string party, .slice A n c, .slice A' m c'] 25 (0, 0))) (hx : TextsAt w A' texts) (hl : texts.length = m) (hmax : ∀ x ∈ texts, x.size ≤ maxLen) :
    Calls Tryz.prog 4 #[.slice (some ⟨g, 0, none⟩) 1 1] w (SomeQ (n ≤ 2000 ∧ m ≤ 2000) w) := by
  obtain ⟨k0, k1, k2, k3⟩ := cmdBox_cells hg
  have hgs := blk_lt hg
  unfold maxLen at hp hn hm
  have HX := Lib.hid hx
  have HL := Lib.hid hl
  have HMAX := Lib.hid hmax
  have HP := Lib.hid hp
  have HN := Lib.hid hn
  have HM := Lib.hid hm
  clear hg hx hl hmax hp hn hm
  go_enter Tryz.func4, Tryz.ntmps4
  go_wp2_with fail
  refine wp_loop_rounds 2 ?_
  rw [rounds_succ]
  by_cases hbig : 2000 < n ∨ 2000 < m
  · by_cases hn2 : 2000 < n
    · clear hbig
      go_wp2_with fail
      refine bodyPost_ret (results_tmp rfl _ _ _) rfl ?_
      exact ⟨⟨_, rfl, fun h => by cases h⟩, Below.refl _ _⟩
    · have hm2 : 2000 < m := by omega
      clear hbig
      go_wp2_with fail
      refine bodyPost_ret (results_tmp rfl _ _ _) rfl ?_
      exact ⟨⟨_, rfl, fun h => by cases h⟩, Below.refl _ _⟩
  · have hn2 : n ≤ 2000 := by omega
    have hm2 : m ≤ 2000 := by omega
    clear hbig
    go_wp2_with fail
    have q0 : IntKind.i64.wrap (20 * (n : Int)) = 20 * (n : Int) := IntWalk.i64_in _ (by omega)
    go_region_held3 (fun w' => w'.cell? ⟨g, 1, none⟩ = some (.string party) ∧ w'.cell? ⟨g, 2, none⟩ = some (.slice A n c) ∧ w'.cell? ⟨g, 3, none⟩ = some (.slice A' m c')) (first | go_keep)
      ((first
        | (go_at_call 28; refine (room_any _ _ 3 3 [(party.size : Int), 20 * (n : Int), (m : Int)] _ (ints_new3d w _ _ _ 3) rfl (by omega)).mono ?_; rintro e w1 ⟨⟨r, rfl⟩, rfl⟩)))
    have hbw : Below w.heap.size w (w.alloc (.cells #[.int .i64 party.size, .int .i64 (20 * (n : Int)), .int .i64 m] 3)).drew := below_drewN' ((Below.refl _ w).alloc (Nat.le_refl _) _) 1
    have HB0 := Lib.hid hbw
    clear hbw
    generalize (w.alloc (.cells #[.int .i64 party.size, .int .i64 (20 * (n : Int)), .int .i64 m] 3)).drew = W1 at *
    go_wp2_with fail
    go_loopw [3, 5] (fun a i wr => ∃ (x : Int) (k : Nat), a = .int .i64 x ∧ i = .int .i64 k ∧ k ≤ m ∧ Below w.heap.size w wr) (fun _ i _ => m - (intOf i).toNat)
    case atStart => exact ⟨r, 0, rfl, rfl, Nat.zero_le _, HB0.out⟩
    case round =>
      obtain ⟨x, k, rfl, rfl, hk, hbr⟩ := hrel
      have z3 : wr.cell? ⟨g, 3, none⟩ = some (.slice A' m c') := (hbr.cell (p := ⟨g, 3, none⟩) hgs).trans k3
      have HBR := Lib.hid hbr
      by_cases hgo : k < m ∧ 0 ≤ x
      · obtain ⟨hlt, hx0⟩ := hgo
        have hxl : k < texts.length := by have := HL.out; omega
        obtain ⟨ad, hA, hcs⟩ := HX.out (by intro e0; rw [e0] at hxl; simp at hxl)
        subst hA
        have hc0 := hcs k _ (List.getElem?_eq_getElem hxl)
        have hcell : wr.cell? (ad.add k) = some (.string texts[k]) := (hbr.cell (p := ad.add k) (World.block_lt_of_cell? w _ hc0)).trans hc0
        have HMk := Lib.hid (HMAX.out _ (List.getElem_mem hxl))
        generalize texts[k] = s at hcell HMk
        clear hcs hc0 hbr
        go_wp2_with fail
        refine (room_any x _ 1 1 [(s.size : Int)] _ (ints_one wr s.size _) rfl (by omega)).mono ?_
        rintro e w2 ⟨⟨r2, rfl⟩, rfl⟩
        go_wp2_with fail
        go_roundw
        case rel => exact ⟨r2, k + 1, rfl, by go_num, by omega, HBR.out.alloc HBR.out.size _⟩
        case measure => simp [intOf]; omega
      · clear hbr
        rcases (show ¬ k < m ∨ (k < m ∧ x < 0) by omega) with hno | ⟨hlt, hneg⟩
        · clear hgo
          go_wp2_with fail
          rw [rounds_succ]
          go_wp2_with fail
          all_goals
            refine bodyPost_ret (results_tmp rfl _ _ _) rfl ?_
            exact ⟨⟨_, rfl, fun _ => ⟨hn2, hm2⟩⟩, HBR.out⟩
        · clear hgo
          go_wp2_with fail
          rw [rounds_succ]
          go_wp2_with fail
          all_goals
            refine bodyPost_ret (results_tmp rfl _ _ _) rfl ?_
            exact ⟨⟨_, rfl, fun _ => ⟨hn2, hm2⟩⟩, HBR.out⟩
end Go.Proofs.YthlpdficpmdebaaGreat.Wire
