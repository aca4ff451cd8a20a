/- The law's own helpers: SameInts, SameTexts, Room. -/
import Derived.Test.YtfpaofeonlfnfaaGreatWireGetR
namespace Go.Proofs.YtfpaofeonlfnfaaGreat.Wire
open Go Go.RowKit Go.Lib
theorem IntsAt.own {w : World} {base n c : Nat} {A : Option Addr} {xs : List Int} (h : w.ownsRow base 3 1 (.slice A n c) n (ints xs)) : IntsAt w A xs := by
  intro hne
  rcases h.2 with ⟨hv, rfl⟩ | ⟨g, cap, cur, hv, _⟩
  · exfalso
    have := h.1
    simp [ints] at this
    exact hne this
  · injection hv with hA
    subst hA
    exact ⟨_, rfl, fun j x hx => h.cells (g := g) rfl j _ (by simp [ints, hx])⟩
theorem bal (l : List UInt8) : (⟨l.toArray⟩ : ByteArray) = ⟨l.toArray⟩ := rfl
def bas (xs : List (List UInt8)) : List ByteArray := xs.map fun l => ⟨l.toArray⟩
theorem TextsAt.own {w : World} {base n c : Nat} {A : Option Addr} {xs : List (List UInt8)} (h : w.ownsRow base 9 1 (.slice A n c) n (strs xs)) : TextsAt w A (bas xs) := by
  intro hne
  rcases h.2 with ⟨hv, rfl⟩ | ⟨g, cap, cur, hv, _⟩
  · exfalso
    have := h.1
    simp [strs] at this
    exact hne (by simp [bas, this])
  · injection hv with hA
    subst hA
    refine ⟨_, rfl, fun j x hx => h.cells (g := g) rfl j _ ?_⟩
    simp only [bas, List.getElem?_map, Option.map_eq_some_iff] at hx
    obtain ⟨l, hl, rfl⟩ := hx
    simp [strs, hl]
def SomeInt (w : World) (en : Ending) (w' : World) : Prop := (∃ r : Int, en = .returned (.int .i64 r)) ∧ w = w'
set_option maxRecDepth 20000 in
set_option maxHeartbeats 1000000 in
theorem room_any (left : Int) (A : Option Addr) (n c : Nat) (xs : List Int) (w : World) (hx : IntsAt w A xs) (hn : xs.length = n) (hn2 : n ≤ 1000000) :
    Calls Tryz.prog 85 #[.int .i64 left, .slice A n c] w (SomeInt w) := by
  have HX := Lib.hid hx
  have HNN := Lib.hid hn
  clear hx hn
  go_enter Tryz.func85, Tryz.ntmps85
  go_wp2_with fail
  go_loop [0, 5] (fun l i => ∃ (a : Int) (k : Nat), l = .int .i64 a ∧ i = .int .i64 k ∧ k ≤ n) (fun _ i => n - (intOf i).toNat)
  case atStart => exact ⟨left, 0, rfl, rfl, Nat.zero_le _⟩
  case round =>
    obtain ⟨a, k, rfl, rfl, hk⟩ := hrel
    by_cases hlt : k < n
    · have hxl : k < xs.length := by have := HNN.out; omega
      obtain ⟨ad, hA, hcs⟩ := HX.out (by intro e0; rw [e0] at hxl; simp at hxl)
      subst hA
      have hcell : w.cell? (ad.add k) = some (.int .i64 xs[k]) := hcs k _ (List.getElem?_eq_getElem hxl)
      generalize xs[k] = x at hcell
      clear hcs
      go_wp2_with fail
      case roundEnd =>
        go_round
        case rel => exact ⟨_, k + 1, rfl, by go_num, by omega⟩
        case measure => simp [intOf]; omega
      all_goals
        refine bodyPost_ret (results_tmp rfl _ _ _) rfl ?_
        exact ⟨⟨_, rfl⟩, rfl⟩
    · go_wp2_with fail
      refine bodyPost_ret (results_tmp rfl _ _ _) rfl ?_
      exact ⟨⟨_, rfl⟩, rfl⟩
set_option maxRecDepth 20000 in
set_option maxHeartbeats 1000000 in
theorem sameInts_any (A A' : Option Addr) (n c c' : Nat) (xs : List Int) (w : World) (hx : IntsAt w A xs) (hx' : IntsAt w A' xs) (hn : xs.length = n) (hn2 : n ≤ 1000000) :
    Calls Tryz.prog 103 #[.slice A n c, .slice A' n c'] w fun en w' => en = .returned (.bool true) ∧ ∃ m, w' = w.drewN m := by
  have HX := Lib.hid hx
  have HX' := Lib.hid hx'
  have HNN := Lib.hid hn
  clear hx hx' hn
  go_enter Tryz.func103, Tryz.ntmps103
  go_wp2_with fail
  go_loopw [5] (fun i wr => ∃ (k m : Nat), i = .int .i64 k ∧ k ≤ n ∧ wr = w.drewN m) (fun i _ => n - (intOf i).toNat)
  case atStart => exact ⟨0, 0, rfl, Nat.zero_le _, rfl⟩
  case round =>
    obtain ⟨k, m, rfl, hk, rfl⟩ := hrel
    by_cases hlt : k < n
    · have hxl : k < xs.length := by have := HNN.out; omega
      obtain ⟨ad, hA, hcs⟩ := HX.out (by intro e0; rw [e0] at hxl; simp at hxl)
      obtain ⟨ad', hA', hcs'⟩ := HX'.out (by intro e0; rw [e0] at hxl; simp at hxl)
      subst hA
      subst hA'
      have hcell : w.cell? (ad.add k) = some (.int .i64 xs[k]) := hcs k _ (List.getElem?_eq_getElem hxl)
      have hcell' : w.cell? (ad'.add k) = some (.int .i64 xs[k]) := hcs' k _ (List.getElem?_eq_getElem hxl)
      generalize xs[k] = x at hcell hcell'
      clear hcs hcs'
      go_wp2_with fail
      go_quiet (fail)
      go_wp2_with fail
      go_roundw
      case rel => exact ⟨k + 1, _, by go_num, by omega, rfl⟩
      case measure => simp [intOf]; omega
    · go_wp2_with fail
      refine bodyPost_ret (results_tmp rfl _ _ _) rfl ?_
      exact ⟨rfl, _, rfl⟩
set_option maxRecDepth 20000 in
set_option maxHeartbeats 1000000 in
theorem sameTexts_any (A A' : Option Addr) (n c c' : Nat) (xs : List ByteArray) (w : World) (hx : TextsAt w A xs) (hx' : TextsAt w A' xs) (hn : xs.length = n) (hn2 : n ≤ 1000000) :
    Calls Tryz.prog 104 #[.slice A n c, .slice A' n c'] w fun en w' => en = .returned (.bool true) ∧ ∃ m, w' = w.drewN m := by
  have HX := Lib.hid hx
  have HX' := Lib.hid hx'
  have HNN := Lib.hid hn
  clear hx hx' hn
  go_enter Tryz.func104, Tryz.ntmps104
  go_wp2_with fail
  go_loopw [5] (fun i wr => ∃ (k m : Nat), i = .int .i64 k ∧ k ≤ n ∧ wr = w.drewN m) (fun i _ => n - (intOf i).toNat)
  case atStart => exact ⟨0, 0, rfl, Nat.zero_le _, rfl⟩
  case round =>
    obtain ⟨k, m, rfl, hk, rfl⟩ := hrel
    by_cases hlt : k < n
    · have hxl : k < xs.length := by have := HNN.out; omega
      obtain ⟨ad, hA, hcs⟩ := HX.out (by intro e0; rw [e0] at hxl; simp at hxl)
      obtain ⟨ad', hA', hcs'⟩ := HX'.out (by intro e0; rw [e0] at hxl; simp at hxl)
      subst hA
      subst hA'
      have hcell : w.cell? (ad.add k) = some (.string xs[k]) := hcs k _ (List.getElem?_eq_getElem hxl)
      have hcell' : w.cell? (ad'.add k) = some (.string xs[k]) := hcs' k _ (List.getElem?_eq_getElem hxl)
      generalize xs[k] = x at hcell hcell'
      clear hcs hcs'
      go_wp2_with fail
      go_quiet (fail)
      go_wp2_with fail
      go_roundw
      case rel => exact ⟨k + 1, _, by go_num, by omega, rfl⟩
      case measure => simp [intOf]; omega
    · go_wp2_with fail
      refine bodyPost_ret (results_tmp rfl _ _ _) rfl ?_
      exact ⟨rfl, _, rfl⟩
end Go.Proofs.YtfpaofeonlfnfaaGreat.Wire
