/- complinelaw24.Plain: the set as the document has it. -/
import Derived.Test.YtgmbppfkkiobhaaGreatChkSame
import Derived.Test.YtgmbppfkkiobhaaGreatWireA
namespace Go.Proofs.YtgmbppfkkiobhaaGreat.Wire
open Go Go.RowKit Go.Lib
set_option maxRecDepth 20000 in
theorem plainS_any (L T : Option Addr) (n c m d : Nat) (w : World) :
    Calls Tryz.prog 10 #[.agg #[.slice L n c, .slice T m d]] w fun en w' => en = .returned (.agg #[.slice L n c, .slice T m d]) ∧ Below w.heap.size w w' := by
  go_enter Tryz.func10, Tryz.ntmps10
  go_wp2_with fail
  refine bodyPost_ret (results_cell_row rfl _ _ (w.heap.size + 1) 37 #[.slice L n c, .slice T m d] (0, 0) _ rfl (by have := heap_alloc_new (w.alloc (.cells #[.slice L n c, .slice T m d] 39 (0, 0))) (.cells #[.slice L n c, .slice T m d] 37 (0, 0)); simpa using this) Tryz.underlying37 rfl rfl) rfl ?_
  exact ⟨rfl, ((Below.refl w.heap.size w).alloc (Nat.le_refl _) _).alloc (by simp) _⟩
/-- Room's answer. -/
def room (left : Int) : List Int → Int
  | [] => left
  | x :: xs => if left < 0 ∨ x > left then -1 else room (left - x) xs
theorem room_lt (xs : List Int) (left : Int) (h : left < 0) : xs ≠ [] → room left xs = -1 := by
  cases xs with
  | nil => intro h; exact absurd rfl h
  | cons x xs => intro _; simp [room, h]
theorem room_drop (left : Int) (xs : List Int) (k : Nat) (hk : k < xs.length) : room left (xs.drop k) = if left < 0 ∨ xs[k] > left then -1 else room (left - xs[k]) (xs.drop (k + 1)) := by
  rw [List.drop_eq_getElem_cons hk]; rfl
set_option maxRecDepth 20000 in
set_option maxHeartbeats 1000000 in
theorem roomV_any (left : Int) (A : Option Addr) (n c : Nat) (xs : List Int) (w : World) (hx : IntsAt w A xs) (hn : xs.length = n) (hn2 : n ≤ 1000000) (h0 : ∀ x ∈ xs, 0 ≤ x) (hl : -1 ≤ left ∧ left ≤ 1000000) :
    Calls Tryz.prog 24 #[.int .i64 left, .slice A n c] w fun en w' => en = .returned (.int .i64 (room left xs)) ∧ w = w' := by
  have HX := Lib.hid hx
  have HNN := Lib.hid hn
  have H0 := Lib.hid h0
  clear hx hn h0
  go_enter Tryz.func24, Tryz.ntmps24
  go_wp2_with fail
  go_loop [0, 5] (fun l i => ∃ (a : Int) (k : Nat), l = .int .i64 a ∧ i = .int .i64 k ∧ k ≤ n ∧ room left xs = room a (xs.drop k) ∧ -1 ≤ a ∧ a ≤ 1000000) (fun _ i => n - (intOf i).toNat)
  case atStart => exact ⟨left, 0, rfl, rfl, Nat.zero_le _, rfl, hl⟩
  case round =>
    obtain ⟨a, k, rfl, rfl, hk, hr, ha1, ha2⟩ := hrel
    have HR := Lib.hid hr
    clear hr
    by_cases hlt : k < n
    · have hxl : k < xs.length := by have := HNN.out; omega
      obtain ⟨ad, hA, hcs⟩ := HX.out (by intro e0; rw [e0] at hxl; simp at hxl)
      subst hA
      have hcell : w.cell? (ad.add k) = some (.int .i64 xs[k]) := hcs k _ (List.getElem?_eq_getElem hxl)
      have HD := Lib.hid (room_drop a xs k hxl)
      have hx0 := H0.out _ (List.getElem_mem hxl)
      generalize xs[k] = x at hcell HD hx0
      clear hcs
      by_cases hc : a < 0
      · go_wp2_with fail
        refine bodyPost_ret (results_tmp rfl _ _ _) rfl ?_
        exact ⟨by rw [HR.out, HD.out, if_pos (.inl hc)]; rfl, rfl⟩
      · by_cases hc2 : x > a
        · go_wp2_with fail
          refine bodyPost_ret (results_tmp rfl _ _ _) rfl ?_
          exact ⟨by rw [HR.out, HD.out, if_pos (.inr hc2)]; rfl, rfl⟩
        · have q1 : IntKind.i64.wrap (a - x) = a - x := IntWalk.i64_in _ (by omega)
          go_wp2_with fail
          go_round
          case rel => exact ⟨a - x, k + 1, by go_num, by go_num, by omega, by rw [HR.out, HD.out, if_neg (by omega)], by omega, by omega⟩
          case measure => simp [intOf]; omega
    · have hkn : xs.drop k = [] := by rw [List.drop_eq_nil_iff]; have := HNN.out; omega
      have HK := Lib.hid hkn
      clear hkn
      go_wp2_with fail
      refine bodyPost_ret (results_tmp rfl _ _ _) rfl ?_
      exact ⟨by rw [HR.out, HK.out]; rfl, rfl⟩
end Go.Proofs.YtgmbppfkkiobhaaGreat.Wire
