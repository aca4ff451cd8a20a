/- complinebook.copyInts, copyTexts, LentInts, LentTexts: copies of rows that came in. -/
import Derived.Test.YthlpdficpmdebaaGreatJ9
import Derived.Test.YthlpdficpmdebaaGreatJ10
import Derived.Laws.AppendOwnNone
import Derived.Deep.AppendLies
namespace Go.Proofs.YthlpdficpmdebaaGreat.Wire
open Go Go.RowKit Go.Lib
/-- A slice, and the cells that it shows. -/
def SlAt (w : World) (A : Option Addr) (n c : Nat) (us : List Value) : Prop := us.length = n ∧ ((A = none ∧ n = 0 ∧ c = 0) ∨ ∃ ad, A = some ad ∧ ∀ j u, us[j]? = some u → w.cell? (ad.add j) = some u)
theorem SlAt.old {w w' : World} {A : Option Addr} {n c : Nat} {us : List Value} (h : SlAt w A n c us) (hg : w.grownBy w' none) : SlAt w' A n c us := by
  rcases h.2 with h0 | ⟨ad, hA, hc⟩
  · exact ⟨h.1, .inl h0⟩
  · exact ⟨h.1, .inr ⟨ad, hA, fun j u e => hg.cell (hc j u e) (by simp)⟩⟩
theorem SlAt.own {w : World} {B : Nat} {e : TypeId} {A : Option Addr} {n c : Nat} {us : List Value} (h : w.ownsRow B e 1 (.slice A n c) n us) : SlAt w A n c us := by
  refine ⟨by have := h.1; omega, ?_⟩
  rcases h.2 with ⟨hv, h0⟩ | ⟨g, cap, cur, hv, _⟩
  · injection hv with h1 h2 h3
    exact .inl ⟨h1, h2, h3⟩
  · injection hv with h1 h2 h3
    subst h1
    exact .inr ⟨_, rfl, h.cells (g := g) rfl⟩
theorem SlAt.ints {w : World} {A : Option Addr} {n c : Nat} {xs : List Int} (h : SlAt w A n c (ints xs)) : IntsAt w A xs := by
  intro hne
  rcases h.2 with ⟨_, h0, _⟩ | ⟨ad, hA, hc⟩
  · exact absurd (List.eq_nil_of_length_eq_zero (by have := h.1; simp [Wire.ints] at this; omega)) hne
  · exact ⟨ad, hA, fun j x hx => hc j _ (by simp [Wire.ints, hx])⟩
theorem SlAt.texts {w : World} {A : Option Addr} {n c : Nat} {xs : List ByteArray} (h : SlAt w A n c (strV xs)) : TextsAt w A xs := by
  intro hne
  rcases h.2 with ⟨_, h0, _⟩ | ⟨ad, hA, hc⟩
  · exact absurd (List.eq_nil_of_length_eq_zero (by have := h.1; simp [strV] at this; omega)) hne
  · exact ⟨ad, hA, fun j x hx => hc j _ (by simp [strV, hx])⟩
theorem one_ints (xs : List Int) : ∀ u ∈ ints xs, u.oneCell' = true := by intro u hu; obtain ⟨x, _, rfl⟩ := List.mem_map.1 hu; rfl
theorem one_strs (xs : List ByteArray) : ∀ u ∈ strV xs, u.oneCell' = true := by intro u hu; obtain ⟨x, _, rfl⟩ := List.mem_map.1 hu; rfl
def CopyPost (t : TypeId) (n : Nat) (us : List Value) (w : World) (en : Ending) (w' : World) : Prop := ∃ A c, en = .returned (.slice A n c) ∧ w'.ownsRow w.heap.size t 1 (.slice A n c) n us ∧ w.grownBy w' none
theorem own_cap {w : World} {B n : Nat} {e : TypeId} {g c : Nat} {us : List Value} (h : w.ownsRow B e 1 (.slice (some ⟨g, 0, none⟩) n c) n us) : n ≤ c ∧ c ≤ maxLen := by
  rcases h.2 with ⟨hv, _⟩ | ⟨g2, cap, cur, hv, _, _, h1, h2, _⟩
  · cases hv
  · injection hv with _ _ hc
    subst hc
    exact ⟨h1, h2⟩
set_option maxRecDepth 20000 in
set_option maxHeartbeats 1000000 in
theorem copyInts_any (A : Option Addr) (n c : Nat) (us : List Value) (w : World) (h : SlAt w A n c us) (h1 : ∀ u ∈ us, u.oneCell' = true) (hn : n ≤ 1000000) :
    Calls Tryz.prog 56 #[.slice A n c] w (CopyPost 3 n us w) := by
  obtain ⟨i0, hi0, hz0, hz1, hz2⟩ := info_parts int_info
  have HX := Lib.hid h
  have H1 := Lib.hid h1
  clear h h1
  rcases HX.out.2 with ⟨rfl, rfl, rfl⟩ | ⟨ad, rfl, hc⟩
  · have hu : us = [] := List.eq_nil_of_length_eq_zero HX.out.1
    subst hu
    go_enter Tryz.func56, Tryz.ntmps56
    go_wp2_with (at_builtin
                 refine wpList_append_own_none rfl (.const (.slice none 0 0)) (.tmp 3) _ rfl w.heap.size 3 i0 1 Tryz.underlying22 hi0 (.slice none 0 0) 0 [] rfl (World.ownsRow_nil _ _ _ _) rfl ?_)
    refine bodyPost_ret (results_tmp rfl _ _ _) rfl ?_
    exact ⟨none, 0, rfl, World.ownsRow_nil _ _ _ _, World.grownBy.refl _ _⟩
  · have HC := Lib.hid hc
    clear hc
    go_enter Tryz.func56, Tryz.ntmps56
    go_wp2_with (at_builtin
                 (refine wpList_append_own_at _ rfl (.const (.slice none 0 0)) (.tmp 3) _ rfl w.heap.size 3 i0 _ 1 8 Tryz.underlying22 hi0 hz0 hz1 hz2 rfl (by omega) (.slice none 0 0) 0 [] rfl (World.ownsRow_nil _ _ _ _) ad n c us rfl (by have := HX.out.1; omega) HC.out H1.out (by unfold maxLen; omega) (by omega) (Nat.le_refl _) ?_; intro v3 w3 hown3 hg3 _ hat3; rw [Nat.zero_add, List.nil_append] at hown3; obtain ⟨A3, c3, rfl⟩ := own_form hown3; have HO3 := Lib.hid hown3; have HG3 := Lib.hid hg3; clear hown3 hg3 hat3))
    refine bodyPost_ret (results_tmp rfl _ _ _) rfl ?_
    exact ⟨A3, c3, rfl, HO3.out, HG3.out⟩
/-- What is lent: a slice behind which a mark stands. -/
def LentInts (w w' : World) (n : Nat) (us : List Value) (v : Value) : Prop := ∃ g c, v = .slice (some ⟨g, 0, none⟩) n c ∧ w'.ownsRow w.heap.size 3 1 (.slice (some ⟨g, 0, none⟩) (n + 1) c) (n + 1) (us ++ [.int .i64 (-77)])
set_option maxRecDepth 20000 in
set_option maxHeartbeats 1000000 in
theorem lentInts_any (A : Option Addr) (n c : Nat) (us : List Value) (w : World) (h : SlAt w A n c us) (h1 : ∀ u ∈ us, u.oneCell' = true) (hn : n ≤ 1000000) :
    Calls Tryz.prog 6 #[.slice A n c] w fun en w' => ∃ v, en = .returned v ∧ LentInts w w' n us v ∧ w.grownBy w' none := by
  obtain ⟨i0, hi0, hz0, hz1, hz2⟩ := info_parts int_info
  have HX := Lib.hid h
  have H1 := Lib.hid h1
  clear h h1
  rcases HX.out.2 with ⟨rfl, rfl, rfl⟩ | ⟨ad, rfl, hc⟩
  · have hu : us = [] := List.eq_nil_of_length_eq_zero HX.out.1
    subst hu
    go_enter Tryz.func6, Tryz.ntmps6
    go_wp2_with (at_builtin
                 first
                   | refine wpList_append_own_none rfl (.const (.slice none 0 0)) (.tmp 3) _ rfl w.heap.size 3 i0 1 Tryz.underlying22 hi0 (.slice none 0 0) 0 [] rfl (World.ownsRow_nil _ _ _ _) rfl ?_
                   | (refine wpList_append_own_at _ rfl (.tmp 4) (.tmp 5) _ rfl w.heap.size 3 i0 _ 1 8 Tryz.underlying22 hi0 hz0 hz1 hz2 rfl (by omega) _ 0 [] rfl (World.ownsRow_nil _ _ _ _) ⟨w.heap.size, 0, none⟩ 1 1 [.int .i64 (-77)] rfl rfl (cell_one_new _ _ _) (by simp [Value.oneCell']) (by unfold maxLen; omega) (by omega) (by first | (simp; done) | (have := HG3.out.size; simp; omega)) ?_; intro v4 w4 hown4 hg4 _ hat4; obtain ⟨g4, c4, rfl, _, _⟩ := hown4.form (by omega); obtain ⟨hc4, hm4⟩ := own_cap hown4; have HO4 := Lib.hid hown4; have HG4 := Lib.hid hg4; clear hown4 hg4 hat4))
    refine bodyPost_ret (results_tmp rfl _ _ _) rfl ?_
    exact ⟨_, rfl, ⟨g4, c4, rfl, HO4.out⟩, grown_far (World.grownBy.refl w none) (World.grownBy_alloc _ _ none) HG4.out (by intro g e; cases e)⟩
  · have HC := Lib.hid hc
    clear hc
    go_enter Tryz.func6, Tryz.ntmps6
    go_wp2_with (at_builtin
                 first
                   | (refine wpList_append_own_at _ rfl (.const (.slice none 0 0)) (.tmp 3) _ rfl w.heap.size 3 i0 _ 1 8 Tryz.underlying22 hi0 hz0 hz1 hz2 rfl (by omega) (.slice none 0 0) 0 [] rfl (World.ownsRow_nil _ _ _ _) ad n c us rfl (by have := HX.out.1; omega) HC.out H1.out (by unfold maxLen; omega) (by omega) (Nat.le_refl _) ?_; intro v3 w3 hown3 hg3 _ hat3; rw [Nat.zero_add, List.nil_append] at hown3; obtain ⟨A3, c3, rfl⟩ := own_form hown3; have HO3 := Lib.hid hown3; have HG3 := Lib.hid hg3; clear hown3 hg3 hat3)
                   | (refine wpList_append_own_at _ rfl (.tmp 4) (.tmp 5) _ rfl w.heap.size 3 i0 _ 1 8 Tryz.underlying22 hi0 hz0 hz1 hz2 rfl (by omega) _ n us rfl (HO3.out.alloc _) ⟨w3.heap.size, 0, none⟩ 1 1 [.int .i64 (-77)] rfl rfl (cell_one_new _ _ _) (by simp [Value.oneCell']) (by unfold maxLen; omega) (by omega) (by first | (simp; done) | (have := HG3.out.size; simp; omega)) ?_; intro v4 w4 hown4 hg4 _ hat4; obtain ⟨g4, c4, rfl, _, _⟩ := hown4.form (by omega); obtain ⟨hc4, hm4⟩ := own_cap hown4; have HO4 := Lib.hid hown4; have HG4 := Lib.hid hg4; clear hown4 hg4 hat4))
    refine bodyPost_ret (results_tmp rfl _ _ _) rfl ?_
    exact ⟨_, rfl, ⟨g4, c4, rfl, HO4.out⟩, grown_far (HG3.out.trans (World.grownBy.refl _ none)) (World.grownBy_alloc _ _ none) HG4.out (own_ge HO3.out)⟩
set_option maxRecDepth 20000 in
set_option maxHeartbeats 1000000 in
theorem staysInts_any (B g n c : Nat) (A' : Option Addr) (c' : Nat) (xs : List Int) (w : World) (h : w.ownsRow B 3 1 (.slice (some ⟨g, 0, none⟩) (n + 1) c) (n + 1) (ints xs ++ [.int .i64 (-77)])) (hx : IntsAt w A' xs) (hn : xs.length = n) (hn2 : n ≤ 1000000) :
    Calls Tryz.prog 18 #[.slice (some ⟨g, 0, none⟩) n c, .slice A' n c'] w fun en w' => en = .returned (.bool true) ∧ ∃ m, w' = w.drewN m := by
  obtain ⟨hc1, hc2⟩ := own_cap h
  have hm : w.cell? ⟨g, n, none⟩ = some (.int .i64 (-77)) := by
    have h1 := h.cells (g := g) rfl n (.int .i64 (-77)) (by rw [List.getElem?_append_right (by simp [ints, hn])]; simp [ints, hn])
    have e : (⟨g, 0, none⟩ : Addr).add n = ⟨g, n, none⟩ := by unfold Addr.add; split <;> simp_all
    rwa [e] at h1
  have hx0 : IntsAt w (some ⟨g, 0, none⟩) xs := fun _ => ⟨_, rfl, fun j x hj => h.cells (g := g) rfl j _ (by
    have hl := (List.getElem?_eq_some_iff.1 hj).1
    rw [List.getElem?_append_left (by simp [ints]; exact hl)]
    simp [ints, hj])⟩
  have HX0 := Lib.hid hx0
  have HX := Lib.hid hx
  have HN := Lib.hid hn
  clear h hx0 hx hn
  go_enter Tryz.func18, Tryz.ntmps18
  go_wp2_with (go_at_call 49; refine (sameInts_any (some ⟨g, 0, none⟩) A' n c c' xs _ HX0.out HX.out HN.out hn2).mono ?_; rintro e w1 ⟨rfl, m1, rfl⟩)
  refine bodyPost_ret (results_tmp rfl _ _ _) rfl ?_
  exact ⟨rfl, m1, rfl⟩
set_option maxRecDepth 20000 in
set_option maxHeartbeats 1000000 in
theorem copyTexts_any (A : Option Addr) (n c : Nat) (us : List Value) (w : World) (h : SlAt w A n c us) (h1 : ∀ u ∈ us, u.oneCell' = true) (hn : n ≤ 1000000) :
    Calls Tryz.prog 57 #[.slice A n c] w (CopyPost 9 n us w) := by
  obtain ⟨i0, hi0, hz0, hz1, hz2⟩ := info_parts str_info
  have HX := Lib.hid h
  have H1 := Lib.hid h1
  clear h h1
  rcases HX.out.2 with ⟨rfl, rfl, rfl⟩ | ⟨ad, rfl, hc⟩
  · have hu : us = [] := List.eq_nil_of_length_eq_zero HX.out.1
    subst hu
    go_enter Tryz.func57, Tryz.ntmps57
    go_wp2_with (at_builtin
                 refine wpList_append_own_none rfl (.const (.slice none 0 0)) (.tmp 3) _ rfl w.heap.size 9 i0 1 Tryz.underlying23 hi0 (.slice none 0 0) 0 [] rfl (World.ownsRow_nil _ _ _ _) rfl ?_)
    refine bodyPost_ret (results_tmp rfl _ _ _) rfl ?_
    exact ⟨none, 0, rfl, World.ownsRow_nil _ _ _ _, World.grownBy.refl _ _⟩
  · have HC := Lib.hid hc
    clear hc
    go_enter Tryz.func57, Tryz.ntmps57
    go_wp2_with (at_builtin
                 (refine wpList_append_own_at _ rfl (.const (.slice none 0 0)) (.tmp 3) _ rfl w.heap.size 9 i0 _ 1 16 Tryz.underlying23 hi0 hz0 hz1 hz2 rfl (by omega) (.slice none 0 0) 0 [] rfl (World.ownsRow_nil _ _ _ _) ad n c us rfl (by have := HX.out.1; omega) HC.out H1.out (by unfold maxLen; omega) (by omega) (Nat.le_refl _) ?_; intro v3 w3 hown3 hg3 _ hat3; rw [Nat.zero_add, List.nil_append] at hown3; obtain ⟨A3, c3, rfl⟩ := own_form hown3; have HO3 := Lib.hid hown3; have HG3 := Lib.hid hg3; clear hown3 hg3 hat3))
    refine bodyPost_ret (results_tmp rfl _ _ _) rfl ?_
    exact ⟨A3, c3, rfl, HO3.out, HG3.out⟩
/-- What is lent: a slice behind which a mark stands. -/
def LentTexts (w w' : World) (n : Nat) (us : List Value) (v : Value) : Prop := ∃ g c, v = .slice (some ⟨g, 0, none⟩) n c ∧ w'.ownsRow w.heap.size 9 1 (.slice (some ⟨g, 0, none⟩) (n + 1) c) (n + 1) (us ++ [.string ⟨#[109, 97, 114, 107]⟩])
set_option maxRecDepth 20000 in
set_option maxHeartbeats 1000000 in
theorem lentTexts_any (A : Option Addr) (n c : Nat) (us : List Value) (w : World) (h : SlAt w A n c us) (h1 : ∀ u ∈ us, u.oneCell' = true) (hn : n ≤ 1000000) :
    Calls Tryz.prog 7 #[.slice A n c] w fun en w' => ∃ v, en = .returned v ∧ LentTexts w w' n us v ∧ w.grownBy w' none := by
  obtain ⟨i0, hi0, hz0, hz1, hz2⟩ := info_parts str_info
  have HX := Lib.hid h
  have H1 := Lib.hid h1
  clear h h1
  rcases HX.out.2 with ⟨rfl, rfl, rfl⟩ | ⟨ad, rfl, hc⟩
  · have hu : us = [] := List.eq_nil_of_length_eq_zero HX.out.1
    subst hu
    go_enter Tryz.func7, Tryz.ntmps7
    go_wp2_with (at_builtin
                 first
                   | refine wpList_append_own_none rfl (.const (.slice none 0 0)) (.tmp 3) _ rfl w.heap.size 9 i0 1 Tryz.underlying23 hi0 (.slice none 0 0) 0 [] rfl (World.ownsRow_nil _ _ _ _) rfl ?_
                   | (refine wpList_append_own_at _ rfl (.tmp 4) (.tmp 5) _ rfl w.heap.size 9 i0 _ 1 16 Tryz.underlying23 hi0 hz0 hz1 hz2 rfl (by omega) _ 0 [] rfl (World.ownsRow_nil _ _ _ _) ⟨w.heap.size, 0, none⟩ 1 1 [.string ⟨#[109, 97, 114, 107]⟩] rfl rfl (cell_one_new _ _ _) (by simp [Value.oneCell']) (by unfold maxLen; omega) (by omega) (by first | (simp; done) | (have := HG3.out.size; simp; omega)) ?_; intro v4 w4 hown4 hg4 _ hat4; obtain ⟨g4, c4, rfl, _, _⟩ := hown4.form (by omega); obtain ⟨hc4, hm4⟩ := own_cap hown4; have HO4 := Lib.hid hown4; have HG4 := Lib.hid hg4; clear hown4 hg4 hat4))
    refine bodyPost_ret (results_tmp rfl _ _ _) rfl ?_
    exact ⟨_, rfl, ⟨g4, c4, rfl, HO4.out⟩, grown_far (World.grownBy.refl w none) (World.grownBy_alloc _ _ none) HG4.out (by intro g e; cases e)⟩
  · have HC := Lib.hid hc
    clear hc
    go_enter Tryz.func7, Tryz.ntmps7
    go_wp2_with (at_builtin
                 first
                   | (refine wpList_append_own_at _ rfl (.const (.slice none 0 0)) (.tmp 3) _ rfl w.heap.size 9 i0 _ 1 16 Tryz.underlying23 hi0 hz0 hz1 hz2 rfl (by omega) (.slice none 0 0) 0 [] rfl (World.ownsRow_nil _ _ _ _) ad n c us rfl (by have := HX.out.1; omega) HC.out H1.out (by unfold maxLen; omega) (by omega) (Nat.le_refl _) ?_; intro v3 w3 hown3 hg3 _ hat3; rw [Nat.zero_add, List.nil_append] at hown3; obtain ⟨A3, c3, rfl⟩ := own_form hown3; have HO3 := Lib.hid hown3; have HG3 := Lib.hid hg3; clear hown3 hg3 hat3)
                   | (refine wpList_append_own_at _ rfl (.tmp 4) (.tmp 5) _ rfl w.heap.size 9 i0 _ 1 16 Tryz.underlying23 hi0 hz0 hz1 hz2 rfl (by omega) _ n us rfl (HO3.out.alloc _) ⟨w3.heap.size, 0, none⟩ 1 1 [.string ⟨#[109, 97, 114, 107]⟩] rfl rfl (cell_one_new _ _ _) (by simp [Value.oneCell']) (by unfold maxLen; omega) (by omega) (by first | (simp; done) | (have := HG3.out.size; simp; omega)) ?_; intro v4 w4 hown4 hg4 _ hat4; obtain ⟨g4, c4, rfl, _, _⟩ := hown4.form (by omega); obtain ⟨hc4, hm4⟩ := own_cap hown4; have HO4 := Lib.hid hown4; have HG4 := Lib.hid hg4; clear hown4 hg4 hat4))
    refine bodyPost_ret (results_tmp rfl _ _ _) rfl ?_
    exact ⟨_, rfl, ⟨g4, c4, rfl, HO4.out⟩, grown_far (HG3.out.trans (World.grownBy.refl _ none)) (World.grownBy_alloc _ _ none) HG4.out (own_ge HO3.out)⟩
set_option maxRecDepth 20000 in
set_option maxHeartbeats 1000000 in
theorem staysTexts_any (B g n c : Nat) (A' : Option Addr) (c' : Nat) (xs : List ByteArray) (w : World) (h : w.ownsRow B 9 1 (.slice (some ⟨g, 0, none⟩) (n + 1) c) (n + 1) (strV xs ++ [.string ⟨#[109, 97, 114, 107]⟩])) (hx : TextsAt w A' xs) (hn : xs.length = n) (hn2 : n ≤ 1000000) :
    Calls Tryz.prog 19 #[.slice (some ⟨g, 0, none⟩) n c, .slice A' n c'] w fun en w' => en = .returned (.bool true) ∧ ∃ m, w' = w.drewN m := by
  obtain ⟨hc1, hc2⟩ := own_cap h
  have hm : w.cell? ⟨g, n, none⟩ = some (.string ⟨#[109, 97, 114, 107]⟩) := by
    have h1 := h.cells (g := g) rfl n (.string ⟨#[109, 97, 114, 107]⟩) (by rw [List.getElem?_append_right (by simp [strV, hn])]; simp [strV, hn])
    have e : (⟨g, 0, none⟩ : Addr).add n = ⟨g, n, none⟩ := by unfold Addr.add; split <;> simp_all
    rwa [e] at h1
  have hx0 : TextsAt w (some ⟨g, 0, none⟩) xs := fun _ => ⟨_, rfl, fun j x hj => h.cells (g := g) rfl j _ (by
    have hl := (List.getElem?_eq_some_iff.1 hj).1
    rw [List.getElem?_append_left (by simp [strV]; exact hl)]
    simp [strV, hj])⟩
  have HX0 := Lib.hid hx0
  have HX := Lib.hid hx
  have HN := Lib.hid hn
  clear h hx0 hx hn
  go_enter Tryz.func19, Tryz.ntmps19
  go_wp2_with (go_at_call 50; refine (sameTexts_any (some ⟨g, 0, none⟩) A' n c c' xs _ HX0.out HX.out HN.out hn2).mono ?_; rintro e w1 ⟨rfl, m1, rfl⟩)
  refine bodyPost_ret (results_tmp rfl _ _ _) rfl ?_
  exact ⟨rfl, m1, rfl⟩
end Go.Proofs.YthlpdficpmdebaaGreat.Wire
