/- cmd.put: numbers and texts, each behind how many there are. -/
import Derived.Test.YtgmbppfkkiobhaaGreatWireOut
namespace Go.Proofs.YtgmbppfkkiobhaaGreat.Wire
open Go Go.RowKit Go.Lib
theorem Wr.alloc {B p : Nat} {e : Int} {l : List UInt8} {w : World} (h : Wr B p e l w) (o : Obj) : Wr B p e l (w.alloc o) := by
  obtain ⟨hB, v, hp, hown, hne⟩ := h
  exact ⟨hB, v, (Below.heap_alloc w o p (blk_lt hp)).trans hp, hown.alloc o, hne⟩
theorem add_block (a : Addr) (n : Nat) : (a.add n).block = a.block := by unfold Addr.add; split <;> rfl
theorem ib_or {α : Type} {xs : List α} {n B : Nat} {A : Option Addr} (hn : xs.length = n) (h : xs ≠ [] → ∀ ad, A = some ad → ad.block < B) : n ≤ 1 ∨ ∀ ad, A = some ad → ad.block < B := by
  cases xs with
  | nil => exact .inl (by simp at hn; omega)
  | cons x xs => exact .inr (h (by simp))
theorem IntsAt.below {B : Nat} {w w1 : World} {A : Option Addr} {xs : List Int} (h : IntsAt w A xs) (hs : xs ≠ [] → ∀ ad, A = some ad → ad.block < B) (hb : Below B w w1) : IntsAt w1 A xs := by
  intro hne
  obtain ⟨ad, rfl, hc⟩ := h hne
  exact ⟨ad, rfl, fun j x hx => by rw [hb.cell (p := ad.add j) (by rw [add_block]; exact hs hne ad rfl)]; exact hc j x hx⟩
theorem TextsAt.below {B : Nat} {w w1 : World} {A : Option Addr} {xs : List ByteArray} (h : TextsAt w A xs) (hs : xs ≠ [] → ∀ ad, A = some ad → ad.block < B) (hb : Below B w w1) : TextsAt w1 A xs := by
  intro hne
  obtain ⟨ad, rfl, hc⟩ := h hne
  exact ⟨ad, rfl, fun j x hx => by rw [hb.cell (p := ad.add j) (by rw [add_block]; exact hs hne ad rfl)]; exact hc j x hx⟩
theorem ints_one (w : World) (x : Int) (t : TypeId) : IntsAt (w.alloc (.cells #[.int .i64 x] t)) (some ⟨w.heap.size, 0, none⟩) [x] := fun _ =>
  ⟨_, rfl, fun j y hy => by
    match j, hy with
    | 0, hy =>
      simp only [List.getElem?_cons_zero, Option.some.injEq] at hy
      subst hy
      exact cell_one_new w (.int .i64 x) t 0 _ rfl⟩
theorem texts_one (w : World) (x : ByteArray) (t : TypeId) : TextsAt (w.alloc (.cells #[.string x] t)) (some ⟨w.heap.size, 0, none⟩) [x] := fun _ =>
  ⟨_, rfl, fun j y hy => by
    match j, hy with
    | 0, hy =>
      simp only [List.getElem?_cons_zero, Option.some.injEq] at hy
      subst hy
      exact cell_one_new w (.string x) t 0 _ rfl⟩
theorem wnums_bad' (B p : Nat) (e : Int) (he : e ≠ 0) (l : List UInt8) (A : Option Addr) (n c : Nat) (xs : List Int) (w : World) (h : Wr B p e l w) (hx : IntsAt w A xs) (hn : xs.length = n) (hn2 : n ≤ 1000000) :
    Calls Tryz.prog 33 #[.pointer (some ⟨p, 0, none⟩), .slice A n c] w fun en w' => (∃ u, en = .returned u) ∧ Wr B p e l w' ∧ Below B w w' :=
  (wnums_bad B p e he l A n c xs w h hx hn hn2).mono fun _ _ ⟨h1, h2⟩ => ⟨h1, h2 ▸ h, h2 ▸ Below.refl B w⟩
def bl (s : ByteArray) : List UInt8 := s.data.toList
theorem map_tb (xs : List ByteArray) : xs.map tb = (xs.map bl).map textB := by rw [List.map_map]; rfl
/-- put's end. -/
def PutPost (B : Nat) (l : List UInt8) (nums : List Int) (texts : List ByteArray) (w : World) (en : Ending) (w' : World) : Prop :=
  Below B w w' ∧ (((∀ x ∈ texts, x.size ≤ 1000) ∧ en = .returned (.tuple #[.string ⟨(l ++ putB nums (texts.map bl)).toArray⟩, .int .i64 0])) ∨ ((∃ x ∈ texts, 1000 < x.size) ∧ en = .returned (.tuple #[.string ⟨#[]⟩, .int .i64 2])))
set_option maxRecDepth 20000 in
theorem put_ok (B p : Nat) (l : List UInt8) (A : Option Addr) (n c : Nat) (nums : List Int) (A' : Option Addr) (m c' : Nat) (texts : List ByteArray) (mn mt : Int) (w : World) (h : Wr B p 0 l w)
    (hx : IntsAt w A nums) (hn : nums.length = n) (hs : nums ≠ [] → ∀ ad, A = some ad → ad.block < B) (hok : ∀ x ∈ nums, okI x)
    (hx' : TextsAt w A' texts) (hm : texts.length = m) (hs' : texts ≠ [] → ∀ ad, A' = some ad → ad.block < B) (hmax : ∀ x ∈ texts, x.size ≤ maxLen)
    (hnm : (n : Int) ≤ mn) (hmm : (m : Int) ≤ mt) (hn2 : n ≤ 2000) (hm2 : m ≤ 100) (hl : l.length ≤ 2000) :
    Calls Tryz.prog 135 #[.pointer (some ⟨p, 0, none⟩), .slice A n c, .slice A' m c', .int .i64 mn, .int .i64 mt] w (PutPost B l nums texts w) := by
  have HW := Lib.hid h
  have HX := Lib.hid hx
  have HNN := Lib.hid hn
  have HS := Lib.hid hs
  have HOK := Lib.hid hok
  have HX' := Lib.hid hx'
  have HMM := Lib.hid hm
  have HS' := Lib.hid hs'
  have HMAX := Lib.hid hmax
  have HB := Lib.hid h.cells.2.2
  have HL := Lib.hid hl
  clear h hx hn hs hok hx' hm hs' hmax hl
  go_enter Tryz.func135, Tryz.ntmps135
  go_wp2_with fail
  refine (wnums_any B p l _ 1 1 [(n : Int)] _ (HW.out.alloc _) (ints_one w n _) rfl (.inl (Nat.le_refl _)) (by intro x hx; simp at hx; subst hx; exact ⟨by omega, by omega⟩) (by have := HL.out; omega) (by omega)).mono ?_
  rintro e w1 ⟨⟨u1, rfl⟩, hW1, hb1⟩
  have hb1' := ((Below.refl B w).alloc HB.out _).trans hb1
  have HW1 := Lib.hid hW1
  clear hW1 hb1
  go_wp2_with fail
  refine (wnums_any B p _ A n c nums _ HW1.out (HX.out.below HS.out hb1') HNN.out (ib_or HNN.out HS.out) HOK.out (by have := HL.out; have := flat_len [(n : Int)] (by intro x hx; simp at hx; subst hx; exact ⟨by omega, by omega⟩); simp only [List.length_append, List.length_cons, List.length_nil] at this ⊢; omega) (by omega)).mono ?_
  rintro e w2 ⟨⟨u2, rfl⟩, hW2, hb2⟩
  have hb2' := hb1'.trans hb2
  have HW2 := Lib.hid hW2
  have HBS2 := Lib.hid hW2.cells.2.2
  have hl2 : (l ++ ([(n : Int)].map numB).flatten ++ (nums.map numB).flatten).length ≤ 22010 := by
    have h0 := HL.out
    have h1 := flat_len [(n : Int)] (by intro x hx; simp at hx; subst hx; exact ⟨by omega, by omega⟩)
    have h2 := flat_len nums HOK.out
    have h3 := HNN.out
    simp only [List.length_append, List.length_cons, List.length_nil] at h1 h2 ⊢
    omega
  have HL2 := Lib.hid hl2
  clear hW2 hb2 hb1' hl2
  go_wp2_with fail
  refine (wnums_any B p _ _ 1 1 [(m : Int)] _ (HW2.out.alloc _) (ints_one w2 m _) rfl (.inl (Nat.le_refl _)) (by intro x hx; simp at hx; subst hx; exact ⟨by omega, by omega⟩) (by have := HL2.out; omega) (by omega)).mono ?_
  rintro e w3 ⟨⟨u3, rfl⟩, hW3, hb3⟩
  have hb3' := (hb2'.alloc HBS2.out _).trans hb3
  have HW3 := Lib.hid hW3
  clear hW3 hb3 hb2'
  go_wp2_with fail
  refine (wtexts_any B p _ A' m c' texts _ HW3.out (HX'.out.below HS'.out hb3') HMM.out (ib_or HMM.out HS'.out) HMAX.out (by
    have h0 := HL2.out
    have h1 := flat_len [(m : Int)] (by intro x hx; simp at hx; subst hx; exact ⟨by omega, by omega⟩)
    simp only [List.length_append, List.length_cons, List.length_nil] at h0 h1 ⊢
    omega) (by omega)).mono ?_
  rintro e w4 ⟨⟨u4, rfl⟩, hb4, hh⟩
  have hb4' := hb3'.trans hb4
  clear hb4 hb3'
  rcases hh with ⟨hfit, hW4⟩ | ⟨hlong, l', hW4⟩
  · have hE : l ++ ([(n : Int)].map numB).flatten ++ (nums.map numB).flatten ++ ([(m : Int)].map numB).flatten ++ (texts.map tb).flatten = l ++ putB nums (texts.map bl) := by
      simp only [putB, map_tb, List.map_cons, List.map_nil, List.flatten_cons, List.flatten_nil, List.append_nil, List.append_assoc, HNN.out, HMM.out, List.length_map]
    rw [hE] at hW4
    obtain ⟨L4, hL4⟩ : ∃ L, l ++ putB nums (texts.map bl) = L := ⟨_, rfl⟩
    rw [hL4] at hW4
    have HL4 := Lib.hid hL4
    have HFIT := Lib.hid hfit
    have HW4 := Lib.hid hW4
    clear hfit hW4 hL4 hE
    go_wp2_with fail
    refine (wbytes_any B p _ _ HW4.out).mono ?_
    rintro e w5 ⟨rfl, rfl⟩
    go_wp2_with fail
    go_ret2
    refine ⟨hb4', .inl ⟨HFIT.out, ?_⟩⟩
    rw [HL4.out]
    rfl
  · have HLONG := Lib.hid hlong
    have HW4 := Lib.hid hW4
    clear hlong hW4
    go_wp2_with fail
    refine (wbytes_bad B p 2 (by decide) _ _ HW4.out).mono ?_
    rintro e w5 ⟨rfl, rfl⟩
    go_wp2_with fail
    go_ret2
    exact ⟨hb4', .inr ⟨HLONG.out, rfl⟩⟩
set_option maxRecDepth 20000 in
/-- Too many. -/
theorem put_many (p : Nat) (A : Option Addr) (n c : Nat) (A' : Option Addr) (m c' : Nat) (mn mt : Int) (w : World) (hmany : mn < (n : Int) ∨ mt < (m : Int)) :
    Calls Tryz.prog 135 #[.pointer (some ⟨p, 0, none⟩), .slice A n c, .slice A' m c', .int .i64 mn, .int .i64 mt] w fun en w' => en = .returned (.tuple #[.string ⟨#[]⟩, .int .i64 2]) ∧ w = w' := by
  by_cases h1 : mn < (n : Int)
  · clear hmany
    go_enter Tryz.func135, Tryz.ntmps135
    go_wp2_with fail
    go_ret2
    exact ⟨rfl, rfl⟩
  · have h2 : mt < (m : Int) := by omega
    clear hmany
    go_enter Tryz.func135, Tryz.ntmps135
    go_wp2_with fail
    go_ret2
    exact ⟨rfl, rfl⟩
set_option maxRecDepth 20000 in
set_option maxHeartbeats 1000000 in
/-- Behind an error. -/
theorem put_bad (B p : Nat) (e : Int) (he : e ≠ 0) (l : List UInt8) (A : Option Addr) (n c : Nat) (nums : List Int) (A' : Option Addr) (m c' : Nat) (texts : List ByteArray) (mn mt : Int) (w : World) (h : Wr B p e l w)
    (hx : IntsAt w A nums) (hn : nums.length = n) (hs : nums ≠ [] → ∀ ad, A = some ad → ad.block < B)
    (hx' : TextsAt w A' texts) (hm : texts.length = m) (hs' : texts ≠ [] → ∀ ad, A' = some ad → ad.block < B)
    (hnm : (n : Int) ≤ mn) (hmm : (m : Int) ≤ mt) (hn2 : n ≤ 2000) (hm2 : m ≤ 100) :
    Calls Tryz.prog 135 #[.pointer (some ⟨p, 0, none⟩), .slice A n c, .slice A' m c', .int .i64 mn, .int .i64 mt] w fun en w' => en = .returned (.tuple #[.string ⟨#[]⟩, .int .i64 e]) ∧ Below B w w' := by
  have HW := Lib.hid h
  have HX := Lib.hid hx
  have HNN := Lib.hid hn
  have HS := Lib.hid hs
  have HX' := Lib.hid hx'
  have HMM := Lib.hid hm
  have HS' := Lib.hid hs'
  have HB := Lib.hid h.cells.2.2
  have HE := Lib.hid he
  clear h hx hn hs hx' hm hs' he
  go_enter Tryz.func135, Tryz.ntmps135
  go_wp2_with fail
  refine (wnums_bad' B p e HE.out l _ 1 1 [(n : Int)] _ (HW.out.alloc _) (ints_one w n _) rfl (by omega)).mono ?_
  rintro e1 w1 ⟨⟨u1, rfl⟩, hW1, hb1⟩
  have hb1' := ((Below.refl B w).alloc HB.out _).trans hb1
  have HW1 := Lib.hid hW1
  clear hW1 hb1
  go_wp2_with fail
  refine (wnums_bad' B p e HE.out l A n c nums _ HW1.out (HX.out.below HS.out hb1') HNN.out (by omega)).mono ?_
  rintro e1 w2 ⟨⟨u2, rfl⟩, hW2, hb2⟩
  have hb2' := hb1'.trans hb2
  have HW2 := Lib.hid hW2
  have HBS2 := Lib.hid hW2.cells.2.2
  clear hW2 hb2 hb1'
  go_wp2_with fail
  refine (wnums_bad' B p e HE.out l _ 1 1 [(m : Int)] _ (HW2.out.alloc _) (ints_one _ m _) rfl (by omega)).mono ?_
  rintro e1 w3 ⟨⟨u3, rfl⟩, hW3, hb3⟩
  have hb3' := (hb2'.alloc HBS2.out _).trans hb3
  have HW3 := Lib.hid hW3
  clear hW3 hb3 hb2'
  go_wp2_with fail
  refine (wtexts_bad B p e HE.out l A' m c' texts _ HW3.out (HX'.out.below HS'.out hb3') HMM.out (by omega)).mono ?_
  rintro e1 w4 ⟨⟨u4, rfl⟩, rfl⟩
  go_wp2_with fail
  refine (wbytes_bad B p e HE.out l _ HW3.out).mono ?_
  rintro e1 w5 ⟨rfl, rfl⟩
  go_wp2_with fail
  go_ret2
  exact ⟨rfl, hb3'⟩
end Go.Proofs.YtgmbppfkkiobhaaGreat.Wire
