/- cmd.put: numbers and texts, each behind how many there are. -/
import Derived.Test.YtgmbppfkkiobhaaGreatWireA
import Derived.Lib.SmallJoins
import Derived.SliceStrings
import Derived.ChangeSlices
import Derived.ChangeMaps5
namespace Go.Proofs.YtgmbppfkkiobhaaGreat.Wire
open Go Go.RowKit Go.Lib
theorem Wr.alloc {B p : Nat} {e : Int} {l : List UInt8} {w : World} (h : Wr B p e l w) (o : Obj) : Wr B p e l (w.alloc o) := by
  obtain ⟨hB, v, hp, hown, hne⟩ := h
  exact ⟨hB, v, (Below.heap_alloc w o p (blk_lt hp)).trans hp, hown.alloc o, hne⟩
theorem add_block (a : Addr) (n : Nat) : (a.add n).block = a.block := by unfold Addr.add; split <;> rfl
theorem ib_or {α : Type} {xs : List α} {n B : Nat} {A : Option Addr} (hn : xs.length = n) (h : xs ≠ [] → ∀ ad, A = some ad → ad.block < B) : n ≤ 1 ∨ ∀ ad, A = some ad → ad.block < B := by
  cases xs with
  | nil => exact .inl (by simp at hn; omega)
  | cons x xs => exact .inr (h (by simp))
theorem IntsAt.below {B : Nat} {w w1 : World} {A : Option Addr} {xs : List Int} (h : IntsAt w A xs) (hs : xs ≠ [] → ∀ ad, A = some ad → ad.block < B) (hb : Below B w w1) : IntsAt w1 A xs := by
  intro hne
  obtain ⟨ad, rfl, hc⟩ := h hne
  exact ⟨ad, rfl, fun j x hx => by rw [hb.cell (p := ad.add j) (by rw [add_block]; exact hs hne ad rfl)]; exact hc j x hx⟩
theorem TextsAt.below {B : Nat} {w w1 : World} {A : Option Addr} {xs : List ByteArray} (h : TextsAt w A xs) (hs : xs ≠ [] → ∀ ad, A = some ad → ad.block < B) (hb : Below B w w1) : TextsAt w1 A xs := by
  intro hne
  obtain ⟨ad, rfl, hc⟩ := h hne
  exact ⟨ad, rfl, fun j x hx => by rw [hb.cell (p := ad.add j) (by rw [add_block]; exact hs hne ad rfl)]; exact hc j x hx⟩
theorem ints_one (w : World) (x : Int) (t : TypeId) : IntsAt (w.alloc (.cells #[.int .i64 x] t)) (some ⟨w.heap.size, 0, none⟩) [x] := fun _ =>
  ⟨_, rfl, fun j y hy => by
    match j, hy with
    | 0, hy =>
      simp only [List.getElem?_cons_zero, Option.some.injEq] at hy
      subst hy
      exact cell_one_new w (.int .i64 x) t 0 _ rfl⟩
theorem texts_one (w : World) (x : ByteArray) (t : TypeId) : TextsAt (w.alloc (.cells #[.string x] t)) (some ⟨w.heap.size, 0, none⟩) [x] := fun _ =>
  ⟨_, rfl, fun j y hy => by
    match j, hy with
    | 0, hy =>
      simp only [List.getElem?_cons_zero, Option.some.injEq] at hy
      subst hy
      exact cell_one_new w (.string x) t 0 _ rfl⟩
theorem wnums_bad' (B p : Nat) (e : Int) (he : e ≠ 0) (l : List UInt8) (A : Option Addr) (n c : Nat) (xs : List Int) (w : World) (h : Wr B p e l w) (hx : IntsAt w A xs) (hn : xs.length = n) (hn2 : n ≤ 1000000) :
    Calls Tryz.prog 33 #[.pointer (some ⟨p, 0, none⟩), .slice A n c] w fun en w' => (∃ u, en = .returned u) ∧ Wr B p e l w' ∧ Below B w w' :=
  (wnums_bad B p e he l A n c xs w h hx hn hn2).mono fun _ _ ⟨h1, h2⟩ => ⟨h1, h2 ▸ h, h2 ▸ Below.refl B w⟩
def bl (s : ByteArray) : List UInt8 := s.data.toList
theorem map_tb (xs : List ByteArray) : xs.map tb = (xs.map bl).map textB := by rw [List.map_map]; rfl
/-- put's end. -/
def PutPost (B : Nat) (l : List UInt8) (nums : List Int) (texts : List ByteArray) (w : World) (en : Ending) (w' : World) : Prop :=
  Below B w w' ∧ (((∀ x ∈ texts, x.size ≤ 1000) ∧ en = .returned (.tuple #[.string ⟨(l ++ putB nums (texts.map bl)).toArray⟩, .int .i64 0])) ∨ ((∃ x ∈ texts, 1000 < x.size) ∧ en = .returned (.tuple #[.string ⟨#[]⟩, .int .i64 2])))
set_option maxRecDepth 20000 in
theorem put_ok (B p : Nat) (l : List UInt8) (A : Option Addr) (n c : Nat) (nums : List Int) (A' : Option Addr) (m c' : Nat) (texts : List ByteArray) (mn mt : Int) (w : World) (h : Wr B p 0 l w)
    (hx : IntsAt w A nums) (hn : nums.length = n) (hs : nums ≠ [] → ∀ ad, A = some ad → ad.block < B) (hok : ∀ x ∈ nums, okI x)
    (hx' : TextsAt w A' texts) (hm : texts.length = m) (hs' : texts ≠ [] → ∀ ad, A' = some ad → ad.block < B) (hmax : ∀ x ∈ texts, x.size ≤ maxLen)
    (hnm : (n : Int) ≤ mn) (hmm : (m : Int) ≤ mt) (hn2 : n ≤ 2000) (hm2 : m ≤ 100) (hl : l.length ≤ 2000) :
    Calls Tryz.prog 135 #[.pointer (some ⟨p, 0, none⟩), .slice A n c, .slice A' m c', .int .i64 mn, .int .i64 mt] w (PutPost B l nums texts w) := by
  have HW := Lib.hid h
  have HX := Lib.hid hx
  have HNN := Lib.hid hn
  have HS := Lib.hid hs
  have HOK := Lib.hid hok
  have HX' := Lib.hid hx'
  have HMM := Lib.hid hm
  have HS' := Lib.hid hs'
  have HMAX := Lib.hid hmax
  have HB := Lib.hid h.cells.2.2
  have HL := Lib.hid hl
  clear h hx hn hs hok hx' hm hs' hmax hl
  go_enter Tryz.func135, Tryz.ntmps135
  go_wp2_with fail
  refine (wnums_any B p l _ 1 1 [(n : Int)] _ (HW.out.alloc _) (ints_one w n _) rfl (.inl (Nat.le_refl _)) (by intro x hx; simp at hx; subst hx; exact ⟨by omega, by omega⟩) (by have := HL.out; omega) (by omega)).mono ?_
  rintro e w1 ⟨⟨u1, rfl⟩, hW1, hb1⟩
  have hb1' := ((Below.refl B w).alloc HB.out _).trans hb1
  have HW1 := Lib.hid hW1
  clear hW1 hb1
  go_wp2_with fail
  refine (wnums_any B p _ A n c nums _ HW1.out (HX.out.below HS.out hb1') HNN.out (ib_or HNN.out HS.out) HOK.out (by have := HL.out; have := flat_len [(n : Int)] (by intro x hx; simp at hx; subst hx; exact ⟨by omega, by omega⟩); simp only [List.length_append, List.length_cons, List.length_nil] at this ⊢; omega) (by omega)).mono ?_
  rintro e w2 ⟨⟨u2, rfl⟩, hW2, hb2⟩
  have hb2' := hb1'.trans hb2
  have HW2 := Lib.hid hW2
  have HBS2 := Lib.hid hW2.cells.2.2
  have hl2 : (l ++ ([(n : Int)].map numB).flatten ++ (nums.map numB).flatten).length ≤ 22010 := by
    have h0 := HL.out
    have h1 := flat_len [(n : Int)] (by intro x hx; simp at hx; subst hx; exact ⟨by omega, by omega⟩)
    have h2 := flat_len nums HOK.out
    have h3 := HNN.out
    simp only [List.length_append, List.length_cons, List.length_nil] at h1 h2 ⊢
    omega
  have HL2 := Lib.hid hl2
  clear hW2 hb2 hb1' hl2
  go_wp2_with fail
  refine (wnums_any B p _ _ 1 1 [(m : Int)] _ (HW2.out.alloc _) (ints_one w2 m _) rfl (.inl (Nat.le_refl _)) (by intro x hx; simp at hx; subst hx; exact ⟨by omega, by omega⟩) (by have := HL2.out; omega) (by omega)).mono ?_
  rintro e w3 ⟨⟨u3, rfl⟩, hW3, hb3⟩
  have hb3' := (hb2'.alloc HBS2.out _).trans hb3
  have HW3 := Lib.hid hW3
  clear hW3 hb3 hb2'
  go_wp2_with fail
  refine (wtexts_any B p _ A' m c' texts _ HW3.out (HX'.out.below HS'.out hb3') HMM.out (ib_or HMM.out HS'.out) HMAX.out (by
    have h0 := HL2.out
    have h1 := flat_len [(m : Int)] (by intro x hx; simp at hx; subst hx; exact ⟨by omega, by omega⟩)
    simp only [List.length_append, List.length_cons, List.length_nil] at h0 h1 ⊢
    omega) (by omega)).mono ?_
  rintro e w4 ⟨⟨u4, rfl⟩, hb4, hh⟩
  have hb4' := hb3'.trans hb4
  clear hb4 hb3'
  rcases hh with ⟨hfit, hW4⟩ | ⟨hlong, l', hW4⟩
  · have hE : l ++ ([(n : Int)].map numB).flatten ++ (nums.map numB).flatten ++ ([(m : Int)].map numB).flatten ++ (texts.map tb).flatten = l ++ putB nums (texts.map bl) := by
      simp only [putB, map_tb, List.map_cons, List.map_nil, List.flatten_cons, List.flatten_nil, List.append_nil, List.append_assoc, HNN.out, HMM.out, List.length_map]
    rw [hE] at hW4
    obtain ⟨L4, hL4⟩ : ∃ L, l ++ putB nums (texts.map bl) = L := ⟨_, rfl⟩
    rw [hL4] at hW4
    have HL4 := Lib.hid hL4
    have HFIT := Lib.hid hfit
    have HW4 := Lib.hid hW4
    clear hfit hW4 hL4 hE
    go_wp2_with fail
    refine (wbytes_any B p _ _ HW4.out).mono ?_
    rintro e w5 ⟨rfl, rfl⟩
    go_wp2_with fail
    go_ret2
    refine ⟨hb4', .inl ⟨HFIT.out, ?_⟩⟩
    rw [HL4.out]
    rfl
  · have HLONG := Lib.hid hlong
    have HW4 := Lib.hid hW4
    clear hlong hW4
    go_wp2_with fail
    refine (wbytes_bad B p 2 (by decide) _ _ HW4.out).mono ?_
    rintro e w5 ⟨rfl, rfl⟩
    go_wp2_with fail
    go_ret2
    exact ⟨hb4', .inr ⟨HLONG.out, rfl⟩⟩
set_option maxRecDepth 20000 in
/-- Too many. -/
theorem put_many (p : Nat) (A : Option Addr) (n c : Nat) (A' : Option Addr) (m c' : Nat) (mn mt : Int) (w : World) (hmany : mn < (n : Int) ∨ mt < (m : Int)) :
    Calls Tryz.prog 135 #[.pointer (some ⟨p, 0, none⟩), .slice A n c, .slice A' m c', .int .i64 mn, .int .i64 mt] w fun en w' => en = .returned (.tuple #[.string ⟨#[]⟩, .int .i64 2]) ∧ w = w' := by
  by_cases h1 : mn < (n : Int)
  · clear hmany
    go_enter Tryz.func135, Tryz.ntmps135
    go_wp2_with fail
    go_ret2
    exact ⟨rfl, rfl⟩
  · have h2 : mt < (m : Int) := by omega
    clear hmany
    go_enter Tryz.func135, Tryz.ntmps135
    go_wp2_with fail
    go_ret2
    exact ⟨rfl, rfl⟩
set_option maxRecDepth 20000 in
set_option maxHeartbeats 1000000 in
/-- Behind an error. -/
theorem put_bad (B p : Nat) (e : Int) (he : e ≠ 0) (l : List UInt8) (A : Option Addr) (n c : Nat) (nums : List Int) (A' : Option Addr) (m c' : Nat) (texts : List ByteArray) (mn mt : Int) (w : World) (h : Wr B p e l w)
    (hx : IntsAt w A nums) (hn : nums.length = n) (hs : nums ≠ [] → ∀ ad, A = some ad → ad.block < B)
    (hx' : TextsAt w A' texts) (hm : texts.length = m) (hs' : texts ≠ [] → ∀ ad, A' = some ad → ad.block < B)
    (hnm : (n : Int) ≤ mn) (hmm : (m : Int) ≤ mt) (hn2 : n ≤ 2000) (hm2 : m ≤ 100) :
    Calls Tryz.prog 135 #[.pointer (some ⟨p, 0, none⟩), .slice A n c, .slice A' m c', .int .i64 mn, .int .i64 mt] w fun en w' => en = .returned (.tuple #[.string ⟨#[]⟩, .int .i64 e]) ∧ Below B w w' := by
  have HW := Lib.hid h
  have HX := Lib.hid hx
  have HNN := Lib.hid hn
  have HS := Lib.hid hs
  have HX' := Lib.hid hx'
  have HMM := Lib.hid hm
  have HS' := Lib.hid hs'
  have HB := Lib.hid h.cells.2.2
  have HE := Lib.hid he
  clear h hx hn hs hx' hm hs' he
  go_enter Tryz.func135, Tryz.ntmps135
  go_wp2_with fail
  refine (wnums_bad' B p e HE.out l _ 1 1 [(n : Int)] _ (HW.out.alloc _) (ints_one w n _) rfl (by omega)).mono ?_
  rintro e1 w1 ⟨⟨u1, rfl⟩, hW1, hb1⟩
  have hb1' := ((Below.refl B w).alloc HB.out _).trans hb1
  have HW1 := Lib.hid hW1
  clear hW1 hb1
  go_wp2_with fail
  refine (wnums_bad' B p e HE.out l A n c nums _ HW1.out (HX.out.below HS.out hb1') HNN.out (by omega)).mono ?_
  rintro e1 w2 ⟨⟨u2, rfl⟩, hW2, hb2⟩
  have hb2' := hb1'.trans hb2
  have HW2 := Lib.hid hW2
  have HBS2 := Lib.hid hW2.cells.2.2
  clear hW2 hb2 hb1'
  go_wp2_with fail
  refine (wnums_bad' B p e HE.out l _ 1 1 [(m : Int)] _ (HW2.out.alloc _) (ints_one _ m _) rfl (by omega)).mono ?_
  rintro e1 w3 ⟨⟨u3, rfl⟩, hW3, hb3⟩
  have hb3' := (hb2'.alloc HBS2.out _).trans hb3
  have HW3 := Lib.hid hW3
  clear hW3 hb3 hb2'
  go_wp2_with fail
  refine (wtexts_bad B p e HE.out l A' m c' texts _ HW3.out (HX'.out.below HS'.out hb3') HMM.out (by omega)).mono ?_
  rintro e1 w4 ⟨⟨u4, rfl⟩, rfl⟩
  go_wp2_with fail
  refine (wbytes_bad B p e HE.out l _ HW3.out).mono ?_
  rintro e1 w5 ⟨rfl, rfl⟩
  go_wp2_with fail
  go_ret2
  exact ⟨rfl, hb3'⟩
end Go.Proofs.YtgmbppfkkiobhaaGreat.Wire
/- cmd.Put, cmd.PutReply: a command, a reply as bytes. -/
namespace Go.Proofs.YtgmbppfkkiobhaaGreat.Wire
open Go Go.RowKit Go.Lib
def cmdBox (kind : Int) (party : ByteArray) (A : Option Addr) (n c : Nat) (A' : Option Addr) (m c' : Nat) : Obj := .cells #[.int .i64 kind, .string party, .slice A n c, .slice A' m c'] 63
def repBox (err : Int) (A : Option Addr) (n c : Nat) (A' : Option Addr) (m c' : Nat) : Obj := .cells #[.int .i64 err, .slice A n c, .slice A' m c'] 67
theorem box_at {w w1 : World} {o : Obj} (hb : Below (w.alloc o).heap.size (w.alloc o) w1) : w1.heap[w.heap.size]? = some o :=
  (hb.block w.heap.size (by simp)).trans (heap_alloc_new w o)
theorem box_at' {w w1 : World} {o : Obj} (hb : Below (w.heap.size + 1) (w.alloc o) w1) : w1.heap[w.heap.size]? = some o :=
  (hb.block w.heap.size (by simp)).trans (heap_alloc_new w o)
theorem cmdBox_cells {w1 : World} {b : Nat} {kind : Int} {party : ByteArray} {A : Option Addr} {n c : Nat} {A' : Option Addr} {m c' : Nat} (h : w1.heap[b]? = some (cmdBox kind party A n c A' m c')) :
    w1.cell? ⟨b, 0, none⟩ = some (.int .i64 kind) ∧ w1.cell? ⟨b, 1, none⟩ = some (.string party) ∧ w1.cell? ⟨b, 2, none⟩ = some (.slice A n c) ∧ w1.cell? ⟨b, 3, none⟩ = some (.slice A' m c') := by
  refine ⟨?_, ?_, ?_, ?_⟩ <;> (rw [cell_p h]; rfl)
theorem repBox_cells {w1 : World} {b : Nat} {err : Int} {A : Option Addr} {n c : Nat} {A' : Option Addr} {m c' : Nat} (h : w1.heap[b]? = some (repBox err A n c A' m c')) :
    w1.cell? ⟨b, 0, none⟩ = some (.int .i64 err) ∧ w1.cell? ⟨b, 1, none⟩ = some (.slice A n c) ∧ w1.cell? ⟨b, 2, none⟩ = some (.slice A' m c') := by
  refine ⟨?_, ?_, ?_⟩ <;> (rw [cell_p h]; rfl)
/-- A row of numbers and a row of texts that lie below a block. -/
structure Rows2 (w : World) (B : Nat) (A : Option Addr) (n : Nat) (nums : List Int) (A' : Option Addr) (m : Nat) (texts : List ByteArray) : Prop where
  iat : IntsAt w A nums
  n_ : nums.length = n
  ib : nums ≠ [] → ∀ ad, A = some ad → ad.block < B
  ok : ∀ x ∈ nums, okI x
  tat : TextsAt w A' texts
  m_ : texts.length = m
  tb : texts ≠ [] → ∀ ad, A' = some ad → ad.block < B
  max : ∀ x ∈ texts, x.size ≤ maxLen
theorem Rows2.below {w w1 : World} {B B' : Nat} {A : Option Addr} {n : Nat} {nums : List Int} {A' : Option Addr} {m : Nat} {texts : List ByteArray} (h : Rows2 w B A n nums A' m texts) (hb : Below B w w1) (hB : B ≤ B') : Rows2 w1 B' A n nums A' m texts :=
  ⟨h.iat.below h.ib hb, h.n_, fun e0 ad e => by have := h.ib e0 ad e; omega, h.ok, h.tat.below h.tb hb, h.m_, fun e0 ad e => by have := h.tb e0 ad e; omega, h.max⟩
/-- Put's end. -/
def PutCPost (kind : Int) (party : ByteArray) (nums : List Int) (texts : List ByteArray) (w : World) (en : Ending) (w' : World) : Prop :=
  Below w.heap.size w w' ∧ ((party.size ≤ 1000 ∧ nums.length ≤ 70 ∧ texts.length ≤ 10 ∧ (∀ x ∈ texts, x.size ≤ 1000) ∧ en = .returned (.tuple #[.string ⟨(cmdB kind (bl party) nums (texts.map bl)).toArray⟩, .int .i64 0])) ∨
    ∃ e : Int, e ≠ 0 ∧ en = .returned (.tuple #[.string ⟨#[]⟩, .int .i64 e]))
set_option maxRecDepth 20000 in
set_option maxHeartbeats 1000000 in
theorem putC_any (kind : Int) (party : ByteArray) (A : Option Addr) (n c : Nat) (nums : List Int) (A' : Option Addr) (m c' : Nat) (texts : List ByteArray) (w : World) (hk : okI kind) (hp : party.size ≤ maxLen) (h : Rows2 w w.heap.size A n nums A' m texts) :
    Calls Tryz.prog 46 #[.agg #[.int .i64 kind, .string party, .slice A n c, .slice A' m c']] w (PutCPost kind party nums texts w) := by
  have HK := Lib.hid hk
  have HP := Lib.hid hp
  have HR := Lib.hid h
  clear hk hp h
  go_enter Tryz.func46, Tryz.ntmps46
  go_wp2_with fail
  refine (newW_any _).mono ?_
  rintro e w1 ⟨rfl, hW1, hb1⟩
  have hsz0 : (w.alloc (cmdBox kind party A n c A' m c')).heap.size = w.heap.size + 1 := by simp
  have hW1' : Wr (w.heap.size + 1) (w.heap.size + 1) 0 [] w1 := by rw [← hsz0]; exact hW1
  have hb1' : Below (w.heap.size + 1) (w.alloc (cmdBox kind party A n c A' m c')) w1 := by rw [← hsz0]; exact hb1
  have HB1 := Lib.hid hb1'
  have HW1 := Lib.hid hW1'
  have HBS := Lib.hid hW1'.cells.2.2
  obtain ⟨c0, _, _, _⟩ := cmdBox_cells (box_at hb1)
  clear hW1 hW1' hb1 hb1' hsz0
  go_wp2_with fail
  refine (wnums_any (w.heap.size + 1) (w.heap.size + 1) [] _ 1 1 [kind] _ (HW1.out.alloc _) (ints_one w1 kind _) rfl (.inl (Nat.le_refl _)) (by intro x hx; simp at hx; subst hx; exact HK.out) (by simp) (by omega)).mono ?_
  rintro e w2 ⟨⟨u2, rfl⟩, hW2, hb2⟩
  have HB2 := Lib.hid ((HB1.out.alloc HBS.out _).trans hb2)
  have HW2 := Lib.hid hW2
  have HBS2 := Lib.hid hW2.cells.2.2
  obtain ⟨c1, _, _⟩ := (cmdBox_cells (box_at' HB2.out)).2
  clear hW2 hb2 c0
  go_wp2_with fail
  refine (wtexts_any (w.heap.size + 1) (w.heap.size + 1) _ _ 1 1 [party] _ (HW2.out.alloc _) (texts_one w2 party _) rfl (.inl (Nat.le_refl _)) (by intro x hx; simp at hx; subst hx; exact HP.out) (by have := flat_len [kind] (by intro x hx; simp at hx; subst hx; exact HK.out); simp only [List.length_append, List.length_cons, List.length_nil] at this ⊢; omega) (by omega)).mono ?_
  rintro e w3 ⟨⟨u3, rfl⟩, hb3, hh⟩
  have HB3 := Lib.hid ((HB2.out.alloc HBS2.out _).trans hb3)
  obtain ⟨c2, c3⟩ := (cmdBox_cells (box_at' HB3.out)).2.2
  have HR3 := Lib.hid (HR.out.below (((Below.refl w.heap.size w).alloc (Nat.le_refl _) _).trans (HB3.out.mono (Nat.le_succ _))) (Nat.le_succ w.heap.size))
  clear hb3 c1
  have HF : Hid (Below w.heap.size w w3) := Lib.hid (((Below.refl w.heap.size w).alloc (Nat.le_refl _) _).trans (HB3.out.mono (Nat.le_succ _)))
  by_cases hmany : 70 < n ∨ 10 < m
  · clear hh
    go_wp2_with fail
    refine (put_many _ _ _ _ _ _ _ _ _ _ (by omega)).mono ?_
    rintro e w4 ⟨rfl, rfl⟩
    go_wp2_with fail
    go_ret2
    exact ⟨HF.out, .inr ⟨2, by decide, rfl⟩⟩
  · have hn70 : n ≤ 70 := by omega
    have hm10 : m ≤ 10 := by omega
    clear hmany
    rcases hh with ⟨hfit, hW3⟩ | ⟨hl, l', hW3⟩
    · obtain ⟨L3, hL3⟩ : ∃ L, [] ++ ([kind].map numB).flatten ++ ([party].map tb).flatten = L := ⟨_, rfl⟩
      rw [hL3] at hW3
      have HL3 := Lib.hid hL3
      have HFIT := Lib.hid (hfit party (by simp))
      have HW3 := Lib.hid hW3
      clear hL3 hfit hW3
      go_wp2_with fail
      refine (put_ok (w.heap.size + 1) _ L3 A n c nums A' m c' texts 70 10 _ HW3.out HR3.out.iat HR3.out.n_ HR3.out.ib HR3.out.ok HR3.out.tat HR3.out.m_ HR3.out.tb HR3.out.max (by omega) (by omega) (by omega) (by omega) (by
        have h1 := flat_len [kind] (by intro x hx; simp at hx; subst hx; exact HK.out)
        have h2 := flat_tlen [party] (by intro x hx; simp at hx; subst hx; exact HFIT.out)
        rw [← HL3.out]
        simp only [List.length_append, List.length_cons, List.length_nil] at h1 h2 ⊢
        omega)).mono ?_
      rintro e w4 ⟨hb4, hh⟩
      have HB4 := Lib.hid (HF.out.trans (hb4.mono (Nat.le_succ _)))
      clear hb4
      rcases hh with ⟨hfit2, rfl⟩ | ⟨_, rfl⟩
      · obtain ⟨L4, hL4⟩ : ∃ L, L3 ++ putB nums (texts.map bl) = L := ⟨_, rfl⟩
        rw [hL4]
        have HL4 := Lib.hid hL4
        have HFIT2 := Lib.hid hfit2
        clear hL4 hfit2
        go_wp2_with fail
        go_ret2
        refine ⟨HB4.out, .inl ⟨HFIT.out, by have := HR.out.n_; omega, by have := HR.out.m_; omega, HFIT2.out, ?_⟩⟩
        have hE : cmdB kind (bl party) nums (texts.map bl) = L4 := by
          rw [← HL4.out, ← HL3.out]
          simp only [cmdB, tb, bl, List.map_cons, List.map_nil, List.flatten_cons, List.flatten_nil, List.append_nil, List.nil_append, List.append_assoc]
        rw [hE]
        rfl
      · go_wp2_with fail
        go_ret2
        exact ⟨HB4.out, .inr ⟨2, by decide, rfl⟩⟩
    · have HW3 := Lib.hid hW3
      clear hl hW3
      go_wp2_with fail
      refine (put_bad (w.heap.size + 1) _ 2 (by decide) l' A n c nums A' m c' texts 70 10 _ HW3.out HR3.out.iat HR3.out.n_ HR3.out.ib HR3.out.tat HR3.out.m_ HR3.out.tb (by omega) (by omega) (by omega) (by omega)).mono ?_
      rintro e w4 ⟨rfl, hb4⟩
      have HB4 := Lib.hid (HF.out.trans (hb4.mono (Nat.le_succ _)))
      clear hb4
      go_wp2_with fail
      go_ret2
      exact ⟨HB4.out, .inr ⟨2, by decide, rfl⟩⟩
/-- PutReply's end. -/
def PutRPost (err : Int) (nums : List Int) (texts : List ByteArray) (w : World) (en : Ending) (w' : World) : Prop :=
  Below w.heap.size w w' ∧ ((nums.length ≤ 2000 ∧ texts.length ≤ 100 ∧ (∀ x ∈ texts, x.size ≤ 1000) ∧ en = .returned (.tuple #[.string ⟨(repB err nums (texts.map bl)).toArray⟩, .int .i64 0])) ∨
    ∃ e : Int, e ≠ 0 ∧ en = .returned (.tuple #[.string ⟨#[]⟩, .int .i64 e]))
end Go.Proofs.YtgmbppfkkiobhaaGreat.Wire
/- Bits that the wire's reader wants. -/
namespace Go.Proofs.YtgmbppfkkiobhaaGreat.Wire
open Go Go.Lib
theorem wrap_u64' (n : Int) : IntKind.u64.wrap n = n % 18446744073709551616 := by simp [IntKind.wrap, IntKind.bits, IntKind.signed]
theorem wrap_i64' {n : Int} (h : -9223372036854775808 ≤ n ∧ n ≤ 9223372036854775807) : IntKind.i64.wrap n = n := by rw [IntKind.wrap_i64]; omega
theorem pow_le63 {k : Nat} (h : k ≤ 9) : (2 : Nat) ^ (7 * k) ≤ 9223372036854775808 := by
  have : (2 : Nat) ^ (7 * k) ≤ 2 ^ 63 := Nat.pow_le_pow_right (by decide) (by omega)
  exact this
theorem acc_lt {k a c : Nat} (ha : a < 2 ^ (7 * k)) : a + c % 128 * 2 ^ (7 * k) < 2 ^ (7 * (k + 1)) := by
  rw [pow_step]
  have h1 : c % 128 ≤ 127 := by omega
  have h2 := Nat.mul_le_mul_right (2 ^ (7 * k)) h1
  omega
theorem acc_lt64 {k a c : Nat} (hk : k ≤ 9) (ha : a < 2 ^ (7 * k)) (h9 : k = 9 → c ≤ 1) : a + c % 128 * 2 ^ (7 * k) < 18446744073709551616 := by
  by_cases h : k = 9
  · subst h
    have h1 : c % 128 ≤ 1 := by have := h9 rfl; omega
    have h2 := Nat.mul_le_mul_right (2 ^ (7 * 9)) h1
    have h3 : (2 : Nat) ^ (7 * 9) = 9223372036854775808 := by decide
    rw [h3] at ha h2 ⊢
    omega
  · have h1 := acc_lt (c := c) ha
    have h2 := pow_le63 (k := k + 1) (by omega)
    omega
/-- The group that is read goes above the ones that were. -/
theorem acc_or {k a c : Nat} (hk : k ≤ 9) (ha : a < 2 ^ (7 * k)) (hc : c < 256) (h9 : k = 9 → c ≤ 1) :
    bits .or .u64 (a : Int) (IntKind.u64.wrap (IntKind.u64.wrap (bits .and .u8 (c : Int) 127) * 2 ^ (7 * k))) = ((a + c % 128 * 2 ^ (7 * k) : Nat) : Int) := by
  have h1 : bits .and .u8 (c : Int) 127 = ((c % 128 : Nat) : Int) := by rw [u8_and127 _ (by omega) (by omega)]; omega
  have h2 := acc_lt64 hk ha h9
  have h3 : IntKind.u64.wrap ((c % 128 : Nat) : Int) = ((c % 128 : Nat) : Int) := by rw [wrap_u64']; omega
  have hp : ((2 : Int) ^ (7 * k)) = ((2 ^ (7 * k) : Nat) : Int) := by rw [Int.natCast_pow]; rfl
  have h4 : IntKind.u64.wrap (((c % 128 : Nat) : Int) * 2 ^ (7 * k)) = ((c % 128 * 2 ^ (7 * k) : Nat) : Int) := by
    rw [hp, ← Int.natCast_mul, wrap_u64']
    generalize c % 128 * 2 ^ (7 * k) = x at h2
    omega
  rw [h1, h3, h4]
  have hj := bits_join_low .u64 64 (by decide) wraps_u64 (7 * k) (a : Int) ((c % 128 * 2 ^ (7 * k) : Nat) : Int) (by omega) (by rw [hp]; omega) (by omega) (by omega)
    (by rw [hp, ← Int.natCast_emod, Nat.mul_mod_left]; rfl) (by omega)
  rw [hj]
  omega
theorem and128_big {c : Nat} (h : 128 ≤ c) (hc : c < 256) : (bits .and .u8 (c : Int) 128 != 0) = true := by
  rw [and128 c hc]
  have : c / 128 = 1 := by omega
  rw [this]
  rfl
theorem and128_small {c : Nat} (h : c < 128) : (bits .and .u8 (c : Int) 128 != 0) = false := by
  rw [and128 c (by omega)]
  have : c / 128 = 0 := by omega
  rw [this]
  rfl
/-- The zigzag undone. -/
theorem unzz_bits {n : Nat} (h : n < 18446744073709551616) : bits .xor .i64 (((n / 2 : Nat) : Int)) (if n % 2 = 0 then 0 else -1) = unzz n := by
  unfold unzz
  by_cases h2 : n % 2 = 0
  · rw [if_pos h2, if_pos h2]
    show IntKind.i64.wrap ((BitVec.ofInt 64 ((n / 2 : Nat) : Int) ^^^ BitVec.ofInt 64 0).toNat : Int) = _
    have e1 : (BitVec.ofInt 64 (0 : Int)) = 0#64 := by decide
    rw [e1, BitVec.xor_zero, BitVec.ofInt_natCast, BitVec.toNat_ofNat, Nat.mod_eq_of_lt (by omega)]
    exact wrap_i64' (by omega)
  · rw [if_neg h2, if_neg h2]
    have hx := i64_not (n / 2) (by omega)
    show IntKind.i64.wrap ((BitVec.ofInt 64 ((n / 2 : Nat) : Int) ^^^ BitVec.ofInt 64 (-1)).toNat : Int) = _
    rw [BitVec.xor_comm]
    exact hx
theorem unzz_walk {A : Nat} (h : A < 18446744073709551616) : bits .xor .i64 (IntKind.i64.wrap ((A : Int) / 2)) (IntKind.i64.wrap (-IntKind.i64.wrap (bits .and .u64 (A : Int) 1))) = unzz A := by
  rw [← unzz_bits h, u64_and1 _ (by omega) (by omega)]
  have e1 : IntKind.i64.wrap ((A : Int) / 2) = ((A / 2 : Nat) : Int) := by rw [wrap_i64' (by omega)]; omega
  have e2 : IntKind.i64.wrap (-IntKind.i64.wrap ((A : Int) % 2)) = if A % 2 = 0 then 0 else -1 := by
    rw [wrap_i64' (n := (A : Int) % 2) (by omega), wrap_i64' (by omega)]
    split <;> omega
  rw [e1, e2]
theorem drop_cons {b : ByteArray} {i : Nat} (h : i < b.size) : b.data.toList.drop i = b[i] :: b.data.toList.drop (i + 1) := by
  have h2 : i < b.data.toList.length := by rw [Array.length_toList]; exact h
  rw [List.drop_eq_getElem_cons h2]
  rfl
theorem drop_end {b : ByteArray} {i : Nat} (h : i = b.size) : b.data.toList.drop i = [] := by
  apply List.drop_eq_nil_of_le
  rw [Array.length_toList, h]
  exact Nat.le_refl _
theorem rdN_ten (l : List UInt8) (a : Nat) : rdN l 10 a = (0, 0, 4) := by
  cases l <;> simp [rdN]
theorem rdN_nil {k a : Nat} (h : k ≠ 10) : rdN [] k a = (0, 0, 5) := by simp [rdN, h]
theorem rdN_nine {c : UInt8} {t : List UInt8} {a : Nat} (h : 1 < c.toNat) : rdN (c :: t) 9 a = (0, 0, 4) := by
  rw [rdN, if_neg (by decide), if_pos ⟨rfl, h⟩]
theorem rdN_next {c : UInt8} {t : List UInt8} {k a : Nat} (h : k < 9) (hc : 128 ≤ c.toNat) : rdN (c :: t) k a = rdN t (k + 1) (a + c.toNat % 128 * 2 ^ (7 * k)) := by
  rw [rdN, if_neg (by omega), if_neg (by omega), if_pos hc]
theorem rdN_zero {c : UInt8} {t : List UInt8} {k a : Nat} (h : k ≤ 9) (hc : c.toNat = 0) (hk : 0 < k) : rdN (c :: t) k a = (0, 0, 4) := by
  rw [rdN, if_neg (by omega), if_neg (by omega), if_neg (by omega), if_pos ⟨hc, hk⟩]
theorem rdN_done {c : UInt8} {t : List UInt8} {k a : Nat} (h : k ≤ 9) (h9 : k = 9 → c.toNat ≤ 1) (hc : c.toNat < 128) (hz : ¬ (c.toNat = 0 ∧ 0 < k)) : rdN (c :: t) k a = (unzz (a + c.toNat % 128 * 2 ^ (7 * k)), k + 1, 0) := by
  rw [rdN, if_neg (by omega), if_neg (by omega), if_neg (by omega), if_neg hz, Nat.mod_eq_of_lt hc]
end Go.Proofs.YtgmbppfkkiobhaaGreat.Wire
/- Rows that stay; what the laws of the wire share. -/
namespace Go.Proofs.YtgmbppfkkiobhaaGreat.Wire
open Go Go.RowKit Go.Lib
theorem Rows2.to {w w1 : World} {B : Nat} {A : Option Addr} {n : Nat} {nums : List Int} {A' : Option Addr} {m : Nat} {texts : List ByteArray} (h : Rows2 w B A n nums A' m texts) (hb : Below B w w1) (hB : B ≤ w1.heap.size) : Rows2 w1 w1.heap.size A n nums A' m texts := h.below hb hB
theorem below_un {B : Nat} {a b : World} (h : Below B a.drew b) : Below B a b := ⟨h.os, h.tape, h.output, h.size, h.block⟩
theorem mo_pos {x : ByteArray} (h : x.toList.isEmpty = false) : 0 < x.size := by
  rcases Nat.eq_zero_or_pos x.size with h0 | h0
  · exfalso
    obtain ⟨d⟩ := x
    have hd : d = #[] := Array.eq_empty_of_size_eq_zero h0
    subst hd
    have e : (⟨#[]⟩ : ByteArray).toList = [] := by
      unfold ByteArray.toList
      unfold ByteArray.toList.loop
      simp [ByteArray.size]
    rw [e] at h
    exact absurd h (by decide)
  · exact h0
end Go.Proofs.YtgmbppfkkiobhaaGreat.Wire
/- What comes in: a command, a reply, a text. -/
namespace Go.Proofs.YtgmbppfkkiobhaaGreat.Wire
open Go Go.RowKit Go.Lib Go.ChangeShapes Go.WideShapes
section
variable {H : Type} {enc : TypeId × Value → H} {w : World}
theorem ints_in {cs : List Value} {fuel : Nat} {y : DataW H × List MemPlace} (h : DataW.trod enc Tryz.prog w 0 (fun _ => true) true fuel 60 cs = some y) :
    ∃ A n c nums, cs = [.slice A n c] ∧ n ≤ maxLen ∧ IntsAt w A nums ∧ nums.length = n ∧ (nums ≠ [] → ∀ ad, A = some ad → ad.block < w.heap.size) ∧ ∀ x ∈ nums, okI x := by
  rcases open_ints Tryz.underlying60 Tryz.underlying3 (by kernel_rfl) h with ⟨rfl, _⟩ | ⟨a, len, cap, zs, rfl, _, hl, hm, hz, _, hc, hw⟩
  · exact ⟨none, 0, 0, [], rfl, by unfold maxLen; omega, fun h0 => absurd rfl h0, rfl, fun h0 => absurd rfl h0, by simp⟩
  · simp only [if_true] at hz
    have hcell : ∀ j x, (zs.take len)[j]? = some x → w.cell? (a.add j) = some (.int .i64 x) := by
      intro j x hx
      obtain ⟨hj, hx'⟩ := List.getElem?_eq_some_iff.1 hx
      rw [List.length_take] at hj
      have h1 := hc j (by omega)
      rw [List.getElem_take] at hx'
      rw [← hx', h1, List.getD_eq_getElem?_getD, List.getElem?_eq_getElem (by omega)]
      rfl
    refine ⟨some a, len, cap, zs.take len, rfl, by omega, fun _ => ⟨a, rfl, hcell⟩, by rw [List.length_take]; omega, ?_, ?_⟩
    · rintro hne ad ⟨rfl⟩
      have hpos : 0 < (zs.take len).length := List.length_pos_iff.2 hne
      have := World.block_lt_of_cell? w _ (hcell 0 _ (List.getElem?_eq_getElem hpos))
      rw [add_block] at this
      exact this
    · intro x hx
      have h1 := hw x (List.mem_of_mem_take hx)
      simp only [Lit.wf, IntKind.min, IntKind.max, IntKind.signed, IntKind.bits, Bool.and_eq_true, decide_eq_true_eq, if_true] at h1
      unfold okI
      omega
theorem texts_in {cs : List Value} {fuel : Nat} {y : DataW H × List MemPlace} (h : DataW.trod enc Tryz.prog w 0 (fun _ => true) true fuel 61 cs = some y) :
    ∃ A n c texts, cs = [.slice A n c] ∧ n ≤ maxLen ∧ TextsAt w A texts ∧ texts.length = n ∧ (texts ≠ [] → ∀ ad, A = some ad → ad.block < w.heap.size) ∧ ∀ x ∈ texts, x.size ≤ maxLen := by
  rcases open_strings Tryz.underlying61 Tryz.underlying9 (by kernel_rfl) h with ⟨rfl, _⟩ | ⟨a, len, cap, zs, rfl, _, hl, hm, hz, _, hc, hw⟩
  · exact ⟨none, 0, 0, [], rfl, by unfold maxLen; omega, fun h0 => absurd rfl h0, rfl, fun h0 => absurd rfl h0, by simp⟩
  · simp only [if_true] at hz
    have hcell : ∀ j x, (zs.take len)[j]? = some x → w.cell? (a.add j) = some (.string x) := by
      intro j x hx
      obtain ⟨hj, hx'⟩ := List.getElem?_eq_some_iff.1 hx
      rw [List.length_take] at hj
      have h1 := hc j (by omega)
      rw [List.getElem_take] at hx'
      rw [← hx', h1, List.getD_eq_getElem?_getD, List.getElem?_eq_getElem (by omega)]
      rfl
    refine ⟨some a, len, cap, zs.take len, rfl, by omega, fun _ => ⟨a, rfl, hcell⟩, by rw [List.length_take]; omega, ?_, fun x hx => hw x (List.mem_of_mem_take hx)⟩
    rintro hne ad ⟨rfl⟩
    have hpos : 0 < (zs.take len).length := List.length_pos_iff.2 hne
    have := World.block_lt_of_cell? w _ (hcell 0 _ (List.getElem?_eq_getElem hpos))
    rw [add_block] at this
    exact this
theorem okI_of {k : Int} (h : (Lit.int .i64 k).wf = true) : okI k := by
  simp only [Lit.wf, IntKind.min, IntKind.max, IntKind.signed, IntKind.bits, Bool.and_eq_true, decide_eq_true_eq, if_true] at h
  unfold okI
  omega
set_option maxRecDepth 20000 in
/-- A command that came in. -/
theorem cmd_in {base : Nat} {v : Value} {d : DataW H} {p : List MemPlace} (hv : Value.okWide Tryz.prog w .any base 63 v) (h : DataW.Trod enc Tryz.prog w 0 (fun _ => true) true 63 v d p) :
    ∃ kind party A n c nums A' m c' texts, v = .agg #[.int .i64 kind, .string party, .slice A n c, .slice A' m c'] ∧ okI kind ∧ party.size ≤ maxLen ∧ n ≤ maxLen ∧ m ≤ maxLen ∧ Rows2 w w.heap.size A n nums A' m texts := by
  obtain ⟨v0, v1, v2, v3, y0, y1, y2, y3, fuel, rfl, _, _, h0, h1, h2, h3⟩ := Go.Joins.open_agg4 Tryz.underlying63 (by kernel_rfl) (by kernel_rfl) hv h
  obtain ⟨kind, e0, _, hk⟩ := DataW.trod_int Tryz.underlying3 h0
  obtain ⟨party, e1, _, hp⟩ := DataW.trod_string Tryz.underlying9 h1
  obtain ⟨A, n, c, nums, e2, hn, a1, a2, a3, a4⟩ := ints_in h2
  obtain ⟨A', m, c', texts, e3, hm, b1, b2, b3, b4⟩ := texts_in h3
  injection e0 with e0
  injection e1 with e1
  injection e2 with e2
  injection e3 with e3
  subst e0 e1 e2 e3
  exact ⟨kind, party, A, n, c, nums, A', m, c', texts, rfl, okI_of hk, hp, hn, hm, ⟨a1, a2, a3, a4, b1, b2, b3, b4⟩⟩
set_option maxRecDepth 20000 in
/-- A reply that came in. -/
theorem rep_in {base : Nat} {v : Value} {d : DataW H} {p : List MemPlace} (hv : Value.okWide Tryz.prog w .any base 67 v) (h : DataW.Trod enc Tryz.prog w 0 (fun _ => true) true 67 v d p) :
    ∃ err A n c nums A' m c' texts, v = .agg #[.int .i64 err, .slice A n c, .slice A' m c'] ∧ okI err ∧ n ≤ maxLen ∧ m ≤ maxLen ∧ Rows2 w w.heap.size A n nums A' m texts := by
  obtain ⟨v0, v2, v3, y0, y2, y3, fuel, rfl, _, _, h0, h2, h3⟩ := Go.Joins.open_agg3 Tryz.underlying67 (by kernel_rfl) (by kernel_rfl) hv h
  obtain ⟨kind, e0, _, hk⟩ := DataW.trod_int Tryz.underlying29 h0
  obtain ⟨A, n, c, nums, e2, hn, a1, a2, a3, a4⟩ := ints_in h2
  obtain ⟨A', m, c', texts, e3, hm, b1, b2, b3, b4⟩ := texts_in h3
  injection e0 with e0
  injection e2 with e2
  injection e3 with e3
  subst e0 e2 e3
  exact ⟨kind, A, n, c, nums, A', m, c', texts, rfl, okI_of hk, hn, hm, ⟨a1, a2, a3, a4, b1, b2, b3, b4⟩⟩
set_option maxRecDepth 20000 in
theorem text_in {base : Nat} {v : Value} {d : DataW H} {p : List MemPlace} (hv : Value.okWide Tryz.prog w .any base 9 v) (h : DataW.Trod enc Tryz.prog w 0 (fun _ => true) true 9 v d p) : ∃ s, v = .string s := by
  obtain ⟨s, e, _⟩ := Go.ChangeMaps.open_string Tryz.underlying9 hv h
  exact ⟨s, e⟩
end
end Go.Proofs.YtgmbppfkkiobhaaGreat.Wire
