/- check.Put puts sets. -/
import Derived.Test.YtgmbppfkkiobhaaGreatChkPutD
namespace Go.Proofs.YtgmbppfkkiobhaaGreat.Wire
open Go Go.RowKit Go.Lib
theorem WrS.alloc {B p : Nat} {s : WS} {w : World} (h : WrS B p s w) (o : Obj) : WrS B p s (w.alloc o) :=
  ⟨fun he => (h.1 he).alloc o, fun he => by obtain ⟨l, hl⟩ := h.2 he; exact ⟨l, hl.alloc o⟩⟩
theorem Wr.le {B p : Nat} {e : Int} {l : List UInt8} {w : World} (h : Wr B p e l w) : B ≤ p ∧ p < w.heap.size := by
  obtain ⟨hB, v, hp, _⟩ := h
  exact ⟨hB, blk_lt hp⟩
theorem WrS.le {B p : Nat} {s : WS} {w : World} (h : WrS B p s w) : B ≤ p ∧ p < w.heap.size := by
  by_cases he : s.e = 0
  · exact (h.1 he).le
  · obtain ⟨l, hl⟩ := h.2 he; exact hl.le
/-- Where the program's writer stands, and a box beside it. -/
structure PuAt (B p q : Nat) (cs : Array Value) (t : TypeId) (w : World) (s : WS) (wr : World) : Prop where
  W : WrS B p s wr
  b : Below B w wr
  k : Keeps p w wr
  o : wr.heap[q]? = some (.cells cs t (0, 0))
section
variable {B p q : Nat} {cs : Array Value} {t : TypeId} {w : World} {s s' : WS} {wr w1 : World}
theorem PuAt.step (h : PuAt B p q cs t w s wr) (hW : WrS B p s' w1) (hb : Below B wr w1) (hk : Keeps p wr w1) (ht : t ≠ 5) (hq : q ≠ p) : PuAt B p q cs t w s' w1 :=
  ⟨hW, h.b.trans hb, h.k.trans hk, (hk q cs t h.o ht hq).trans h.o⟩
theorem PuAt.alloc (h : PuAt B p q cs t w s wr) (o : Obj) (ht : t ≠ 5) (hq : q ≠ p) : PuAt B p q cs t w s (wr.alloc o) :=
  h.step (h.W.alloc o) ((Below.refl _ wr).alloc (by have := h.W.le; omega) o) (Keeps.alloc p wr o) ht hq
theorem PuAt.join {q2 : Nat} {cs2 : Array Value} {t2 : TypeId} {o : Obj} (h : PuAt B p q cs t w s wr) (g : PuAt B p q2 cs2 t2 (wr.alloc o) s' w1) (ht : t ≠ 5) (hq : q ≠ p) : PuAt B p q cs t w s' w1 :=
  h.step g.W (((Below.refl _ wr).alloc (by have := h.W.le; omega) o).trans g.b) ((Keeps.alloc p wr o).trans g.k) ht hq
def PuPost (B p q : Nat) (cs : Array Value) (t : TypeId) (w : World) (s : WS) (en : Ending) (w' : World) : Prop := (∃ u, en = .returned u) ∧ PuAt B p q cs t w s w'
theorem row1 (W : World) (v : Value) (t : TypeId) : (W.alloc (.cells #[v] t)).cell? ((⟨W.heap.size, 0, none⟩ : Addr).add 0) = some v := by
  show (W.alloc (.cells #[v] t)).cell? ⟨W.heap.size, 0, none⟩ = some v
  rw [cell_p (heap_alloc_new W _)]; rfl
theorem ints1 (W : World) (a : Int) : IntsAt (W.alloc (.cells #[.int .i64 a] 3)) (some ⟨W.heap.size, 0, none⟩) [a] := fun _ => ⟨_, rfl, fun j x hx => by
  match j, hx with
  | 0, hx => cases hx; exact row1 W _ _⟩
theorem ints2 (W : World) (a b : Int) : IntsAt (W.alloc (.cells #[.int .i64 a, .int .i64 b] 3)) (some ⟨W.heap.size, 0, none⟩) [a, b] := fun _ => ⟨_, rfl, fun j x hx => by
  match j, hx with
  | 0, hx =>
    cases hx
    show (W.alloc _).cell? ⟨W.heap.size, 0, none⟩ = _
    rw [cell_p (heap_alloc_new W _)]; rfl
  | 1, hx =>
    cases hx
    show (W.alloc _).cell? ⟨W.heap.size, 0 + 1, none⟩ = _
    rw [cell_p (heap_alloc_new W _)]; rfl⟩
theorem texts1 (W : World) (a : ByteArray) : TextsAt (W.alloc (.cells #[.string a] 9)) (some ⟨W.heap.size, 0, none⟩) [a] := fun _ => ⟨_, rfl, fun j x hx => by
  match j, hx with
  | 0, hx => cases hx; exact row1 W _ _⟩
theorem texts2 (W : World) (a b : ByteArray) : TextsAt (W.alloc (.cells #[.string a, .string b] 9)) (some ⟨W.heap.size, 0, none⟩) [a, b] := fun _ => ⟨_, rfl, fun j x hx => by
  match j, hx with
  | 0, hx =>
    cases hx
    show (W.alloc _).cell? ⟨W.heap.size, 0, none⟩ = _
    rw [cell_p (heap_alloc_new W _)]; rfl
  | 1, hx =>
    cases hx
    show (W.alloc _).cell? ⟨W.heap.size, 0 + 1, none⟩ = _
    rw [cell_p (heap_alloc_new W _)]; rfl⟩
theorem num1 (h : PuAt B p q cs t w s wr) (ht : t ≠ 5) (hq : q ≠ p) (a : Int) (ha : okI a) (hl : s.l.length ≤ 100000000000) :
    Calls Tryz.prog 33 #[.pointer (some ⟨p, 0, none⟩), .slice (some ⟨wr.heap.size, 0, none⟩) 1 1] (wr.alloc (.cells #[.int .i64 a] 3)) (PuPost B p q cs t w (wNum a s)) := by
  have h1 := h.alloc (.cells #[.int .i64 a] 3) ht hq
  refine (wnums_s B p s _ 1 1 [a] _ h1.W (ints1 wr a) rfl (.inl (by omega)) (by simpa using ha) (fun _ => by omega) (by omega)).mono ?_
  rintro e w' ⟨hu, hW, hb, hk⟩
  exact ⟨hu, h1.step hW hb hk ht hq⟩
theorem num2 (h : PuAt B p q cs t w s wr) (ht : t ≠ 5) (hq : q ≠ p) (a b : Int) (ha : okI a) (hb : okI b) (hl : s.l.length ≤ 100000000000) :
    Calls Tryz.prog 33 #[.pointer (some ⟨p, 0, none⟩), .slice (some ⟨wr.heap.size, 0, none⟩) 2 2] (wr.alloc (.cells #[.int .i64 a, .int .i64 b] 3)) (PuPost B p q cs t w (wNum b (wNum a s))) := by
  have h1 := h.alloc (.cells #[.int .i64 a, .int .i64 b] 3) ht hq
  refine (wnums_s B p s _ 2 2 [a, b] _ h1.W (ints2 wr a b) rfl (.inr (.inr ⟨_, _, rfl, by have := h.W.le; omega, heap_alloc_new wr _⟩)) (by simp only [List.mem_cons, List.not_mem_nil, or_false]; rintro x (rfl | rfl) <;> assumption) (fun _ => by omega) (by omega)).mono ?_
  rintro e w' ⟨hu, hW, hb, hk⟩
  exact ⟨hu, h1.step hW hb hk ht hq⟩
theorem text1 (h : PuAt B p q cs t w s wr) (ht : t ≠ 5) (hq : q ≠ p) (a : ByteArray) (ha : a.size ≤ maxLen) (hl : s.l.length ≤ 100000000000) :
    Calls Tryz.prog 34 #[.pointer (some ⟨p, 0, none⟩), .slice (some ⟨wr.heap.size, 0, none⟩) 1 1] (wr.alloc (.cells #[.string a] 9)) (PuPost B p q cs t w (wText (bl8 a) s)) := by
  have h1 := h.alloc (.cells #[.string a] 9) ht hq
  refine (wtexts_s B p s _ 1 1 [a] _ h1.W (texts1 wr a) rfl (.inl (by omega)) (by simpa using ha) (fun _ => by omega) (by omega)).mono ?_
  rintro e w' ⟨hu, hW, hb, hk⟩
  exact ⟨hu, h1.step hW hb hk ht hq⟩
theorem text2 (h : PuAt B p q cs t w s wr) (ht : t ≠ 5) (hq : q ≠ p) (a b : ByteArray) (ha : a.size ≤ maxLen) (hb : b.size ≤ maxLen) (hl : s.l.length ≤ 100000000000) :
    Calls Tryz.prog 34 #[.pointer (some ⟨p, 0, none⟩), .slice (some ⟨wr.heap.size, 0, none⟩) 2 2] (wr.alloc (.cells #[.string a, .string b] 9)) (PuPost B p q cs t w (wText (bl8 b) (wText (bl8 a) s))) := by
  have h1 := h.alloc (.cells #[.string a, .string b] 9) ht hq
  refine (wtexts_s B p s _ 2 2 [a, b] _ h1.W (texts2 wr a b) rfl (.inr (.inr ⟨_, _, rfl, by have := h.W.le; omega, heap_alloc_new wr _⟩)) (by simp only [List.mem_cons, List.not_mem_nil, or_false]; rintro x (rfl | rfl) <;> assumption) (fun _ => by omega) (by omega)).mono ?_
  rintro e w' ⟨hu, hW, hb, hk⟩
  exact ⟨hu, h1.step hW hb hk ht hq⟩
end
end Go.Proofs.YtgmbppfkkiobhaaGreat.Wire
