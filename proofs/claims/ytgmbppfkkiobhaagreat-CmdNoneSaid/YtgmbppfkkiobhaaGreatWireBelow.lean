/- What lies below a bound stays. -/
import Derived.Test.YtgmbppfkkiobhaaGreatWireMem
namespace Go.Proofs.YtgmbppfkkiobhaaGreat.Wire
open Go Go.RowKit Go.Lib
theorem only_of_below {a w : World} (h : Below a.heap.size a w) (row : Option Nat) : a.grownBy w row := ⟨h.os, h.tape, h.output, h.size, fun i hi _ => h.block i hi⟩
theorem below_drewN' {B : Nat} {a w : World} (h : Below B a w) (n : Nat) : Below B a (w.drewN n) := ⟨h.os, h.tape, h.output, h.size, h.block⟩
theorem set3 {w7 : World} {r : Nat} {x0 x1 x2 : Value} {t : TypeId} (h : w7.heap[r]? = some (.cells #[x0, x1, x2] t (0, 0))) (y0 y1 y2 : Value) :
    (((w7.setCell ⟨r, 0, none⟩ y0).setCell ⟨r, 1, none⟩ y1).setCell ⟨r, 2, none⟩ y2).heap[r]? = some (.cells #[y0, y1, y2] t (0, 0)) :=
  Go.Lib.heap_setCell_same (i := 2) (Go.Lib.heap_setCell_same (i := 1) (Go.Lib.heap_setCell_same (i := 0) h y0) y1) y2
theorem grown3 (w7 : World) (r : Nat) (y0 y1 y2 : Value) : w7.grownBy (((w7.setCell ⟨r, 0, none⟩ y0).setCell ⟨r, 1, none⟩ y1).setCell ⟨r, 2, none⟩ y2) (some r) :=
  ((grownBy_setCell w7 r 0 y0).trans (grownBy_setCell _ r 1 y1)).trans (grownBy_setCell _ r 2 y2)
def rep0 : Array Value := #[.int .i64 0, .slice none 0 0, .slice none 0 0]
end Go.Proofs.YtgmbppfkkiobhaaGreat.Wire
