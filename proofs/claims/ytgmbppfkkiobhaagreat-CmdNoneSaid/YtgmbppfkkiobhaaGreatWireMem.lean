/- The wire's writer and reader in memory: what a writer has put, what a reader has read. -/
import Derived.Test.YtgmbppfkkiobhaaGreatWireBits
import Derived.Test.YtgmbppfkkiobhaaGreatProg
import Derived.Lib.BufferWrite
import Derived.Lib.AppendStr
import Derived.Lib.Hide
import Derived.Maps.AppendAt
import Derived.Deep.AppendLies
import Derived.Laws.OwnMore
import Derived.Laws.BitsAllLaws
import Derived.Laws.BitsLemmas
import Derived.Laws.IdiomStrings
import Derived.OwnWalk
import Derived.IntWalk
import Derived.WalkKit
import Derived.LoopTactic
import Derived.Handy
import Derived.BigQuiet
namespace Go.Proofs.YtgmbppfkkiobhaaGreat.Wire
open Go Go.RowKit Go.Lib

/-- A writer at block p: its error, its bytes, which lie in a row of its own. -/
def Wr (B p : Nat) (e : Int) (l : List UInt8) (w : World) : Prop :=
  B ≤ p ∧ ∃ v, w.heap[p]? = some (.cells #[.int .i64 e, v] 108 (0, 0)) ∧ w.ownsRow B 5 1 v l.length (byteCells l) ∧ v.ownBlock ≠ some p
theorem u8_info : (Tryz.prog.info? 5).map (fun i => (i.zero, i.size, i.bytes)) = some (some (.int .u8 0), 1, 1) := by kernel_rfl
theorem cell_p {w : World} {p i : Nat} {cs : Array Value} {t : TypeId} (h : w.heap[p]? = some (.cells cs t (0, 0))) : w.cell? ⟨p, i, none⟩ = cs[i]? := by
  simp [World.cell?, h]
theorem frozen_p {w : World} {p i : Nat} {cs : Array Value} {t : TypeId} (h : w.heap[p]? = some (.cells cs t (0, 0))) : w.frozen? ⟨p, i, none⟩ = false := by
  simp [World.frozen?, h]
theorem blk_lt {w : World} {p : Nat} {o : Obj} (h : w.heap[p]? = some o) : p < w.heap.size := by
  rcases Nat.lt_or_ge p w.heap.size with h1 | h1
  · exact h1
  · rw [Array.getElem?_eq_none h1] at h; cases h
/-- Rows and blocks of different types are apart. -/
theorem own_ne {w : World} {base : Nat} {e : TypeId} {size n : Nat} {v : Value} {xs : List Value} {p : Nat} {cs : Array Value} {t : TypeId} (h : w.ownsRow base e size v n xs) (hp : w.heap[p]? = some (.cells cs t (0, 0))) (hne : e ≠ t) : v.ownBlock ≠ some p := by
  rcases h.2 with ⟨rfl, _⟩ | ⟨g, cap, cur, rfl, _, hh, _⟩
  · simp [Value.ownBlock]
  · intro he
    have : g = p := by simpa [Value.ownBlock] using he
    subst this
    rw [hp] at hh
    injection hh with hh
    injection hh with _ h2
    exact hne h2.symm
theorem grown_size {w w' : World} {r : Option Nat} (h : w.grownBy w' r) : w.heap.size ≤ w'.heap.size := h.size
theorem below_grown {B : Nat} {a b c : World} {r : Option Nat} (h : Below B a b) (k : b.grownBy c r) (hB : B ≤ b.heap.size) (hr : ∀ g, r = some g → B ≤ g) : Below B a c :=
  ⟨k.os.trans h.os, k.tape.trans h.tape, k.output.trans h.output, Nat.le_trans h.size k.size, fun i hi => (k.block i (by omega) (fun e => by have := hr i e.symm; omega)).trans (h.block i hi)⟩
theorem own_ge {w : World} {base : Nat} {e : TypeId} {size n : Nat} {v : Value} {xs : List Value} (h : w.ownsRow base e size v n xs) : ∀ g, v.ownBlock = some g → base ≤ g := fun g hg => (h.lt g hg).1
/-- The bytes grow: what append leaves, stored. -/
theorem Wr.step {B p : Nat} {e : Int} {l : List UInt8} {n : Nat} {xs : List Value} (m : List UInt8) {w w1 : World} {v v' : Value} (hB : B ≤ p) (hp : w.heap[p]? = some (.cells #[.int .i64 e, v] 108 (0, 0))) (h0 : w.ownsRow B 5 1 v l.length (byteCells l))
    (hown : w1.ownsRow B 5 1 v' n xs) (hn : n = l.length + m.length) (hxs : xs = byteCells l ++ byteCells m) (hg : w.grownBy w1 v.ownBlock) :
    Wr B p e (l ++ m) (w1.setCell ⟨p, 1, none⟩ v') := by
  subst hn
  subst hxs
  have hp1 : w1.heap[p]? = some (.cells #[.int .i64 e, v] 108 (0, 0)) := (hg.block p (blk_lt hp) (fun h => own_ne h0 hp (by decide) h.symm)).trans hp
  have hne1 := own_ne hown hp1 (by decide)
  refine ⟨hB, v', ?_, ?_, hne1⟩
  · exact Go.Lib.heap_setCell_same (i := 1) hp1 v'
  · have := hown.kept (grownBy_setCell w1 p 1 v') (Or.inr hne1)
    simpa [byteCells, List.length_append] using this
end Go.Proofs.YtgmbppfkkiobhaaGreat.Wire
