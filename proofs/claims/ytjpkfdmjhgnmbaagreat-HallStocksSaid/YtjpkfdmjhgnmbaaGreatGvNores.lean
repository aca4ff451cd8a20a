/- A range over a function that yields nothing. -/
import Derived.Test.YtjpkfdmjhgnmbaaGreatGvOwn
import Derived.RangeFuncRecord
import Derived.RangeFuncIn
namespace Go.Proofs.YtjpkfdmjhgnmbaaGreat.Gv
open Go Go.RowKit

/-- The world but for one block. -/
structure ButAt (l : Nat) (W W' : World) : Prop where
  os : W'.os = W.os
  tape : W'.tape = W.tape
  output : W'.output = W.output
  size : W'.heap.size = W.heap.size
  block : ∀ k, k ≠ l → W'.heap[k]? = W.heap[k]?
theorem rangeFunc_nothing {P : Program} {n : Nat} {gop : Operand} {ps : Array Tmp} {assign body : Code} {Q : Exit → Act → World → Prop} {a : Act} {w : World} {k : Nat} {lb : Array Value}
    (hev : a.eval gop = .func (.func k) #[] lb) (eg : ∀ args w, (callFunc k args).run P w = .ok (.enter k args) w)
    (h : ∀ W1, Below w.heap.size w W1 → W1.heap.size = w.heap.size + 2 → W1.heap[w.heap.size]? = some (.deferred (some [])) →
      Calls P k (#[.func (.yield (w.heap.size + 1)) #[] #[]] ++ lb) W1 fun e W2 => (∃ v, e = .returned v) ∧ W2.heap[w.heap.size + 1]? = W1.heap[w.heap.size + 1]? ∧
        ∀ W3, ButAt (w.heap.size + 1) W2 W3 → Q .normal { a with defers := [{ target := .collected w.heap.size, args := #[] }] ++ a.defers } W3) :
    (Code.rangeFunc gop ps assign body).wpIn Fence.wide n P Q a w := by
  refine wpIn_rangeFunc fun fn _ => ?_
  obtain ⟨rec0, hrec⟩ : ∃ rec0 : Loop, rec0 = { state := .ready, pending := none, fn := fn, tmps := a.tmps, params := ps, assign := assign, body := body, defers := w.heap.size } := ⟨_, rfl⟩
  obtain ⟨W1, hW1⟩ : ∃ W1, (w.alloc (.deferred (some []))).alloc (.loop rec0) = W1 := ⟨_, rfl⟩
  have hen : (Instr.enterLoop fn a.tmps ps assign body none).run P w = .ok (w.heap.size + 1, [{ target := .collected w.heap.size, args := #[] }]) W1 := by
    rw [run_enterLoop_outer, ← hW1, hrec]
  have hp0 : rec0.pending = none := by rw [hrec]
  have hst : rec0.state ≠ .busy := by rw [hrec]; simp
  clear hrec
  have hb1 : Below w.heap.size w W1 := by rw [← hW1]; exact ((Below.refl _ w).alloc (Nat.le_refl _) _).alloc (by simp) _
  have hs1 : W1.heap.size = w.heap.size + 2 := by rw [← hW1]; simp
  have hloop : W1.heap[w.heap.size + 1]? = some (.loop rec0) := by rw [← hW1]; have := World.alloc_heap_new (w.alloc (.deferred (some []))) (.loop rec0); rwa [World.size_alloc] at this
  have hdef : W1.heap[w.heap.size]? = some (.deferred (some [])) := by rw [← hW1]; exact (Below.heap_alloc _ _ _ (by simp)).trans (World.alloc_heap_new w _)
  refine ⟨w.heap.size + 1, [{ target := .collected w.heap.size, args := #[] }], W1, { target := .fn (.func k) lb, args := #[.func (.yield (w.heap.size + 1)) #[] #[]] }, W1, k, #[.func (.yield (w.heap.size + 1)) #[] #[]] ++ lb, W1, hen, ?_, fun f' _ => trivial, ?_, fun h => (Bool.false_ne_true h).elim, ?_⟩
  · have hres : resolve a.eval (rangeCall gop (w.heap.size + 1)) 0 = Deferred.ofValue (a.eval gop) ((#[Operand.const (.func (.yield (w.heap.size + 1)) #[] #[])] : Array Operand).map a.eval) := rfl
    rw [hres, hev]
    simp [Deferred.ofValue, Act.eval]
  · simp [invoke, eg]
  · refine (callsIn_wide.2 (h W1 hb1 hs1 hdef)).mono ?_
    rintro e W2 ⟨⟨v0, rfl⟩, hk, hQ⟩
    have hl2 := hk.trans hloop
    have hend := run_endLoop (P := P) hl2 hst
    rw [hp0] at hend
    exact ⟨none, _, hend, hQ _ ⟨rfl, rfl, rfl, by simp [World.putObj], fun k hne => World.putObj_heap_other hne⟩⟩
end Go.Proofs.YtjpkfdmjhgnmbaaGreat.Gv
