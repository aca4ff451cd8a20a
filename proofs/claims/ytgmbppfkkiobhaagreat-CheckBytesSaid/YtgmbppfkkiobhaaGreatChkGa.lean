/- Reading sets, in general: a reader, a box for the set, a row that grows. -/
import Derived.Test.YtgmbppfkkiobhaaGreatChkPut
import Derived.Test.YtgmbppfkkiobhaaGreatRfGet
namespace Go.Proofs.YtgmbppfkkiobhaaGreat.Wire
open Go Go.RowKit Go.Lib
def legCells (xs : List LegD) : List Value := (xs.map fun x => [Value.int .i64 x.id, .int .i64 x.qty]).flatten
def plCells (xs : List PlD) : List Value := (xs.map fun x => [str8 x.asset, .int .i64 x.qty]).flatten
def tkCells (ts : List (TakeD × Value)) : List Value := (ts.map fun a => [str8 a.1.acc, str8 a.1.ccy, .int .i64 a.1.amount, a.2]).flatten
theorem leg_info : (Tryz.prog.info? 99).map (fun i => (i.zero, i.size, i.bytes)) = some (some (.agg #[.int .i64 0, .int .i64 0]), 2, 16) := by kernel_rfl
theorem pl_info : (Tryz.prog.info? 112).map (fun i => (i.zero, i.size, i.bytes)) = some (some (.agg #[.string ⟨#[]⟩, .int .i64 0]), 2, 24) := by kernel_rfl
theorem tk_info : (Tryz.prog.info? 58).map (fun i => (i.zero, i.size, i.bytes)) = some (some (.agg #[.string ⟨#[]⟩, .string ⟨#[]⟩, .int .i64 0, .slice none 0 0]), 4, 64) := by kernel_rfl
/-- A reader at block p, of a type of its own. -/
structure RdOf (p : Nat) (tR : TypeId) (R : RS → World → Prop) : Prop where
  blk : ∀ {s : RS} {w : World}, R s w → ∃ cs, w.heap[p]? = some (.cells cs tR (0, 0))
  keep : ∀ {s : RS} {w w' : World} {r : Option Nat}, R s w → w.grownBy w' r → r ≠ some p → R s w'
structure GA (p q r0 : Nat) (t : TypeId) (R : RS → World → Prop) (w : World) (s : RS) (v1 v2 : Value) (wr : World) : Prop where
  g : w.grownBy wr (some p)
  rd : R s wr
  box : wr.heap[q]? = some (.cells #[v1, v2] t (0, 0))
  res : wr.heap[r0]? = some (.cells #[.slice none 0 0, .slice none 0 0] t (0, 0))
theorem only_grown' {a b c : World} {p : Nat} {r : Option Nat} (h : a.grownBy b (some p)) (k : b.grownBy c r) (hr : ∀ g, r = some g → g = p ∨ a.heap.size ≤ g) : a.grownBy c (some p) :=
  ⟨k.os.trans h.os, k.tape.trans h.tape, k.output.trans h.output, Nat.le_trans h.size k.size, fun i hi hne => (k.block i (Nat.lt_of_lt_of_le hi h.size) (fun e => by
    rcases hr i e.symm with h1 | h1
    · exact hne (by rw [h1])
    · omega)).trans (h.block i hi hne)⟩
section
variable {p q r0 : Nat} {tR t : TypeId} {R : RS → World → Prop} {w : World} {s s' : RS} {v1 v2 : Value} {wr w' : World}
theorem GA.read (h : GA p q r0 t R w s v1 v2 wr) (hq : q ≠ p) (hr : r0 ≠ p) (hg : wr.grownBy w' (some p)) (hR : R s' w') : GA p q r0 t R w s' v1 v2 w' :=
  ⟨h.g.trans hg, hR, (hg.block q (blk_lt h.box) (fun e => hq (Option.some.inj e))).trans h.box, (hg.block r0 (blk_lt h.res) (fun e => hr (Option.some.inj e))).trans h.res⟩
/-- Memory is made, a row of its own grows. -/
theorem GA.grow (H : RdOf p tR R) (h : GA p q r0 t R w s v1 v2 wr) {r : Option Nat} (hg : wr.grownBy w' r) (hr : ∀ g, r = some g → g ≠ p ∧ g ≠ q ∧ g ≠ r0 ∧ w.heap.size ≤ g) : GA p q r0 t R w s v1 v2 w' :=
  ⟨only_grown' h.g hg (fun g e => .inr (hr g e).2.2.2), H.keep h.rd hg (fun e => (hr p e).1 rfl), (hg.block q (blk_lt h.box) (fun e => (hr q e.symm).2.1 rfl)).trans h.box, (hg.block r0 (blk_lt h.res) (fun e => (hr r0 e.symm).2.2.1 rfl)).trans h.res⟩
theorem GA.alloc (H : RdOf p tR R) (h : GA p q r0 t R w s v1 v2 wr) (o : Obj) : GA p q r0 t R w s v1 v2 (wr.alloc o) := h.grow H (World.grownBy_alloc wr o none) (fun _ e => by cases e)
theorem GA.put0 (H : RdOf p tR R) (h : GA p q r0 t R w s v1 v2 wr) (hq : q ≠ p) (hqr : q ≠ r0) (hw : w.heap.size ≤ q) (u : Value) : GA p q r0 t R w s u v2 (wr.setCell ⟨q, 0, none⟩ u) :=
  ⟨only_grown' h.g (grownBy_setCell wr q 0 u) (fun g e => by cases e; exact .inr hw), H.keep h.rd (grownBy_setCell wr q 0 u) (fun e => hq (Option.some.inj e)), Go.Lib.heap_setCell_same (i := 0) h.box u, ((grownBy_setCell wr q 0 u).block r0 (blk_lt h.res) (fun e => hqr (Option.some.inj e).symm)).trans h.res⟩
theorem GA.put1 (H : RdOf p tR R) (h : GA p q r0 t R w s v1 v2 wr) (hq : q ≠ p) (hqr : q ≠ r0) (hw : w.heap.size ≤ q) (u : Value) : GA p q r0 t R w s v1 u (wr.setCell ⟨q, 1, none⟩ u) :=
  ⟨only_grown' h.g (grownBy_setCell wr q 1 u) (fun g e => by cases e; exact .inr hw), H.keep h.rd (grownBy_setCell wr q 1 u) (fun e => hq (Option.some.inj e)), Go.Lib.heap_setCell_same (i := 1) h.box u, ((grownBy_setCell wr q 1 u).block r0 (blk_lt h.res) (fun e => hqr (Option.some.inj e).symm)).trans h.res⟩
end
theorem legCells_snoc (xs : List LegD) (x : LegD) : legCells (xs ++ [x]) = legCells xs ++ [.int .i64 x.id, .int .i64 x.qty] := by simp [legCells]
theorem plCells_snoc (xs : List PlD) (x : PlD) : plCells (xs ++ [x]) = plCells xs ++ [str8 x.asset, .int .i64 x.qty] := by simp [plCells]
theorem tkCells_snoc (xs : List (TakeD × Value)) (x : TakeD × Value) : tkCells (xs ++ [x]) = tkCells xs ++ [str8 x.1.acc, str8 x.1.ccy, .int .i64 x.1.amount, x.2] := by simp [tkCells]
theorem cells_new2 (w : World) (a b : Value) (t : TypeId) : ∀ j u, [a, b][j]? = some u → (w.alloc (.cells #[a, b] t)).cell? ((⟨w.heap.size, 0, none⟩ : Addr).add j) = some u := fun j u h => by
  match j, h with
  | 0, h => cases h; show (w.alloc _).cell? ⟨w.heap.size, 0, none⟩ = _; rw [cell_p (heap_alloc_new w _)]; rfl
  | 1, h => cases h; show (w.alloc _).cell? ⟨w.heap.size, 0 + 1, none⟩ = _; rw [cell_p (heap_alloc_new w _)]; rfl
theorem cells_new4 (w : World) (a b c d : Value) (t : TypeId) : ∀ j u, [a, b, c, d][j]? = some u → (w.alloc (.cells #[a, b, c, d] t)).cell? ((⟨w.heap.size, 0, none⟩ : Addr).add j) = some u := fun j u h => by
  match j, h with
  | 0, h => cases h; show (w.alloc _).cell? ⟨w.heap.size, 0, none⟩ = _; rw [cell_p (heap_alloc_new w _)]; rfl
  | 1, h => cases h; show (w.alloc _).cell? ⟨w.heap.size, 0 + 1, none⟩ = _; rw [cell_p (heap_alloc_new w _)]; rfl
  | 2, h => cases h; show (w.alloc _).cell? ⟨w.heap.size, 0 + 2, none⟩ = _; rw [cell_p (heap_alloc_new w _)]; rfl
  | 3, h => cases h; show (w.alloc _).cell? ⟨w.heap.size, 0 + 3, none⟩ = _; rw [cell_p (heap_alloc_new w _)]; rfl
theorem rNum_len (s : RS) : (rNum s).2.l.length ≤ s.l.length := by
  unfold rNum; repeat' split
  all_goals simp
theorem rCount_len (m : Int) (s : RS) : (rCount m s).2.l.length ≤ s.l.length := by
  unfold rCount; repeat' split
  all_goals simp
theorem rText_len2 (s : RS) : (rText s).2.l.length ≤ s.l.length := by
  unfold rText; repeat' split
  all_goals simp
theorem cErr_ok2 {most : Int} {r : Int × Nat × Int} (h : cErr most r = 0) : r.2.2 = 0 ∧ r.1 ≤ most ∧ 0 ≤ r.1 := by
  unfold cErr at h
  by_cases h1 : r.2.2 ≠ 0
  · rw [if_pos h1] at h; exact absurd h h1
  rw [if_neg h1] at h
  by_cases h2 : r.1 > most
  · rw [if_pos h2] at h; exact absurd h (by decide)
  rw [if_neg h2] at h
  by_cases h3 : r.1 < 0
  · rw [if_pos h3] at h; exact absurd h (by decide)
  exact ⟨by omega, by omega, by omega⟩
theorem rCount_rng2 {most : Int} (hm : 0 ≤ most) (s : RS) : ∃ n : Nat, (rCount most s).1 = n ∧ (n : Int) ≤ most := by
  unfold rCount
  by_cases h1 : s.e ≠ 0
  · rw [if_pos h1]; exact ⟨0, rfl, hm⟩
  rw [if_neg h1]
  by_cases h2 : cErr most (rdN s.l 0 0) ≠ 0
  · rw [if_pos h2]; exact ⟨0, rfl, hm⟩
  rw [if_neg h2]
  obtain ⟨_, a, b⟩ := cErr_ok2 (show cErr most (rdN s.l 0 0) = 0 by omega)
  exact ⟨(rdN s.l 0 0).1.toNat, by show (rdN s.l 0 0).1 = _; omega, by omega⟩
theorem rMany_step2 {α : Type} (f : RS → α × RS) (n : Nat) (s : RS) (h : 0 < n) : rMany f n s = ((f s).1 :: (rMany f (n - 1) (f s).2).1, (rMany f (n - 1) (f s).2).2) := by
  cases n with
  | zero => omega
  | succ n => rfl
/-- The rows of a set that is read. -/
structure GB (p q r0 : Nat) (t : TypeId) (R : RS → World → Prop) (w : World) (base n1 : Nat) (v1 : Value) (xs : List LegD) (ts : List (TakeD × Value)) (s : RS) (v2 : Value) (wr : World) : Prop where
  ga : GA p q r0 t R w s v1 v2 wr
  o1 : wr.ownsRow base 99 2 v1 n1 (legCells xs)
  o2 : wr.ownsRow base 58 4 v2 ts.length (tkCells ts)
  op : ∀ a ∈ ts, wr.ownsRow base 112 2 a.2 a.1.pl.length (plCells a.1.pl)
  sz : base ≤ wr.heap.size
/-- None of the rows lies in a block. -/
def NoRow (v1 v2 : Value) (ts : List (TakeD × Value)) (b : Nat) : Prop := v1.ownBlock ≠ some b ∧ v2.ownBlock ≠ some b ∧ ∀ a ∈ ts, a.2.ownBlock ≠ some b
theorem ne_of_lt_own {w : World} {base e size n : Nat} {v : Value} {xs : List Value} (h : w.ownsRow base e size v n xs) {b : Nat} (hb : w.heap.size ≤ b) : v.ownBlock ≠ some b := fun e => by have := (h.lt b e).2; omega
section
variable {p q r0 : Nat} {tR t : TypeId} {R : RS → World → Prop} {w : World} {base n1 : Nat} {v1 v2 : Value} {xs : List LegD} {ts : List (TakeD × Value)} {s s' : RS} {wr w' : World}
theorem GB.fresh (h : GB p q r0 t R w base n1 v1 xs ts s v2 wr) {b : Nat} (hb : wr.heap.size ≤ b) : NoRow v1 v2 ts b := ⟨ne_of_lt_own h.o1 hb, ne_of_lt_own h.o2 hb, fun a ha => ne_of_lt_own (h.op a ha) hb⟩
theorem kept_of {w w' : World} {base e size n : Nat} {v : Value} {xs : List Value} {r : Option Nat} (h : w.ownsRow base e size v n xs) (hg : w.grownBy w' r) (hr : ∀ g, r = some g → v.ownBlock ≠ some g) : w'.ownsRow base e size v n xs := by
  refine h.kept hg ?_
  cases r with
  | none => cases hv : v.ownBlock with
    | none => exact .inl rfl
    | some b => exact .inr (by simp)
  | some g => exact .inr (hr g rfl)
theorem GB.grow (H : RdOf p tR R) (h : GB p q r0 t R w base n1 v1 xs ts s v2 wr) {r : Option Nat} (hg : wr.grownBy w' r) (hr : ∀ g, r = some g → (g ≠ p ∧ g ≠ q ∧ g ≠ r0 ∧ w.heap.size ≤ g) ∧ NoRow v1 v2 ts g) : GB p q r0 t R w base n1 v1 xs ts s v2 w' :=
  ⟨h.ga.grow H hg (fun g e => (hr g e).1), kept_of h.o1 hg (fun g e => (hr g e).2.1), kept_of h.o2 hg (fun g e => (hr g e).2.2.1), fun a ha => kept_of (h.op a ha) hg (fun g e => (hr g e).2.2.2 a ha), Nat.le_trans h.sz hg.size⟩
theorem GB.alloc (H : RdOf p tR R) (h : GB p q r0 t R w base n1 v1 xs ts s v2 wr) (o : Obj) : GB p q r0 t R w base n1 v1 xs ts s v2 (wr.alloc o) := h.grow H (World.grownBy_alloc wr o none) (fun _ e => by cases e)
theorem GB.read (H : RdOf p tR R) (h : GB p q r0 t R w base n1 v1 xs ts s v2 wr) (hq : q ≠ p) (hr : r0 ≠ p) (ht : tR ≠ 99 ∧ tR ≠ 58 ∧ tR ≠ 112) (hg : wr.grownBy w' (some p)) (hR : R s' w') : GB p q r0 t R w base n1 v1 xs ts s' v2 w' := by
  obtain ⟨cs, hc⟩ := H.blk h.ga.rd
  exact ⟨h.ga.read hq hr hg hR, h.o1.kept hg (.inr (own_ne h.o1 hc (Ne.symm ht.1))), h.o2.kept hg (.inr (own_ne h.o2 hc (Ne.symm ht.2.1))), fun a ha => (h.op a ha).kept hg (.inr (own_ne (h.op a ha) hc (Ne.symm ht.2.2))), Nat.le_trans h.sz hg.size⟩
end
/-- A take that is read: its box beside the rows. -/
structure GT (p q r0 qt : Nat) (t : TypeId) (R : RS → World → Prop) (w : World) (base n1 : Nat) (v1 : Value) (xs : List LegD) (ts : List (TakeD × Value)) (v2 : Value) (cs : Array Value) (s : RS) (wr : World) : Prop where
  gb : GB p q r0 t R w base n1 v1 xs ts s v2 wr
  bx : wr.heap[qt]? = some (.cells cs 58 (0, 0))
  nr : ∀ b, qt ≤ b → NoRow v1 v2 ts b
  qn : qt ≠ p ∧ qt ≠ q ∧ qt ≠ r0 ∧ w.heap.size ≤ qt
  lo : p < qt ∧ q < qt ∧ r0 < qt
section
variable {p q r0 qt : Nat} {tR t : TypeId} {R : RS → World → Prop} {w : World} {base n1 : Nat} {v1 v2 : Value} {xs : List LegD} {ts : List (TakeD × Value)} {cs cs' : Array Value} {s s' : RS} {wr w' : World}
theorem GT.read (H : RdOf p tR R) (h : GT p q r0 qt t R w base n1 v1 xs ts v2 cs s wr) (hq : q ≠ p) (hr : r0 ≠ p) (ht : tR ≠ 99 ∧ tR ≠ 58 ∧ tR ≠ 112) (hg : wr.grownBy w' (some p)) (hR : R s' w') : GT p q r0 qt t R w base n1 v1 xs ts v2 cs s' w' :=
  ⟨h.gb.read H hq hr ht hg hR, (hg.block qt (blk_lt h.bx) (fun e => h.qn.1 (Option.some.inj e))).trans h.bx, h.nr, h.qn, h.lo⟩
theorem GT.put (H : RdOf p tR R) (h : GT p q r0 qt t R w base n1 v1 xs ts v2 cs s wr) (i : Nat) (u : Value) (hb : (wr.setCell ⟨qt, i, none⟩ u).heap[qt]? = some (.cells cs' 58 (0, 0))) : GT p q r0 qt t R w base n1 v1 xs ts v2 cs' s (wr.setCell ⟨qt, i, none⟩ u) :=
  ⟨h.gb.grow H (grownBy_setCell wr qt i u) (fun g e => by cases e; exact ⟨h.qn, h.nr qt (Nat.le_refl _)⟩), hb, h.nr, h.qn, h.lo⟩
theorem GT.grow (H : RdOf p tR R) (h : GT p q r0 qt t R w base n1 v1 xs ts v2 cs s wr) {r : Option Nat} (hg : wr.grownBy w' r) (hr : ∀ g, r = some g → qt < g) : GT p q r0 qt t R w base n1 v1 xs ts v2 cs s w' :=
  ⟨h.gb.grow H hg (fun g e => by have h1 := hr g e; have h2 := h.lo; have h3 := h.qn; exact ⟨⟨by omega, by omega, by omega, by omega⟩, h.nr g (by omega)⟩), (hg.block qt (blk_lt h.bx) (fun e => by have := hr qt e.symm; omega)).trans h.bx, h.nr, h.qn, h.lo⟩
theorem GT.alloc (H : RdOf p tR R) (h : GT p q r0 qt t R w base n1 v1 xs ts v2 cs s wr) (o : Obj) : GT p q r0 qt t R w base n1 v1 xs ts v2 cs s (wr.alloc o) := h.grow H (World.grownBy_alloc wr o none) (fun _ e => by cases e)
/-- A take's box is made. -/
theorem GB.take (H : RdOf p tR R) (h : GB p q r0 t R w base n1 v1 xs ts s v2 wr) (hl : p < base ∧ q < base ∧ r0 < base ∧ w.heap.size ≤ base) (cs : Array Value) : GT p q r0 wr.heap.size t R w base n1 v1 xs ts v2 cs s (wr.alloc (.cells cs 58 (0, 0))) :=
  ⟨h.alloc H _, heap_alloc_new wr _, fun _ hb => h.fresh hb, by have := h.sz; omega, by have := h.sz; omega⟩
end
theorem own_ne2 {w : World} {base e size n base' e' size' n' : Nat} {v v' : Value} {xs xs' : List Value} (h : w.ownsRow base e size v n xs) (h' : w.ownsRow base' e' size' v' n' xs') (hne : e ≠ e') : ∀ g, v'.ownBlock = some g → v.ownBlock ≠ some g := by
  intro g hg
  rcases h'.2 with ⟨rfl, _⟩ | ⟨g', cap, cur, rfl, _, hh, _⟩
  · simp [Value.ownBlock] at hg
  · have : g' = g := by simpa [Value.ownBlock] using hg
    subst this
    exact own_ne h hh hne
theorem own_form {w : World} {base e size n : Nat} {v : Value} {xs : List Value} (h : w.ownsRow base e size v n xs) : ∃ A c, v = .slice A n c := by
  rcases h.2 with ⟨rfl, rfl⟩ | ⟨g, cap, cur, rfl, _⟩
  · exact ⟨none, 0, rfl⟩
  · exact ⟨_, cap, rfl⟩
theorem GB.more {p q r0 : Nat} {tR t : TypeId} {R : RS → World → Prop} {w : World} {base n1 : Nat} {v1 v2 : Value} {xs : List LegD} {ts : List (TakeD × Value)} {s : RS} {wr w' : World} (H : RdOf p tR R) (h : GB p q r0 t R w base n1 v1 xs ts s v2 wr) (hl : p < base ∧ q < base ∧ r0 < base ∧ w.heap.size ≤ base) (hq : q ≠ p) (hqr : q ≠ r0) (hw : w.heap.size ≤ q)
    {o : Obj} (hg : (wr.alloc o).grownBy w' v2.ownBlock) {v2' : Value} {x : TakeD} {v3 : Value} (own : w'.ownsRow base 58 4 v2' (ts.length + 1) (tkCells (ts ++ [(x, v3)]))) (own3 : wr.ownsRow base 112 2 v3 x.pl.length (plCells x.pl)) :
    GB p q r0 t R w base n1 v1 xs (ts ++ [(x, v3)]) s v2' (w'.setCell ⟨q, 1, none⟩ v2') := by
  have set : ∀ {e size n : Nat} {v : Value} {zs : List Value}, w'.ownsRow base e size v n zs → (w'.setCell ⟨q, 1, none⟩ v2').ownsRow base e size v n zs := fun h' => kept_of h' (grownBy_setCell w' q 1 v2') (fun g e => by cases e; intro e2; have := own_ge h' q e2; omega)
  have hga := (h.ga.alloc H o).grow H hg (fun g e => by have := own_ge h.o2 g e; omega)
  refine ⟨hga.put1 H hq hqr hw v2', set (kept_of (h.o1.alloc o) hg (own_ne2 h.o1 h.o2 (by decide))), by simpa using set own, fun a ha => ?_, by have h1 := hg.size; have h2 := h.sz; simp at h1 ⊢; omega⟩
  rcases List.mem_append.1 ha with ha | ha
  · exact set (kept_of ((h.op a ha).alloc o) hg (own_ne2 (h.op a ha) h.o2 (by decide)))
  · rw [List.mem_singleton] at ha
    subst ha
    exact set (kept_of (own3.alloc o) hg (own_ne2 own3 h.o2 (by decide)))
theorem leg_get : ∀ (xs : List LegD) (j : Nat) (x : LegD), xs[j]? = some x → (legCells xs)[j * 2]? = some (.int .i64 x.id) ∧ (legCells xs)[j * 2 + 1]? = some (.int .i64 x.qty)
  | [], j, x, h => by simp at h
  | y :: l, 0, x, h => by simp at h; subst h; simp [legCells]
  | y :: l, j + 1, x, h => by
    have e : legCells (y :: l) = .int .i64 y.id :: .int .i64 y.qty :: legCells l := by simp [legCells]
    rw [e, show (j + 1) * 2 = j * 2 + 1 + 1 by omega]
    simp only [List.getElem?_cons_succ]
    exact leg_get l j x (by simpa using h)
theorem pl_get : ∀ (xs : List PlD) (j : Nat) (x : PlD), xs[j]? = some x → (plCells xs)[j * 2]? = some (str8 x.asset) ∧ (plCells xs)[j * 2 + 1]? = some (.int .i64 x.qty)
  | [], j, x, h => by simp at h
  | y :: l, 0, x, h => by simp at h; subst h; simp [plCells]
  | y :: l, j + 1, x, h => by
    have e : plCells (y :: l) = str8 y.asset :: .int .i64 y.qty :: plCells l := by simp [plCells]
    rw [e, show (j + 1) * 2 = j * 2 + 1 + 1 by omega]
    simp only [List.getElem?_cons_succ]
    exact pl_get l j x (by simpa using h)
theorem tk_get : ∀ (ts : List (TakeD × Value)) (j : Nat) (a : TakeD × Value), ts[j]? = some a → (tkCells ts)[j * 4]? = some (str8 a.1.acc) ∧ (tkCells ts)[j * 4 + 1]? = some (str8 a.1.ccy) ∧ (tkCells ts)[j * 4 + 2]? = some (.int .i64 a.1.amount) ∧ (tkCells ts)[j * 4 + 3]? = some a.2
  | [], j, x, h => by simp at h
  | y :: l, 0, x, h => by simp at h; subst h; simp [tkCells]
  | y :: l, j + 1, x, h => by
    have e : tkCells (y :: l) = str8 y.1.acc :: str8 y.1.ccy :: .int .i64 y.1.amount :: y.2 :: tkCells l := by simp [tkCells]
    rw [e, show (j + 1) * 4 = j * 4 + 1 + 1 + 1 + 1 by omega]
    simp only [List.getElem?_cons_succ]
    exact tk_get l j x (by simpa using h)
/-- A row of legs, of pledges, of takes as it is read. -/
theorem legs_own {w : World} {base n c : Nat} {A : Option Addr} {xs : List LegD} (h : w.ownsRow base 99 2 (.slice A n c) n (legCells xs)) : LegsAt w A xs := by
  intro hne
  rcases h.2 with ⟨hv, rfl⟩ | ⟨g, cap, cur, hv, _⟩
  · exfalso
    have := h.1
    cases xs with
    | nil => exact hne rfl
    | cons x l => simp [legCells] at this
  · injection hv with hA
    subst hA
    refine ⟨_, rfl, fun j x hx => ?_⟩
    have e0 := leg_get xs j x hx
    exact ⟨h.cells (g := g) rfl _ _ e0.1, h.cells (g := g) rfl _ _ e0.2⟩
theorem pls_own {w : World} {base n c : Nat} {A : Option Addr} {xs : List PlD} (h : w.ownsRow base 112 2 (.slice A n c) n (plCells xs)) : PlsAt w A xs := by
  intro hne
  rcases h.2 with ⟨hv, rfl⟩ | ⟨g, cap, cur, hv, _⟩
  · exfalso
    have := h.1
    cases xs with
    | nil => exact hne rfl
    | cons x l => simp [plCells] at this
  · injection hv with hA
    subst hA
    refine ⟨_, rfl, fun j x hx => ?_⟩
    have e0 := pl_get xs j x hx
    exact ⟨h.cells (g := g) rfl _ _ e0.1, h.cells (g := g) rfl _ _ e0.2⟩
theorem takes_own {w : World} {base n c : Nat} {A : Option Addr} {ts : List (TakeD × Value)} (h : w.ownsRow base 58 4 (.slice A n c) n (tkCells ts)) (hp : ∀ a ∈ ts, w.ownsRow base 112 2 a.2 a.1.pl.length (plCells a.1.pl)) : TakesAt w A (ts.map (·.1)) := by
  intro hne
  rcases h.2 with ⟨hv, rfl⟩ | ⟨g, cap, cur, hv, _⟩
  · exfalso
    have := h.1
    cases ts with
    | nil => exact hne rfl
    | cons x l => simp [tkCells] at this
  · injection hv with hA
    subst hA
    refine ⟨_, rfl, fun j y hy => ?_⟩
    obtain ⟨a, ha, rfl⟩ : ∃ a, ts[j]? = some a ∧ a.1 = y := by simpa [List.getElem?_map, Option.map_eq_some_iff] using hy
    have e0 := tk_get ts j a ha
    have hpa := hp a (List.mem_of_getElem? ha)
    obtain ⟨Q, cc, hv2⟩ := own_form hpa
    rw [hv2] at hpa
    refine ⟨Q, _, cc, h.cells (g := g) rfl _ _ e0.1, h.cells (g := g) rfl _ _ e0.2.1, h.cells (g := g) rfl _ _ e0.2.2.1, ?_, rfl, pls_own hpa⟩
    rw [← hv2]
    exact h.cells (g := g) rfl _ _ e0.2.2.2
/-- The document's reader, as one in general. -/
def RR (p : Nat) (s : RS) (w : World) : Prop := ∃ b, RRd p s.e b w ∧ bl b = s.l ∧ s.l.length ≤ 1000000000000
theorem bl_len (b : ByteArray) : (bl b).length = b.size := by rw [bl, Array.length_toList]; rfl
theorem RR.of (p : Nat) : RdOf p 46 (RR p) :=
  ⟨fun ⟨_, h, _⟩ => ⟨_, h⟩, fun ⟨b, h, h2⟩ hg hr => ⟨b, (hg.block p (blk_lt h) (fun e => hr e.symm)).trans h, h2⟩⟩
theorem RR.num {p : Nat} {s : RS} {w : World} (h : RR p s w) : Calls Tryz.prog 42 #[.pointer (some ⟨p, 0, none⟩)] w fun en w' => en = .returned (.int .i64 (rNum s).1) ∧ w.grownBy w' (some p) ∧ RR p (rNum s).2 w' := by
  obtain ⟨b, h1, h2, h3⟩ := h
  obtain ⟨e, l⟩ := s
  have h2' : bl b = l := h2
  subst h2'
  refine (rrNum_any p e b w h1 (by have := bl_len b; simp only at h3; omega)).mono ?_
  rintro en w' ⟨he, hg, b', h4, h5⟩
  exact ⟨he, hg, b', h4, h5, Nat.le_trans (rNum_len _) h3⟩
theorem RR.count {p : Nat} {s : RS} {w : World} (h : RR p s w) (m : Int) : Calls Tryz.prog 41 #[.pointer (some ⟨p, 0, none⟩), .int .i64 m] w fun en w' => en = .returned (.int .i64 (rCount m s).1) ∧ w.grownBy w' (some p) ∧ RR p (rCount m s).2 w' := by
  obtain ⟨b, h1, h2, h3⟩ := h
  obtain ⟨e, l⟩ := s
  have h2' : bl b = l := h2
  subst h2'
  refine (rrCount_any p e m b w h1 (by have := bl_len b; simp only at h3; omega)).mono ?_
  rintro en w' ⟨he, hg, b', h4, h5⟩
  exact ⟨he, hg, b', h4, h5, Nat.le_trans (rCount_len _ _) h3⟩
theorem RR.text {p : Nat} {s : RS} {w : World} (h : RR p s w) : Calls Tryz.prog 43 #[.pointer (some ⟨p, 0, none⟩)] w fun en w' => en = .returned (.string ⟨(rText s).1.toArray⟩) ∧ w.grownBy w' (some p) ∧ RR p (rText s).2 w' := by
  obtain ⟨b, h1, h2, h3⟩ := h
  obtain ⟨e, l⟩ := s
  have h2' : bl b = l := h2
  subst h2'
  refine (rrText_any p e b w h1 (by have := bl_len b; simp only at h3; omega)).mono ?_
  rintro en w' ⟨he, hg, b', h4, h5⟩
  exact ⟨he, hg, b', h4, h5, Nat.le_trans (rText_len2 _) h3⟩
end Go.Proofs.YtgmbppfkkiobhaaGreat.Wire
