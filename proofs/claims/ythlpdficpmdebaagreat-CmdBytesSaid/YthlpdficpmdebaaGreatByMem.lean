/- Rows in memory that lie apart from each other; an append that leaves the old row as it was. -/
import Derived.Test.YthlpdficpmdebaaGreatJ8
import Derived.Test.YthlpdficpmdebaaGreatJ0
import Derived.Maps.AppendAt
namespace Go.Proofs.YthlpdficpmdebaaGreat.Wire
open Go Go.RowKit Go.Lib
section
variable {P : Program}
/-- append onto an own row: the new value owns the longer row, and the old value's row is as it was. -/
theorem run_append_stay (w : World) (base : Nat) (t ty e : TypeId) (i : TypeInfo) (z : Value) (bytes : Nat) (ht : P.underlying t = some (.slice e)) (hi : P.info? e = some i) (hz : i.zero = some z)
    (hsize : i.size = 1) (hby : i.bytes = bytes) (hzs : z.cells.size = 1) (v : Value) (n : Nat) (xs : List Value) (hown : w.ownsRow base e 1 v n xs)
    (ad : Addr) (m c : Nat) (news : List Value) (hl : news.length = m) (hnews : ∀ j u, news[j]? = some u → w.cell? (ad.add j) = some u) (h1 : ∀ u ∈ news, u.oneCell' = true)
    (h63 : n + m ≤ maxLen) (hbytes : (n + m) * bytes ≤ 140737488355328) (hbase : base ≤ w.heap.size) :
    ∃ v' w', (Builtin.append_ #[t, t] ty #[v, .slice (some ad) m c]).run P w = .ok v' w' ∧ w'.ownsRow base e 1 v' (n + m) (xs ++ news) ∧ w.grownBy w' v.ownBlock ∧ (v'.ownBlock = v.ownBlock ∨ v'.ownBlock = some w.heap.size) ∧ ∀ v0 n0 us, w.ownsRow base e 1 v0 n0 us → (v0.ownBlock = v.ownBlock → n0 ≤ n) → w'.ownsRow base e 1 v0 n0 us := by
  have hl1 : news.length = m * 1 := by omega
  obtain ⟨v', w', hr, h2, h3, _, h5⟩ := run_append_own_at (P := P) w base t ty e i z 1 bytes ht hi hz hsize hby hzs (by omega) v n xs hown ad m c news hl1 hnews h1 h63 hbytes hbase
  refine ⟨v', w', hr, h2, h3, h5, ?_⟩
  subst hby
  have hsmall : n + m ≤ 9223372036854775807 := by simp only [maxLen] at h63; omega
  have hl2 : news.length = m * i.size := by rw [hsize]; omega
  intro v0 n0 us h0 hn0
  by_cases hsame : v0.ownBlock ≠ v.ownBlock
  · exact h0.kept h3 (.inr hsame)
  have hsame := Decidable.of_not_not hsame
  have hn0' := hn0 hsame
  rcases hown.2 with ⟨rfl, rfl⟩ | ⟨g, cap, cur, rfl, hbg, hg, hnc, hcm, hcs, htake⟩
  · rcases h0.2 with ⟨rfl, rfl⟩ | ⟨g1, cap1, cur1, rfl, _⟩
    · exact ⟨h0.1, .inl ⟨rfl, rfl⟩⟩
    · cases hsame
  · rcases h0.2 with ⟨rfl, rfl⟩ | ⟨g1, cap1, cur1, rfl, hbg1, hg1, hnc1, hcm1, hcs1, htake1⟩
    · exact ⟨h0.1, .inl ⟨rfl, rfl⟩⟩
    have hgg : g1 = g := by simpa [Value.ownBlock] using hsame
    subst hgg
    have hcc : cur1 = cur := by rw [hg] at hg1; cases hg1; rfl
    subst hcc
    by_cases hroom : n + m ≤ cap
    · have hfit : n * i.size + news.length ≤ cur1.size := by rw [hsize, hl, hcs]; omega
      have hr2 := run_append_room (P := P) w t ty e i ht hi g1 n cap cur1 hg ad m c news hl2 hnews h1 hroom hfit
      rw [hr2] at hr
      injection hr with e1 e2
      subst e1
      refine ⟨h0.1, .inr ?_⟩
      rcases h2.2 with ⟨he, _⟩ | ⟨g2, cap2, cur2, he, hbg2, hg2, hnc2, hcm2, hcs2, htake2⟩
      · cases he
      · injection he with ha _ hc
        injection ha with ha
        injection ha with ha
        subst ha
        subst hc
        refine ⟨g1, cap1, cur2, rfl, hbg1, hg2, hnc1, hcm1, by rw [hcs2, ← hcs, hcs1], ?_⟩
        have hx := hown.1
        have h6 := congrArg (List.take (n0 * 1)) htake2
        rw [List.take_take, Nat.min_eq_left (by omega), List.take_append_of_le_length (by omega), ← htake, List.take_take, Nat.min_eq_left (by omega)] at h6
        rw [h6, htake1]
    · have holds : ∀ j u, xs[j]? = some u → w.cell? ((⟨g1, 0, none⟩ : Addr).add j) = some u := hown.cells (g := g1) rfl
      have hr2 := run_append_grow (P := P) w t ty e i z ht hi hz ⟨g1, 0, none⟩ n cap xs (by rw [hsize]; exact hown.1) holds ad m c news hl2 hnews (by omega) (by omega) (growslice_fits (by omega) hbytes)
      rw [hr2] at hr
      injection hr with e1 e2
      subst e2
      exact (show w.drew.ownsRow base e 1 _ n0 us from h0).alloc _
/-- For the walk. -/
theorem wpList_append_stay {w : World} {ops : Array Oper} {rest : List Oper} {o : Oper} {a : Act} {Q : Exit → Act → World → Prop} (hgd : o.guard = none) (s x : Operand) (t : TypeId)
    (ho : o.op = .call { callee := .builtin .append, args := #[s, x], argTypes := #[t, t] })
    (base : Nat) (e : TypeId) (i : TypeInfo) (z : Value) (bytes : Nat) (ht : P.underlying t = some (.slice e)) (hi : P.info? e = some i) (hz : i.zero = some z)
    (hsize : i.size = 1) (hby : i.bytes = bytes) (hzs : z.cells.size = 1) (v : Value) (n : Nat) (xs : List Value) (hs : a.eval s = v) (hown : w.ownsRow base e 1 v n xs)
    (ad : Addr) (m c : Nat) (news : List Value) (hx : a.eval x = .slice (some ad) m c) (hl : news.length = m) (hnews : ∀ j u, news[j]? = some u → w.cell? (ad.add j) = some u) (h1 : ∀ u ∈ news, u.oneCell' = true)
    (h63 : n + m ≤ maxLen) (hbytes : (n + m) * bytes ≤ 140737488355328) (hbase : base ≤ w.heap.size)
    (h : ∀ v' w', w'.ownsRow base e 1 v' (n + m) (xs ++ news) → w.grownBy w' v.ownBlock → (v'.ownBlock = v.ownBlock ∨ v'.ownBlock = some w.heap.size) → (∀ v0 n0 us, w.ownsRow base e 1 v0 n0 us → (v0.ownBlock = v.ownBlock → n0 ≤ n) → w'.ownsRow base e 1 v0 n0 us) → wpList P ops Q rest (a.put o.dst v') w') :
    wpList P ops Q (o :: rest) a w := by
  refine wpList_plain hgd fun K hK => ?_
  obtain ⟨v', w', hr, h2, h3, h4, h5⟩ := run_append_stay (P := P) w base t o.type e i z bytes ht hi hz hsize hby hzs v n xs hown ad m c news hl hnews h1 h63 hbytes hbase
  unfold Oper.wp execOp
  simp only [ho, resolve, invoke, builtin, Sem.run_bind, Sem.run_pure, Result.andThen_ok, List.map_toArray, List.map_cons, List.map_nil, hs, hx, hr]
  exact hK _ _ (h v' w' h2 h3 h4 h5)
end
theorem grown_far {a b c d : World} {r : Option Nat} (h1 : a.grownBy b none) (h2 : b.grownBy c none) (h3 : c.grownBy d r) (hr : ∀ g, r = some g → a.heap.size ≤ g) : a.grownBy d none := by
  have h := h1.trans h2
  exact ⟨h3.os.trans h.os, h3.tape.trans h.tape, h3.output.trans h.output, Nat.le_trans h.size h3.size, fun k hk _ => (h3.block k (Nat.lt_of_lt_of_le hk h.size) (fun e => by have := hr k e.symm; omega)).trans (h.block k hk (by simp))⟩
/-- A row: of which type, the slice, how many, what it holds. -/
structure Row where
  t : TypeId
  v : Value
  n : Nat
  xs : List Value
def Row.at (r : Row) (B : Nat) (w : World) : Prop := w.ownsRow B r.t 1 r.v r.n r.xs
def Row.off (r : Row) (s : Row) : Prop := r.v.ownBlock = none ∨ r.v.ownBlock ≠ s.v.ownBlock
theorem Row.off.symm {r s : Row} (h : r.off s) : s.off r := by
  rcases h with h | h
  · by_cases h2 : s.v.ownBlock = none
    · exact .inl h2
    · exact .inr (by rw [h]; exact h2)
  · exact .inr (Ne.symm h)
/-- Rows that lie apart from each other (l), and rows that are read alone (r), apart from those. -/
structure Mem (B : Nat) (l r : List Row) (w : World) : Prop where
  own : ∀ (i : Nat) (a : Row), l[i]? = some a → a.at B w
  off : ∀ (i j : Nat) (a b : Row), i ≠ j → l[i]? = some a → l[j]? = some b → a.off b
  rd : ∀ b ∈ r, b.at B w
  far : ∀ (i : Nat) (a : Row), l[i]? = some a → ∀ b ∈ r, a.off b
section
variable {B : Nat} {l r : List Row} {w w' : World}
theorem Row.at.kept {a : Row} {g : Option Nat} (h : a.at B w) (hg : w.grownBy w' g) (hne : a.v.ownBlock = none ∨ a.v.ownBlock ≠ g) : a.at B w' := World.ownsRow.kept h hg hne
theorem Row.at.old {a : Row} (h : a.at B w) (hg : w.grownBy w' none) : a.at B w' := h.kept hg (by cases a.v.ownBlock <;> simp)
/-- Memory is made; all stays. -/
theorem Mem.old (h : Mem B l r w) (hg : w.grownBy w' none) : Mem B l r w' := ⟨fun i a e => (h.own i a e).old hg, h.off, fun b hb => (h.rd b hb).old hg, h.far⟩
/-- A block of another type is written. -/
theorem Mem.box (h : Mem B l r w) {q : Nat} {cs : Array Value} {t : TypeId} (hq : w.heap[q]? = some (.cells cs t (0, 0))) (hg : w.grownBy w' (some q)) (hl : ∀ (i : Nat) (a : Row), l[i]? = some a → a.t ≠ t) (hr : ∀ b ∈ r, b.t ≠ t) : Mem B l r w' :=
  ⟨fun i a e => (h.own i a e).kept hg (.inr (own_ne (h.own i a e) hq (hl i a e))), h.off, fun b hb => (h.rd b hb).kept hg (.inr (own_ne (h.rd b hb) hq (hr b hb))), h.far⟩
theorem at_lt {a : Row} (h : a.at B w) {g : Nat} (e : a.v.ownBlock = some g) : B ≤ g ∧ g < w.heap.size := World.ownsRow.lt h g e
/-- A new row, in memory that is made now. -/
theorem Mem.push (h : Mem B l r w) (hg : w.grownBy w' none) {a : Row} (ha : w'.ownsRow w.heap.size a.t 1 a.v a.n a.xs) (hB : B ≤ w.heap.size) : Mem B (l ++ [a]) r w' := by
  have hlt : ∀ g, a.v.ownBlock = some g → w.heap.size ≤ g := fun g e => (ha.lt g e).1
  have hoff : ∀ b : Row, b.at B w → a.off b := fun b hb => by
    cases ea : a.v.ownBlock with
    | none => exact .inl ea
    | some g =>
      refine .inr ?_
      rw [ea]
      intro e
      have h1 := (at_lt hb e.symm).2
      have h2 := hlt g ea
      omega
  have h' := h.old hg
  have key : ∀ (i : Nat) (b : Row), (l ++ [a])[i]? = some b → l[i]? = some b ∨ (i = l.length ∧ b = a) := by
    intro i b e
    by_cases hi : i < l.length
    · rw [List.getElem?_append_left hi] at e; exact .inl e
    · rw [List.getElem?_append_right (by omega)] at e
      by_cases h0 : i - l.length = 0
      · rw [h0] at e; simp at e; exact .inr ⟨by omega, e.symm⟩
      · rw [List.getElem?_eq_none (by simp; omega)] at e; cases e
  have hat : a.at B w' := by
    rcases ha.2 with h0 | ⟨g, cap, cur, h1, h2, h3⟩
    · exact ⟨ha.1, .inl h0⟩
    · exact ⟨ha.1, .inr ⟨g, cap, cur, h1, Nat.le_trans hB h2, h3⟩⟩
  refine ⟨fun i b e => ?_, fun i j b c hij e1 e2 => ?_, h'.rd, fun i b e c hc => ?_⟩
  · rcases key i b e with e | ⟨_, rfl⟩
    · exact h'.own i b e
    · exact hat
  · rcases key i b e1 with f1 | ⟨rfl, rfl⟩ <;> rcases key j c e2 with f2 | ⟨rfl, rfl⟩
    · exact h.off i j b c hij f1 f2
    · exact (hoff b (h.own i b f1)).symm
    · exact hoff c (h.own j c f2)
    · exact absurd rfl hij
  · rcases key i b e with e | ⟨_, rfl⟩
    · exact h.far i b e c hc
    · exact hoff c (h.rd c hc)
/-- A row is changed in its own block, or moves into a block that is made now. -/
theorem Mem.put (h : Mem B l r w) {i : Nat} {a b : Row} (hi : l[i]? = some a) (hg : w.grownBy w' a.v.ownBlock) (hb : b.at B w') (hat : b.v.ownBlock = a.v.ownBlock ∨ b.v.ownBlock = some w.heap.size) : Mem B (l.set i b) r w' := by
  have hfar : ∀ c : Row, a.off c → c.at B w → b.off c := fun c h1 h2 => by
    rcases hat with e | e
    · rcases h1 with h1 | h1
      · exact .inl (e.trans h1)
      · exact .inr (by rw [e]; exact h1)
    · refine .inr ?_
      rw [e]
      intro e2
      have := (at_lt h2 e2.symm).2
      omega
  have hk : ∀ c : Row, a.off c → c.at B w → c.at B w' := fun c h1 h2 => h2.kept hg h1.symm
  have key : ∀ (j : Nat) (c : Row), (l.set i b)[j]? = some c → (j = i ∧ c = b) ∨ (j ≠ i ∧ l[j]? = some c) := by
    intro j c e
    rw [List.getElem?_set] at e
    split at e
    · rename_i hij
      split at e
      · cases e; exact .inl ⟨hij.symm, rfl⟩
      · cases e
    · rename_i hij; exact .inr ⟨fun e => hij e.symm, e⟩
  refine ⟨fun j c e => ?_, fun j k c d hjk e1 e2 => ?_, fun c hc => hk c (h.far i a hi c hc) (h.rd c hc), fun j c e d hd => ?_⟩
  · rcases key j c e with ⟨_, rfl⟩ | ⟨hj, e⟩
    · exact hb
    · exact hk c (h.off i j a c (Ne.symm hj) hi e) (h.own j c e)
  · rcases key j c e1 with ⟨rfl, rfl⟩ | ⟨hj, f1⟩ <;> rcases key k d e2 with ⟨rfl, rfl⟩ | ⟨hk', f2⟩
    · exact absurd rfl hjk
    · exact hfar d (h.off _ k a d (Ne.symm hk') hi f2) (h.own k d f2)
    · exact (hfar c (h.off _ j a c (Ne.symm hj) hi f1) (h.own j c f1)).symm
    · exact h.off j k c d hjk f1 f2
  · rcases key j c e with ⟨_, rfl⟩ | ⟨hj, e⟩
    · exact hfar d (h.far i a hi d hd) (h.rd d hd)
    · exact h.far j c e d hd
def noRow (t : TypeId) : Row := ⟨t, .slice none 0 0, 0, []⟩
/-- A row is given up: from now on it is read alone, and with it whatever row lies in its block. -/
theorem Mem.drop (h : Mem B l r w) (i : Nat) (t : TypeId) {rs : List Row} (hrs : ∀ b ∈ rs, b.at B w ∧ ∀ (j : Nat) (c : Row), j ≠ i → l[j]? = some c → c.off b) : Mem B (l.set i (noRow t)) (rs ++ r) w := by
  have key : ∀ (j : Nat) (c : Row), (l.set i (noRow t))[j]? = some c → c = noRow t ∨ (j ≠ i ∧ l[j]? = some c) := by
    intro j c e
    rw [List.getElem?_set] at e
    split at e
    · split at e
      · cases e; exact .inl rfl
      · cases e
    · rename_i hij; exact .inr ⟨fun e => hij e.symm, e⟩
  refine ⟨fun j c e => ?_, fun j k c d hjk e1 e2 => ?_, fun b hb => ?_, fun j c e b hb => ?_⟩
  · rcases key j c e with rfl | ⟨_, e⟩
    · exact World.ownsRow_nil _ _ _ _
    · exact h.own j c e
  · rcases key j c e1 with rfl | ⟨hj, e1⟩
    · exact .inl rfl
    · rcases key k d e2 with rfl | ⟨hk, e2⟩
      · exact Row.off.symm (.inl rfl)
      · exact h.off j k c d hjk e1 e2
  · rcases List.mem_append.1 hb with hb | hb
    · exact (hrs b hb).1
    · exact h.rd b hb
  · rcases key j c e with rfl | ⟨hj, e⟩
    · exact .inl rfl
    · rcases List.mem_append.1 hb with hb | hb
      · exact (hrs b hb).2 j c hj e
      · exact h.far j c e b hb
end
/-- A cell of an own row is written. -/
theorem own_set {w : World} {B g n c : Nat} {e : TypeId} {xs : List Value} (h : w.ownsRow B e 1 (.slice (some ⟨g, 0, none⟩) n c) n xs) {k : Nat} (_hk : k < n) (u : Value) :
    (w.setCell ⟨g, k, none⟩ u).ownsRow B e 1 (.slice (some ⟨g, 0, none⟩) n c) n (xs.set k u) := by
  refine ⟨by rw [List.length_set]; exact h.1, ?_⟩
  rcases h.2 with ⟨he, _⟩ | ⟨g2, cap2, cur2, he, hbg2, hg2, hnc2, hcm2, hcs2, htake2⟩
  · cases he
  · injection he with ha _ hc
    injection ha with ha
    injection ha with ha
    subst ha
    subst hc
    refine .inr ⟨g, c, cur2.setIfInBounds k u, rfl, hbg2, Go.Lib.heap_setCell_same (i := k) hg2 u, hnc2, hcm2, by simpa using hcs2, ?_⟩
    rw [Array.toList_setIfInBounds, ← htake2, List.take_set]
end Go.Proofs.YthlpdficpmdebaaGreat.Wire
