/- What an abstract value, and an abstract memory, stand for. -/
import Derived.Test.YtjpkfdmjhgnmbaaGreatGvBase
import Derived.WalkKit
import Derived.Below
import Derived.Laws.AppendOwn
namespace Go.Proofs.YtjpkfdmjhgnmbaaGreat.Gv
open Go

structure Loc where
  blk : Nat
  off : Nat
  slack : Nat
abbrev Mp := Nat → Option Loc
def Mp.le (φ ψ : Mp) : Prop := ∀ b l, φ b = some l → ψ b = some l
theorem Mp.le_refl (φ : Mp) : φ.le φ := fun _ _ h => h
theorem Mp.le_trans {φ ψ χ : Mp} (h : φ.le ψ) (k : ψ.le χ) : φ.le χ := fun b l e => k b l (h b l e)
def Mp.put (φ : Mp) (b : Nat) (l : Loc) : Mp := fun i => if i = b then some l else φ i
theorem Mp.le_put {φ : Mp} {b : Nat} {l : Loc} (h : φ b = none) : φ.le (φ.put b l) := by
  intro i m e
  unfold Mp.put
  by_cases hi : i = b
  · subst hi; rw [h] at e; cases e
  · rw [if_neg hi]; exact e
theorem Mp.put_self (φ : Mp) (b : Nat) (l : Loc) : φ.put b l b = some l := by unfold Mp.put; rw [if_pos rfl]
theorem Mp.put_other {φ : Mp} {b i : Nat} {l : Loc} (h : i ≠ b) : φ.put b l i = φ i := by unfold Mp.put; rw [if_neg h]

/-- What the unknown parts are. -/
structure Gh where
  ε : Nat → Value
  σ : Nat → Int
  cell : ∀ i, (ε i).oneCell' = true

def strL : Nat → Nat → List UInt8
  | 0, _ => []
  | n + 1, v => UInt8.ofNat (v % 256) :: strL n (v / 256)
def den (σ : Nat → Int) : List (Nat × Int) → Int
  | [] => 0
  | (i, a) :: l => a * σ i + den σ l

mutual
def conc (G : Gh) (φ : Mp) : V → Option Value
  | .undef => some (.tuple #[])
  | .bool b => some (.bool b)
  | .int k n => some (.int k n)
  | .sint k c ts => some (.int k (c + den G.σ ts))
  | .str n v => some (.string ⟨(strL n v).toArray⟩)
  | .ptr b o => match φ b with | some l => some (.pointer (some ⟨l.blk, o, none⟩)) | none => none
  | .nilptr => some (.pointer none)
  | .slice b o n c x => match φ b with | some l => some (.slice (some ⟨l.blk, o, none⟩) n (bif x then c + l.slack else c)) | none => none
  | .nilslice => some (.slice none 0 0)
  | .emp i => match φ i with | some l => some (.slice (some ⟨l.blk, l.off, none⟩) 0 l.slack) | none => none
  | .map b => match φ b with | some l => some (.map (some l.blk)) | none => none
  | .nilmap => some (.map none)
  | .func fn f c => match concL G φ f, concL G φ c with | some f, some c => some (.func fn f.toArray c.toArray) | _, _ => none
  | .nilfunc => some .nilFunc
  | .iface t v => match conc G φ v with | some u => some (.iface t u) | none => none
  | .nilif => some .nilIface
  | .agg l => match concL G φ l with | some m => some (.agg m.toArray) | none => none
  | .tuple l => match concL G φ l with | some m => some (.tuple m.toArray) | none => none
  | .opq i => some (G.ε i)
  | .yld b => match φ b with | some l => some (.func (.yield l.blk) #[] #[]) | none => none
def concL (G : Gh) (φ : Mp) : List V → Option (List Value)
  | [] => some []
  | v :: l => match conc G φ v, concL G φ l with | some u, some m => some (u :: m) | _, _ => none
end

section
variable {G : Gh} {φ ψ : Mp}
theorem concL_nil : concL G φ [] = some [] := by unfold concL; rfl
theorem concL_cons {v : V} {l : List V} {m : List Value} : concL G φ (v :: l) = some m ↔ ∃ u k, conc G φ v = some u ∧ concL G φ l = some k ∧ m = u :: k := by
  rw [concL]
  cases conc G φ v with
  | none => simp
  | some u =>
    cases concL G φ l with
    | none => simp
    | some k => simp [eq_comm]

mutual
theorem conc_mono (h : φ.le ψ) : ∀ {v : V} {u : Value}, conc G φ v = some u → conc G ψ v = some u
  | .undef, u, e => by rw [conc] at e ⊢; exact e
  | .bool _, u, e => by rw [conc] at e ⊢; exact e
  | .int _ _, u, e => by rw [conc] at e ⊢; exact e
  | .sint _ _ _, u, e => by rw [conc] at e ⊢; exact e
  | .str _ _, u, e => by rw [conc] at e ⊢; exact e
  | .ptr b o, u, e => by
    rw [conc] at e ⊢
    cases hb : φ b with
    | none => rw [hb] at e; cases e
    | some l => rw [hb] at e; rw [h b l hb]; exact e
  | .nilptr, u, e => by rw [conc] at e ⊢; exact e
  | .slice b o n c x, u, e => by
    rw [conc] at e ⊢
    cases hb : φ b with
    | none => rw [hb] at e; cases e
    | some l => rw [hb] at e; rw [h b l hb]; exact e
  | .nilslice, u, e => by rw [conc] at e ⊢; exact e
  | .emp b, u, e => by
    rw [conc] at e ⊢
    cases hb : φ b with
    | none => rw [hb] at e; cases e
    | some l => rw [hb] at e; rw [h b l hb]; exact e
  | .map b, u, e => by
    rw [conc] at e ⊢
    cases hb : φ b with
    | none => rw [hb] at e; cases e
    | some l => rw [hb] at e; rw [h b l hb]; exact e
  | .nilmap, u, e => by rw [conc] at e ⊢; exact e
  | .func fn f c, u, e => by
    rw [conc] at e ⊢
    cases hf : concL G φ f with
    | none => rw [hf] at e; cases e
    | some f' =>
      cases hc : concL G φ c with
      | none => rw [hf, hc] at e; cases e
      | some c' => rw [hf, hc] at e; rw [concL_mono h hf, concL_mono h hc]; exact e
  | .nilfunc, u, e => by rw [conc] at e ⊢; exact e
  | .iface t v, u, e => by
    rw [conc] at e ⊢
    cases hf : conc G φ v with
    | none => rw [hf] at e; cases e
    | some f' => rw [hf] at e; rw [conc_mono h hf]; exact e
  | .nilif, u, e => by rw [conc] at e ⊢; exact e
  | .agg l, u, e => by
    rw [conc] at e ⊢
    cases hf : concL G φ l with
    | none => rw [hf] at e; cases e
    | some f' => rw [hf] at e; rw [concL_mono h hf]; exact e
  | .tuple l, u, e => by
    rw [conc] at e ⊢
    cases hf : concL G φ l with
    | none => rw [hf] at e; cases e
    | some f' => rw [hf] at e; rw [concL_mono h hf]; exact e
  | .opq _, u, e => by rw [conc] at e ⊢; exact e
  | .yld b, u, e => by
    rw [conc] at e ⊢
    cases hb : φ b with
    | none => rw [hb] at e; cases e
    | some l => rw [hb] at e; rw [h b l hb]; exact e
theorem concL_mono (h : φ.le ψ) : ∀ {l : List V} {m : List Value}, concL G φ l = some m → concL G ψ l = some m
  | [], m, e => by rw [concL] at e ⊢; exact e
  | v :: l, m, e => by
    obtain ⟨u, k, hu, hk, rfl⟩ := concL_cons.1 e
    exact concL_cons.2 ⟨u, k, conc_mono h hu, concL_mono h hk, rfl⟩
end

theorem concL_length : ∀ {l : List V} {m : List Value}, concL G φ l = some m → m.length = l.length
  | [], m, e => by rw [concL_nil] at e; cases e; rfl
  | v :: l, m, e => by
    obtain ⟨u, k, _, hk, rfl⟩ := concL_cons.1 e
    simp [concL_length hk]
theorem concL_get : ∀ {l : List V} {m : List Value}, concL G φ l = some m → ∀ (i : Nat) (v : V), l[i]? = some v → ∃ u, m[i]? = some u ∧ conc G φ v = some u
  | [], m, e, i, v, h => by simp at h
  | x :: l, m, e, i, v, h => by
    obtain ⟨u, k, hu, hk, rfl⟩ := concL_cons.1 e
    cases i with
    | zero => simp at h; subst h; exact ⟨u, by simp, hu⟩
    | succ i => simp at h; simpa using concL_get hk i v h
theorem concL_of_get : ∀ {l : List V} {m : List Value}, l.length = m.length → (∀ (i : Nat) (v : V), l[i]? = some v → ∃ u, m[i]? = some u ∧ conc G φ v = some u) → concL G φ l = some m
  | [], m, hl, _ => by
    have : m = [] := List.eq_nil_of_length_eq_zero (by simpa using hl.symm)
    subst this; exact concL_nil
  | x :: l, [], hl, _ => by simp at hl
  | x :: l, y :: m, hl, h => by
    obtain ⟨u, hu, hc⟩ := h 0 x (by simp)
    simp at hu; subst hu
    exact concL_cons.2 ⟨y, m, hc, concL_of_get (by simpa using hl) (fun i v hv => by simpa using h (i + 1) v (by simpa using hv)), rfl⟩
theorem concL_append {l l' : List V} {m m' : List Value} (h : concL G φ l = some m) (h' : concL G φ l' = some m') : concL G φ (l ++ l') = some (m ++ m') := by
  induction l generalizing m with
  | nil => rw [concL_nil] at h; cases h; simpa using h'
  | cons v l ih =>
    obtain ⟨u, k, hu, hk, rfl⟩ := concL_cons.1 h
    exact concL_cons.2 ⟨u, k ++ m', hu, ih hk, rfl⟩
theorem isCell_conc {v : V} {u : Value} (hv : isCell v = true) (h : conc G φ v = some u) : u.oneCell' = true ∧ u.cells = #[u] := by
  have key : u.oneCell' = true → u.oneCell' = true ∧ u.cells = #[u] := fun hu => ⟨hu, by cases u <;> first | rfl | cases hu⟩
  cases v with
  | undef => cases hv
  | agg l => cases hv
  | tuple l => cases hv
  | opq i => rw [conc] at h; cases h; exact key (G.cell i)
  | func fn f c =>
    rw [conc] at h
    cases hf : concL G φ f with
    | none => rw [hf] at h; cases h
    | some f' =>
      cases hc : concL G φ c with
      | none => rw [hf, hc] at h; cases h
      | some c' => rw [hf, hc] at h; cases h; exact key rfl
  | iface t v =>
    rw [conc] at h
    cases hf : conc G φ v with
    | none => rw [hf] at h; cases h
    | some f' => rw [hf] at h; cases h; exact key rfl
  | ptr b o =>
    rw [conc] at h
    cases hb : φ b with
    | none => rw [hb] at h; cases h
    | some l => rw [hb] at h; cases h; exact key rfl
  | slice b o n c x =>
    rw [conc] at h
    cases hb : φ b with
    | none => rw [hb] at h; cases h
    | some l => rw [hb] at h; cases h; exact key rfl
  | emp b =>
    rw [conc] at h
    cases hb : φ b with
    | none => rw [hb] at h; cases h
    | some l => rw [hb] at h; cases h; exact key rfl
  | map b =>
    rw [conc] at h
    cases hb : φ b with
    | none => rw [hb] at h; cases h
    | some l => rw [hb] at h; cases h; exact key rfl
  | yld b =>
    rw [conc] at h
    cases hb : φ b with
    | none => rw [hb] at h; cases h
    | some l => rw [hb] at h; cases h; exact key rfl
  | _ => rw [conc] at h; cases h; exact key rfl
theorem areCells_cons (v : V) (l : List V) : areCells (v :: l) = (isCell v && areCells l) := by
  show (bif isCell v then areCells l else false) = _
  cases isCell v <;> rfl
theorem areCells_conc : ∀ {l : List V} {m : List Value}, areCells l = true → concL G φ l = some m → ∀ u ∈ m, u.oneCell' = true
  | [], m, _, h, u, hu => by rw [concL_nil] at h; cases h; cases hu
  | v :: l, m, hc, h, u, hu => by
    rw [areCells_cons, Bool.and_eq_true] at hc
    obtain ⟨x, k, hx, hk, rfl⟩ := concL_cons.1 h
    cases hu with
    | head => exact (isCell_conc hc.1 hx).1
    | tail _ hu => exact areCells_conc hc.2 hk u hu
/-- The cells of a value. -/
theorem cells_conc {v : V} {u : Value} (hc : areCells v.cells = true) (h : conc G φ v = some u) : concL G φ v.cells = some u.cells.toList := by
  cases v with
  | agg l =>
    rw [conc] at h
    cases hl : concL G φ l with
    | none => rw [hl] at h; cases h
    | some m => rw [hl] at h; cases h; exact hl.trans (by simp [Value.cells])
  | _ =>
    have hc' : areCells [_] = true := hc
    rw [areCells_cons, Bool.and_eq_true] at hc'
    have := (isCell_conc hc'.1 h).2
    rw [this]
    exact concL_cons.2 ⟨u, [], h, concL_nil, rfl⟩
end

/-! ### memory -/
/-- A map's entries were born one behind the other. -/
def Born (E : List MapEntry) (c : Nat) : Prop := (∀ x ∈ E, x.born < c) ∧ (E.map (·.born)).Nodup
theorem Born.nil (c : Nat) : Born [] c := ⟨by simp, by simp⟩
theorem Born.push {E : List MapEntry} {c : Nat} (h : Born E c) (k v : Value) : Born (E ++ [{ key := k, val := v, born := c }]) (c + 1) := by
  refine ⟨fun x hx => ?_, ?_⟩
  · rcases List.mem_append.1 hx with hx | hx
    · exact Nat.lt_succ_of_lt (h.1 x hx)
    · simp at hx; subst hx; exact Nat.lt_succ_self _
  · rw [List.map_append]
    refine List.nodup_append.2 ⟨h.2, by simp, ?_⟩
    intro a ha b hb
    simp at hb
    subst hb
    obtain ⟨x, hx, rfl⟩ := List.mem_map.1 ha
    exact Nat.ne_of_lt (h.1 x hx)
theorem Born.modify {E : List MapEntry} {c : Nat} (h : Born E c) (i : Nat) (k v : Value) : Born (E.modify i fun e => { e with key := k, val := v }) c := by
  have hm : (E.modify i fun e => { e with key := k, val := v }).map (·.born) = E.map (·.born) := by
    apply List.ext_getElem?
    intro j
    simp only [List.getElem?_map, List.getElem?_modify]
    split <;> cases E[j]? <;> rfl
  refine ⟨fun x hx => ?_, by rw [hm]; exact h.2⟩
  have : x.born ∈ (E.modify i fun e => { e with key := k, val := v }).map (·.born) := List.mem_map.2 ⟨x, hx, rfl⟩
  rw [hm] at this
  obtain ⟨y, hy, he⟩ := List.mem_map.1 this
  rw [← he]
  exact h.1 y hy
theorem Born.erase {E : List MapEntry} {c : Nat} (h : Born E c) (i : Nat) : Born (E.eraseIdx i) c :=
  ⟨fun x hx => h.1 x (List.mem_of_mem_eraseIdx hx), h.2.sublist ((List.eraseIdx_sublist E i).map _)⟩

/-- What a block stands for. -/
def BRel (G : Gh) (φ : Mp) (x : B) (l : Loc) (w : World) : Prop :=
  match x with
  | .cells cs n sz ex => ∃ C e, w.heap[l.blk]? = some (.cells C e (0, 0)) ∧ C.size = n + l.slack * sz ∧ (ex = true → l.slack = 0) ∧
      ∀ i v, i < n → cs.get i = some v → ∃ u, conc G φ v = some u ∧ C[i]? = some u
  | .map es => ∃ E c, w.heap[l.blk]? = some (.map E c) ∧ Born E.toList c ∧ E.size = es.length ∧
      ∀ (i : Nat) (k v : V), es[i]? = some (k, v) → ∃ e : MapEntry, E[i]? = some e ∧ conc G φ k = some e.key ∧ conc G φ v = some e.val
  | .iter none => w.heap[l.blk]? = some (.mapIter none 0 #[] 0)
  | .iter (some m) => ∃ lm c, φ m = some lm ∧ w.heap[l.blk]? = some (.mapIter (some lm.blk) c #[] c)

structure HRel (G : Gh) (φ : Mp) (h : H) (w : World) : Prop where
  blk : ∀ b x l, h.t.get b = some x → φ b = some l → BRel G φ x l w
  inj : ∀ b b' x x' l l', h.t.get b = some x → h.t.get b' = some x' → φ b = some l → φ b' = some l' → l.blk = l'.blk → b = b'
  fresh : ∀ b, h.next ≤ b → h.t.get b = none

/-- Is a place in memory some live block's? -/
def Foot (φ : Mp) (h : H) (k : Nat) : Prop := ∃ b x l, h.t.get b = some x ∧ φ b = some l ∧ l.blk = k

/-- What a step may do to memory: new blocks; of the old ones those alone that are live. -/
structure Frame (φ : Mp) (h : H) (w w' : World) : Prop where
  os : w'.os = w.os
  tape : w'.tape = w.tape
  output : w'.output = w.output
  size : w.heap.size ≤ w'.heap.size
  block : ∀ k, k < w.heap.size → ¬ Foot φ h k → w'.heap[k]? = w.heap[k]?

/-- What a step makes of what blocks stand for. -/
structure Ext (φ φ' : Mp) (h h' : H) (w : World) : Prop where
  le : φ.le φ'
  new : ∀ b, φ b = none → (b < h.next ∨ h'.next ≤ b) → φ' b = none
  next : h.next ≤ h'.next
  foot : ∀ k, Foot φ' h' k → k < w.heap.size → Foot φ h k

def Free (φ : Mp) (lo hi : Nat) : Prop := ∀ b, lo ≤ b → b < hi → φ b = none

theorem Frame.refl (φ : Mp) (h : H) (w : World) : Frame φ h w w := ⟨rfl, rfl, rfl, Nat.le_refl _, fun _ _ _ => rfl⟩
theorem Ext.refl (φ : Mp) (h : H) (w : World) : Ext φ φ h h w := ⟨Mp.le_refl _, fun _ e _ => e, Nat.le_refl _, fun _ f _ => f⟩
theorem Frame.trans {φ φ' : Mp} {h h' : H} {w w' w'' : World} (f : Frame φ h w w') (e : Ext φ φ' h h' w) (g : Frame φ' h' w' w'') : Frame φ h w w'' :=
  ⟨g.os.trans f.os, g.tape.trans f.tape, g.output.trans f.output, Nat.le_trans f.size g.size, fun k hk hn =>
    (g.block k (Nat.lt_of_lt_of_le hk f.size) (fun hf => hn (e.foot k hf hk))).trans (f.block k hk hn)⟩
theorem Ext.trans {φ φ' φ'' : Mp} {h h' h'' : H} {w w' : World} (e : Ext φ φ' h h' w) (hs : w.heap.size ≤ w'.heap.size) (e' : Ext φ' φ'' h' h'' w') : Ext φ φ'' h h'' w :=
  ⟨Mp.le_trans e.le e'.le, fun b hb hr => by
    have h1 := e.next
    have h2 := e'.next
    exact e'.new b (e.new b hb (by omega)) (by omega), Nat.le_trans e.next e'.next,
    fun k hk hw => e.foot k (e'.foot k hk (by omega)) hw⟩

theorem BRel.mono {G : Gh} {φ ψ : Mp} {x : B} {l : Loc} {w w' : World} (hφ : φ.le ψ) (hw : w'.heap[l.blk]? = w.heap[l.blk]?) (h : BRel G φ x l w) : BRel G ψ x l w' := by
  cases x with
  | cells cs n sz ex =>
    obtain ⟨C, e, h1, h2, h3, h5⟩ := h
    exact ⟨C, e, hw.trans h1, h2, h3, fun i v hi hv => let ⟨u, a, b⟩ := h5 i v hi hv; ⟨u, conc_mono hφ a, b⟩⟩
  | map es =>
    obtain ⟨E, c, h1, hB, h2, h3⟩ := h
    exact ⟨E, c, hw.trans h1, hB, h2, fun i k v hv => let ⟨e, a, b, d⟩ := h3 i k v hv; ⟨e, a, conc_mono hφ b, conc_mono hφ d⟩⟩
  | iter m =>
    cases m with
    | none => exact hw.trans h
    | some m =>
      obtain ⟨lm, c, h1, h2⟩ := h
      exact ⟨lm, c, hφ _ _ h1, hw.trans h2⟩
theorem BRel.lt {G : Gh} {φ : Mp} {x : B} {l : Loc} {w : World} (h : BRel G φ x l w) : l.blk < w.heap.size := by
  have key : ∀ o, w.heap[l.blk]? = some o → l.blk < w.heap.size := fun o ho => (Array.getElem?_eq_some_iff.1 ho).1
  cases x with
  | cells cs n sz ex => obtain ⟨C, e, h1, _⟩ := h; exact key _ h1
  | map es => obtain ⟨E, c, h1, _⟩ := h; exact key _ h1
  | iter m =>
    cases m with
    | none => exact key _ h
    | some m => obtain ⟨lm, c, _, h2⟩ := h; exact key _ h2
theorem HRel.foot_lt {G : Gh} {φ : Mp} {h : H} {w : World} (r : HRel G φ h w) {k : Nat} (f : Foot φ h k) : k < w.heap.size := by
  obtain ⟨b, x, l, h1, h2, rfl⟩ := f
  exact (r.blk b x l h1 h2).lt

/-- A world that differs in blocks alone that are not live serves as well. -/
theorem HRel.frame {G : Gh} {φ ψ : Mp} {h : H} {w w' : World} (r : HRel G φ h w) (hφ : φ.le ψ) (hlive : ∀ b x l, h.t.get b = some x → ψ b = some l → φ b = some l)
    (hw : ∀ k, Foot φ h k → w'.heap[k]? = w.heap[k]?) : HRel G ψ h w' :=
  ⟨fun b x l hb hl => (r.blk b x l hb (hlive b x l hb hl)).mono hφ (hw _ ⟨b, x, l, hb, hlive b x l hb hl, rfl⟩),
   fun b b' x x' l l' h1 h2 h3 h4 => r.inj b b' x x' l l' h1 h2 (hlive _ _ _ h1 h3) (hlive _ _ _ h2 h4), r.fresh⟩
end Go.Proofs.YtjpkfdmjhgnmbaaGreat.Gv
