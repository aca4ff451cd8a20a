/- Frames of which not all is known, and a row that is told by its parts: code's run over them. -/
import Derived.Test.YtmfmjhklajmhoaaGreatGvNores
import Derived.Laws.OwnMore
import Derived.Shelf.SlSortCmp.WholeK
namespace Go.Proofs.YtmfmjhklajmhoaaGreat.Gv
open Go
def wild : V := .tuple [.undef]
noncomputable def isW (v : V) : Bool := match v with | .tuple l => (match l with | x :: _ => (match x with | .undef => true | _ => false) | [] => false) | _ => false
inductive WX where
 | nx (s : Fr) (h : H) (bt : List Nat) (bl : List V)
 | ex (id : Nat) (s : Fr) (h : H) (bt : List Nat) (bl : List V)
 | rt (s : Fr) (h : H) (bt : List Nat) (bl : List V)
 | bad (w : String) (x : Nat)
structure RowC where
 el : Nat
 k : Nat
 bytes : Nat
 tot : Option (List (List V))
 sf : Nat
 cmp : V
noncomputable def nonW (s : Fr) (ts : List Nat) : Bool := List.rec (motive := fun _ => Bool) true (fun t _ ih => bif isW ((Fr.get t).v s) then false else ih) ts
noncomputable def putW (n : Nat) (d : Option Nat) (v : V) (s : Fr) : Option Fr := match putD n d with | some p => some (p.v v s) | none => none
noncomputable def outN (d : Option Nat) (l : List Nat) : List Nat := match d with | some d => l.filter fun t => !Nat.beq t d | none => l
noncomputable def allPut (n : Nat) (v : V) (s : Fr) (l : List Nat) : Option Fr :=
 List.rec (motive := fun _ => Option Fr) (some s) (fun t _ ih => match ih with | some s => putW n (some t) v s | none => none) l
inductive BO where
 | no
 | move
 | app (t : Nat) (x : Operand)
 | sort
noncomputable def isFn (v : V) (g : Nat) : Bool := match v with | .func (.func k) [] [] => Nat.beq k g | _ => false
noncomputable def boOf (R : RowC) (bt : List Nat) (o : Oper) : BO :=
 match o.op with
 | .move (.tmp t) => bif hasN t bt then .move else .no
 | .assign (.tmp t) => bif hasN t bt then .move else .no
 | .call c => (match c.callee, c.args.toList with
   | .builtin .append, [.tmp t, x] => bif hasN t bt then (match c.argTypes.toList with | [a, b] => bif Nat.beq a b then .app a x else .no | _ => .no) else .no
   | .value (.func f), [.tmp t, .func g] => bif hasN t bt && Nat.beq f R.sf && isFn R.cmp g then .sort else .no
   | _, _ => .no)
 | _ => .no
noncomputable def appW (E : Env) (R : RowC) (t : Nat) (y : V) (h : H) (k : List V → WX) : WX :=
 match (E.tyOf t).k with
 | .slice e => bif Nat.beq e R.el && (Nat.beq (E.tyOf e).size R.k && (Nat.beq (E.tyOf e).bytes R.bytes && (Nat.blt 0 R.k && Nat.ble R.bytes 1000))) then (match (E.tyOf e).zero with
   | some z => bif Nat.beq z.cells.length R.k then (match y with
     | .slice b off m _ _ => (match h.t.get b with
       | some (.cells cs n _ _) => bif Nat.ble (off + m * R.k) n then (match T.range cs (m * R.k) off with
         | some new => bif areCells new then k new else .bad "row: cells" 0
         | none => .bad "row: cells" 1) else .bad "row: range" 0
       | _ => .bad "row: dead" 0)
     | _ => .bad "row: what is laid" 0) else .bad "row: zero" 1
   | none => .bad "row: zero" 0) else .bad "row: type" 1
 | _ => .bad "row: type" 0
noncomputable def opW (E : Env) (R : RowC) (n : Nat) (all : List Oper) (o : Oper) (call : Call) (s : Fr) (h : H) (bt : List Nat) (bl : List V) : WX :=
 match boOf R bt o with
 | .no => bif notSel o && nonW s (looksL all o) then (match (stepF E o).v call ((pickF (looksL all o)).v s) h with
   | .ok v h1 => bif Nat.ble h.next h1.next then (match putW n o.dst v s with | some s' => .nx s' h1 (outN o.dst bt) bl | none => .bad "dst" 0) else .bad "next" 0
   | .bad w x => .bad w x) else .bad "wild" 0
 | .move => (match putW n o.dst wild s with
   | some s' => .nx s' h (match o.dst with | some d => d :: bt | none => bt) bl
   | none => .bad "dst" 1)
 | .app t x => bif okOpn x then appW E R t ((opn x).v s) h fun new => bif Nat.ble (bl.length + new.length) 1000000 then (match putW n o.dst wild s with
   | some s' => .nx s' h (match o.dst with | some d => [d] | none => []) (bl ++ new)
   | none => .bad "dst" 2) else .bad "row: long" 0 else .bad "wild" 1
 | .sort => (match R.tot, bl with
   | some rows, [] => (match allPut n (.slice h.next 0 rows.length rows.length true) s bt with
     | some s1 => (match putW n o.dst .undef s1 with
       | some s' => .nx s' (h.new (.cells (T.ofList (List.flatten rows)) (rows.length * R.k) R.k false)) [] []
       | none => .bad "dst" 3)
     | none => .bad "dst" 4)
   | _, _ => .bad "row: sort" 0)
noncomputable def opsW (E : Env) (R : RowC) (n : Nat) (all : List Oper) (call : Call) (l : List Oper) : Fr → H → List Nat → List V → WX :=
 List.rec (motive := fun _ => Fr → H → List Nat → List V → WX) (fun s h bt bl => .nx s h bt bl)
  (fun o _ ih s h bt bl => match o.guard with
   | none => (match opW E R n all o call s h bt bl with
     | .nx s h bt bl => ih s h bt bl
     | r => r)
   | some (j, want) => (match dstOf all j with
     | none => .bad "guard" j
     | some d => bif Nat.blt d 4096 then (match (Fr.get d).v s with
       | .bool b => (match b == want with
         | true => (match opW E R n all o call s h bt bl with
           | .nx s h bt bl => ih s h bt bl
           | r => r)
         | false => (match putW n o.dst .undef s with | some s' => ih s' h (outN o.dst bt) bl | none => .bad "dst" 5))
       | .undef => (match putW n o.dst .undef s with | some s' => ih s' h (outN o.dst bt) bl | none => .bad "dst" 5)
       | _ => .bad "guard" j) else .bad "guard" j)) l
noncomputable def codeW (E : Env) (R : RowC) (n : Nat) (call : Call) (c : Code) : Fr → H → List Nat → List V → WX :=
 Code.rec (motive := fun _ => Fr → H → List Nat → List V → WX)
  (fun s h bt bl => .nx s h bt bl)
  (fun _ ops draw => match draw with | true => fun _ _ _ _ => .bad "row: draw" 0 | false => opsW E R n ops.toList call ops.toList)
  (fun _ _ ia ib s h bt bl => match ia s h bt bl with
   | .nx s h bt bl => ib s h bt bl
   | r => r)
  (fun c _ _ ia ib s h bt bl => match c with
   | .tmp t => bif Nat.blt t 4096 then (match (Fr.get t).v s with
     | .bool true => ia s h bt bl
     | .bool false => ib s h bt bl
     | _ => .bad "cond" 0) else .bad "cond" 2
   | _ => .bad "cond" 1)
  (fun id _ ib s h bt bl => match ib s h bt bl with
   | .ex j s h bt bl => bif Nat.beq j id then .nx s h bt bl else .ex j s h bt bl
   | r => r)
  (fun _ _ _ _ _ _ => .bad "row: loop" 0)
  (fun _ _ _ _ _ _ _ _ _ _ => .bad "rangeFunc" 0)
  (fun id s h bt bl => .ex id s h bt bl)
  (fun _ _ _ _ _ _ => .bad "scope" 0)
  (fun _ s h bt bl => .nx s h bt bl)
  (fun _ _ _ _ _ => .bad "goto" 0)
  (fun s h bt bl => .rt s h bt bl)
  (fun _ _ _ _ _ => .bad "refuse" 0) c
section
variable {E : Env} {P : Program} {G : Gh} {φ : Mp} {h h' : H} {w w' : World} {s : Fr} {a : Act} {v : V} {o : Oper}
def WRel (G : Gh) (φ : Mp) (s : Fr) (tmps : Array Value) : Prop := ∀ t, t < 4096 → isW ((Fr.get t).v s) = true ∨ conc G φ ((Fr.get t).v s) = some (tmps.getD t undef)
def RowRel (G : Gh) (φ : Mp) (R : RowC) (base : Nat) (R0 : List Value) (h : H) (bt : List Nat) (bl : List V) (tmps : Array Value) (w : World) : Prop :=
 bt = [] ∨ ∃ v n us, concL G φ bl = some us ∧ w.ownsRow base R.el R.k v n (R0 ++ us) ∧ (v = .slice none 0 0 ↔ n = 0) ∧ (∀ t ∈ bt, t < 4096 ∧ tmps.getD t undef = v) ∧ ∀ g, v.ownBlock = some g → ¬ Foot φ h g
structure WFrame (G : Gh) (base : Nat) (φ : Mp) (h : H) (w w' : World) : Prop where
 drawn : G.mono → w.drawn ≤ w'.drawn
 os : w'.os = w.os
 tape : w'.tape = w.tape
 output : w'.output = w.output
 size : w.heap.size ≤ w'.heap.size
 block : ∀ k, k < base → ¬ Foot φ h k → w'.heap[k]? = w.heap[k]?
structure WExt (base : Nat) (φ φ' : Mp) (h h' : H) : Prop where
 le : φ.le φ'
 new : ∀ b, φ b = none → (b < h.next ∨ h'.next ≤ b) → φ' b = none
 next : h.next ≤ h'.next
 foot : ∀ k, Foot φ' h' k → k < base → Foot φ h k
theorem WExt.refl (base : Nat) (φ : Mp) (h : H) : WExt base φ φ h h := ⟨Mp.le_refl _, fun _ e _ => e, Nat.le_refl _, fun _ f _ => f⟩
theorem WExt.trans {base : Nat} {φ φ' φ'' : Mp} {h h' h'' : H} (e : WExt base φ φ' h h') (e' : WExt base φ' φ'' h' h'') : WExt base φ φ'' h h'' :=
 ⟨Mp.le_trans e.le e'.le, fun b hb hr => by
  have h1 := e.next
  have h2 := e'.next
  exact e'.new b (e.new b hb (by omega)) (by omega), Nat.le_trans e.next e'.next, fun k hk hw => e.foot k (e'.foot k hk hw) hw⟩
theorem Ext.wild {φ' : Mp} (x : Ext φ φ' h h' w) {base : Nat} (hb : base ≤ w.heap.size) : WExt base φ φ' h h' := ⟨x.le, x.new, x.next, fun k hk hl => x.foot k hk (by omega)⟩
theorem Frame.wild (f : Frame G φ h w w') {base : Nat} (hb : base ≤ w.heap.size) : WFrame G base φ h w w' := ⟨f.drawn, f.os, f.tape, f.output, f.size, fun k hk hn => f.block k (by omega) hn⟩
theorem WFrame.refl (base : Nat) : WFrame G base φ h w w := ⟨fun _ => Nat.le_refl _, rfl, rfl, rfl, Nat.le_refl _, fun _ _ _ => rfl⟩
theorem WFrame.trans {base : Nat} {φ1 : Mp} {h1 : H} {w1 w2 : World} (f : WFrame G base φ h w w1) (x : WExt base φ φ1 h h1) (g : WFrame G base φ1 h1 w1 w2) : WFrame G base φ h w w2 :=
 ⟨fun hm => Nat.le_trans (f.drawn hm) (g.drawn hm), g.os.trans f.os, g.tape.trans f.tape, g.output.trans f.output, Nat.le_trans f.size g.size, fun k hk hn =>
  (g.block k hk fun hf => hn (x.foot k hf hk)).trans (f.block k hk hn)⟩
def WLeft (G : Gh) (R : RowC) (base : Nat) (R0 : List Value) (φ : Mp) (h : H) (w : World) (a : Act) (s' : Fr) (h' : H) (bt' : List Nat) (bl' : List V) (a' : Act) (w' : World) : Prop :=
 ∃ φ', WRel G φ' s' a'.tmps ∧ RowRel G φ' R base R0 h' bt' bl' a'.tmps w' ∧ HRel G φ' h' w' ∧ WFrame G base φ h w w' ∧ WExt base φ φ' h h' ∧ a'.defers = a.defers ∧ a'.tmps.size = a.tmps.size
theorem WLeft.trans {R : RowC} {base : Nat} {R0 : List Value} {φ1 : Mp} {h1 : H} {w1 : World} {a1 a2 : Act} {s2 : Fr} {h2 : H} {w2 : World} {bt bl} (f : WFrame G base φ h w w1) (x : WExt base φ φ1 h h1) (hd : a1.defers = a.defers) (hz : a1.tmps.size = a.tmps.size)
 (l : WLeft G R base R0 φ1 h1 w1 a1 s2 h2 bt bl a2 w2) : WLeft G R base R0 φ h w a s2 h2 bt bl a2 w2 := by
 obtain ⟨φ2, T, B, r, f2, x2, hd2, hz2⟩ := l
 exact ⟨φ2, T, B, r, f.trans x f2, x.trans x2, hd2.trans hd, hz2.trans hz⟩
theorem ownsRow_of_block {w w' : World} {base e k n : Nat} {v : Value} {xs : List Value} (h : w.ownsRow base e k v n xs) (hb : ∀ g, v.ownBlock = some g → w'.heap[g]? = w.heap[g]?) : w'.ownsRow base e k v n xs := by
 refine ⟨h.1, ?_⟩
 rcases h.2 with hn | ⟨g, cap, cur, rfl, h1, h2, h3⟩
 · exact .inl hn
 · exact .inr ⟨g, cap, cur, rfl, h1, (hb g rfl).trans h2, h3⟩
theorem RowRel.kept {R : RowC} {base : Nat} {R0 : List Value} {bt : List Nat} {bl : List V} {φ' : Mp} {w' : World} {tmps' : Array Value} (hr : RowRel G φ R base R0 h bt bl a.tmps w) (f : Frame G φ h w w') (x : Ext φ φ' h h' w)
 {bt' : List Nat} (ht : ∀ t ∈ bt', t ∈ bt ∧ tmps'.getD t undef = a.tmps.getD t undef) : RowRel G φ' R base R0 h' bt' bl tmps' w' := by
 rcases hr with rfl | ⟨v, n, us, h1, h2, h0, h3, h4⟩
 · refine .inl ?_
   cases bt' with
   | nil => rfl
   | cons t l => have := (ht t (by simp)).1; cases this
 · refine .inr ⟨v, n, us, concL_mono x.le h1, ownsRow_of_block h2 fun g hg => f.block g (h2.lt g hg).2 (h4 g hg), h0, fun t htm => ⟨(h3 t (ht t htm).1).1, (ht t htm).2.trans (h3 t (ht t htm).1).2⟩, fun g hg hf => h4 g hg (x.foot g hf (h2.lt g hg).2)⟩
theorem nonW_ok {s : Fr} : ∀ {ts : List Nat}, nonW s ts = true → ∀ t ∈ ts, isW ((Fr.get t).v s) = false
 | [], _, t, ht => by cases ht
 | x :: ts, e, t, ht => by
   have e : (bif isW ((Fr.get x).v s) then false else nonW s ts) = true := e
   cases hx : isW ((Fr.get x).v s) with
   | true => rw [hx] at e; cases e
   | false =>
     rw [hx, cond_false] at e
     rcases List.mem_cons.1 ht with rfl | ht
     · exact hx
     · exact nonW_ok e t ht
theorem WRel.mono {φ' : Mp} {tm : Array Value} (T : WRel G φ s tm) (hφ : φ.le φ') : WRel G φ' s tm := fun t ht => (T t ht).imp_right fun h => conc_mono hφ h
theorem WRel.looks {ts : List Nat} (T : WRel G φ s a.tmps) (hn : nonW s ts = true) : Looks G φ s a ts := fun t ht h4 => by
 rcases T t h4 with h | h
 · rw [nonW_ok hn t ht] at h; cases h
 · exact h
theorem TRel.wild (T : TRel G φ s a.tmps) : WRel G φ s a.tmps := fun t ht => .inr (T t ht)
theorem isW_wild : isW wild = true := rfl
theorem putW_ok {d : Option Nat} {s' : Fr} {x : V} {u : Value} (e : putW a.tmps.size d x s = some s') (T : WRel G φ s a.tmps) (hv : isW x = true ∨ conc G φ x = some u) :
 WRel G φ s' (a.put d u).tmps ∧ (a.put d u).defers = a.defers ∧ (a.put d u).tmps.size = a.tmps.size ∧ (∀ d', d = some d' → d' < a.tmps.size ∧ d' < 4096) ∧
 (∀ t, t < 4096 → (∀ d', d = some d' → t ≠ d') → (a.put d u).tmps.getD t undef = a.tmps.getD t undef) ∧ (∀ d', d = some d' → (a.put d u).tmps.getD d' undef = u) := by
 unfold putW at e
 cases d with
 | none =>
   cases e
   exact ⟨T, rfl, rfl, (fun _ h => nomatch h), fun _ _ _ => rfl, fun _ h => nomatch h⟩
 | some d =>
   unfold putD at e
   cases hd : (Nat.blt d a.tmps.size && Nat.blt d 4096) with
   | false => simp only [hd] at e; cases e
   | true =>
     simp only [hd, cond_true] at e
     cases e
     rw [Bool.and_eq_true, nblt, nblt, decide_eq_true_eq, decide_eq_true_eq] at hd
     have hother : ∀ t, t ≠ d → (a.put (some d) u).tmps.getD t undef = a.tmps.getD t undef := fun t htd => by
      simp [Act.put, Array.getElem?_setIfInBounds_ne (Ne.symm htd)]
     have hself : (a.put (some d) u).tmps.getD d undef = u := by simp [Act.put, hd.1]
     refine ⟨fun t ht => ?_, rfl, by simp [Act.put], fun d' h => ?_, fun t ht h => hother t (h d rfl), fun d' h => by cases h; exact hself⟩
     · rw [Fr.get_set _ _ hd.2 ht]
       by_cases htd : t = d
       · subst htd
         rw [if_pos rfl, hself]
         exact hv
       · rw [if_neg htd, hother t htd]
         exact T t ht
     · cases h; exact hd
end
end Go.Proofs.YtmfmjhklajmhoaaGreat.Gv
namespace Go.Proofs.YtmfmjhklajmhoaaGreat.Gv
open Go
section
variable {E : Env} {P : Program} {G : Gh} {φ : Mp} {h h' : H} {w w' : World} {s s' : Fr} {a : Act} {v : V} {o : Oper} {R : RowC} {base : Nat} {R0 : List Value} {bt bt' : List Nat} {bl bl' : List V}
theorem bif1 {b : Bool} {x y : BO} (h : (bif b then x else .no) = y) (hy : y ≠ .no) : y = x ∧ b = true := by
 cases b
 · exact absurd h.symm hy
 · exact ⟨h.symm, rfl⟩
theorem bif2 {b c : Bool} {x y : BO} (h : (bif b then (bif c then x else .no) else .no) = y) (hy : y ≠ .no) : y = x ∧ b = true ∧ c = true := by
 obtain ⟨h1, h2⟩ := bif1 h hy
 obtain ⟨h3, h4⟩ := bif1 h1.symm hy
 exact ⟨h3, h2, h4⟩
theorem boOf_move (e : boOf R bt o = .move) : ∃ t, (o.op = .move (.tmp t) ∨ o.op = .assign (.tmp t)) ∧ t ∈ bt := by
 unfold boOf at e
 split at e
 · rename_i t ho
   have hh := (bif1 e (by nofun)).2
   rw [hasN_ok] at hh
   exact ⟨t, .inl ho, by simpa using hh⟩
 · rename_i t ho
   have hh := (bif1 e (by nofun)).2
   rw [hasN_ok] at hh
   exact ⟨t, .inr ho, by simpa using hh⟩
 · split at e
   · split at e
     · exact nomatch (bif2 e (by nofun)).1
     · exact nomatch (bif1 e (by nofun)).1
   · exact nomatch (bif1 e (by nofun)).1
   · cases e
 · cases e
theorem boOf_app {x : Operand} {t0 : Nat} (e : boOf R bt o = .app t0 x) : ∃ c t, o.op = .call c ∧ c.callee = .builtin .append ∧ c.args.toList = [.tmp t, x] ∧ t ∈ bt ∧ c.argTypes.toList = [t0, t0] := by
 unfold boOf at e
 split at e
 · exact nomatch (bif1 e (by nofun)).1
 · exact nomatch (bif1 e (by nofun)).1
 · rename_i c ho
   split at e
   · rename_i t y hc ha
     split at e
     · rename_i p q ht
       obtain ⟨h1, h2, h3⟩ := bif2 e (by nofun)
       cases h1
       rw [nbeq, decide_eq_true_eq] at h3
       subst h3
       rw [hasN_ok] at h2
       exact ⟨c, t, ho, hc, ha, by simpa using h2, ht⟩
     · exact nomatch (bif1 e (by nofun)).1
   · exact nomatch (bif1 e (by nofun)).1
   · cases e
 · cases e
theorem isFn_ok {x : V} {g : Nat} (e : isFn x g = true) : x = .func (.func g) [] [] := by
 unfold isFn at e
 split at e
 · rw [nbeq, decide_eq_true_eq] at e; rw [e]
 · cases e
theorem boOf_sort (e : boOf R bt o = .sort) : ∃ c t g, o.op = .call c ∧ c.callee = .value (.func R.sf) ∧ c.args.toList = [.tmp t, .func g] ∧ t ∈ bt ∧ R.cmp = .func (.func g) [] [] := by
 unfold boOf at e
 split at e
 · exact nomatch (bif1 e (by nofun)).1
 · exact nomatch (bif1 e (by nofun)).1
 · rename_i c ho
   split at e
   · split at e
     · exact nomatch (bif2 e (by nofun)).1
     · exact nomatch (bif1 e (by nofun)).1
   · rename_i f t g hc ha
     have hq := (bif1 e (by nofun)).2
     rw [Bool.and_eq_true, Bool.and_eq_true, nbeq, decide_eq_true_eq, hasN_ok] at hq
     obtain ⟨⟨h1, h2⟩, h3⟩ := hq
     subst h2
     exact ⟨c, t, g, ho, hc, ha, by simpa using h1, isFn_ok h3⟩
   · cases e
 · cases e
theorem mem_outN {d : Option Nat} {l : List Nat} {t : Nat} (h : t ∈ outN d l) : t ∈ l ∧ ∀ d', d = some d' → t ≠ d' := by
 unfold outN at h
 cases d with
 | none => exact ⟨h, fun _ e => nomatch e⟩
 | some d =>
   obtain ⟨h1, h2⟩ := List.mem_filter.1 h
   refine ⟨h1, fun d' e => ?_⟩
   cases e
   rw [nbeq] at h2
   simpa using h2
theorem opnW {x : Operand} (T : WRel G φ s a.tmps) (hx : okOpn x = true) (hw : isW ((opn x).v s) = false) : conc G φ ((opn x).v s) = some (a.eval x) := by
 cases x with
 | tmp t =>
   rw [okOpn, nblt, decide_eq_true_eq] at hx
   rcases T t hx with h | h
   · have : isW ((Fr.get t).v s) = false := hw
     rw [h] at this; cases this
   · exact h
 | const c =>
   have T0 : TRel G φ Fr.new (⟨#[], []⟩ : Act).tmps := fun t ht => by rw [Fr.get_new t ht, conc]; rfl
   have h1 := opn_ok (o := .const c) T0 hx
   have h2 : (opn (.const c)).v s = (opn (.const c)).v Fr.new := by
    unfold opn
    dsimp only
    split <;> rfl
   rw [h2, h1]; rfl
 | global g => cases hx
 | func f =>
   have T0 : TRel G φ Fr.new (⟨#[], []⟩ : Act).tmps := fun t ht => by rw [Fr.get_new t ht, conc]; rfl
   have h1 := opn_ok (o := .func f) T0 hx
   have h2 : (opn (.func f)).v s = (opn (.func f)).v Fr.new := rfl
   rw [h2, h1]; rfl
theorem opW_no (ok : EnvOk E P G) {call : Call} (ck : CallOk P G call) {all : List Oper} {h1 : H} (hs : notSel o = true) (hn : nonW s (looksL all o) = true) (e : (stepF E o).v call ((pickF (looksL all o)).v s) h = .ok v h1)
 (T : WRel G φ s a.tmps) (B : RowRel G φ R base R0 h bt bl a.tmps w) (r : HRel G φ h w) (hf : Free φ h.next h1.next) (hb : base ≤ w.heap.size) (hp : putW a.tmps.size o.dst v s = some s') :
 Gives P (fun u w' => WLeft G R base R0 φ h w a s' h1 (outN o.dst bt) bl (a.put o.dst u) w') ((execOp a.eval o).run P w) := by
 obtain ⟨a', T', hag⟩ := pick_rel (looks_lt (stepF_opn e)) (T.looks hn)
 have g := step_ok ok ck T' r hf e
 rw [exec_pick (a := a) hs hag] at g
 refine g.mono ?_
 rintro u w' ⟨φ', hv, r', f, x⟩
 obtain ⟨T1, hd, hz, _, hoth, _⟩ := putW_ok hp (T.mono x.le) (.inr hv)
 refine ⟨φ', T1, B.kept f x fun t ht => ?_, r', f.wild hb, x.wild hb, hd, hz⟩
 obtain ⟨h2, h3⟩ := mem_outN ht
 refine ⟨h2, ?_⟩
 rcases B with rfl | ⟨_, _, _, _, _, _, h4, _⟩
 · cases h2
 · exact hoth t (h4 t h2).1 h3
theorem opW_move {t : Nat} (ho : o.op = .move (.tmp t) ∨ o.op = .assign (.tmp t)) (ht : t ∈ bt) (T : WRel G φ s a.tmps) (B : RowRel G φ R base R0 h bt bl a.tmps w) (r : HRel G φ h w) (hp : putW a.tmps.size o.dst wild s = some s') :
 Gives P (fun u w' => WLeft G R base R0 φ h w a s' h (match o.dst with | some d => d :: bt | none => bt) bl (a.put o.dst u) w') ((execOp a.eval o).run P w) := by
 have hrun : (execOp a.eval o).run P w = .ok (.value (a.tmps.getD t undef)) w := by rcases ho with ho | ho <;> simp [execOp, ho, Act.eval]
 rw [hrun]
 obtain ⟨T1, hd, hz, hlt, hoth, hself⟩ := putW_ok (u := a.tmps.getD t undef) hp T (.inl isW_wild)
 refine ⟨φ, T1, ?_, r, WFrame.refl _, WExt.refl _ _ _, hd, hz⟩
 rcases B with rfl | ⟨v, n, us, h1, h2, h0, h3, h4⟩
 · cases ht
 · have hv := (h3 t ht).2
   refine .inr ⟨v, n, us, h1, h2, h0, fun q hq => ?_, h4⟩
   have key : q ∈ bt → q < 4096 ∧ (a.put o.dst (a.tmps.getD t undef)).tmps.getD q undef = v := fun hqb => by
    refine ⟨(h3 q hqb).1, ?_⟩
    by_cases hqd : o.dst = some q
    · rw [hself q hqd]; exact hv
    · rw [hoth q (h3 q hqb).1 fun d' e1 e2 => hqd (by rw [e1, e2])]; exact (h3 q hqb).2
   cases hdst : o.dst with
   | none => rw [hdst] at hq key; exact key hq
   | some d =>
     rw [hdst] at hq key hlt hself
     rcases List.mem_cons.1 hq with rfl | hq
     · exact ⟨(hlt q rfl).2, (hself q rfl).trans hv⟩
     · exact key hq
theorem append_block {t ty e : TypeId} {i : TypeInfo} {z : Value} {size bytes : Nat} (ht : P.underlying t = some (.slice e)) (hi : P.info? e = some i) (hz : i.zero = some z)
 (hsize : i.size = size) (hby : i.bytes = bytes) {u u' : Value} {n : Nat} {xs : List Value} (hown : w.ownsRow base e size u n xs)
 {p : Addr} {m c : Nat} {news : List Value} (hl : news.length = m * size) (hnews : ∀ j x, news[j]? = some x → w.cell? (p.add j) = some x) (h1 : ∀ x ∈ news, x.oneCell' = true)
 (h63 : n + m ≤ maxLen) (hbytes : (n + m) * bytes ≤ 140737488355328) (hrun : (Builtin.append_ #[t, t] ty #[u, .slice (some p) m c]).run P w = .ok u' w') :
 u'.ownBlock = none ∨ u'.ownBlock = u.ownBlock ∨ u'.ownBlock = some w.heap.size := by
 subst hsize
 subst hby
 have hsmall : n + m ≤ 9223372036854775807 := by simp only [maxLen] at h63; omega
 rcases hown.2 with ⟨rfl, rfl⟩ | ⟨g, cap, cur, rfl, _, hg, hnc, _, hcs, _⟩
 · by_cases hm : m = 0
   · subst hm
     have hn : news = [] := List.eq_nil_of_length_eq_zero (by simpa using hl)
     subst hn
     simp [Builtin.append_, run_underlying ht, sizeOf, typeInfo, hi, Builtin.lenOf, Builtin.firstCells, loadCells, loadCellsFrom] at hrun
     rw [← hrun.1]
     exact .inl rfl
   · rw [run_append_nil (P := P) w t ty e i z ht hi hz p m c news hl hnews (by omega) (by omega) (by have hb := hbytes; simp only [Nat.zero_add] at hb; omega)] at hrun
     cases hrun
     exact .inr (.inr rfl)
 · by_cases hroom : n + m ≤ cap
   · have hfit : n * i.size + news.length ≤ cur.size := by rw [hl, hcs, ← Nat.add_mul]; exact Nat.mul_le_mul_right _ hroom
     rw [run_append_room (P := P) w t ty e i ht hi g n cap cur hg p m c news hl hnews h1 hroom hfit] at hrun
     cases hrun
     exact .inr (.inl rfl)
   · have holds : ∀ j x, xs[j]? = some x → w.cell? ((⟨g, 0, none⟩ : Addr).add j) = some x := hown.cells (g := g) rfl
     rw [run_append_grow (P := P) w t ty e i z ht hi hz ⟨g, 0, none⟩ n cap xs hown.1 holds p m c news hl hnews (by omega) (by omega) (growslice_fits (by omega) hbytes)] at hrun
     cases hrun
     exact .inr (.inr rfl)
theorem opW_app (ok : EnvOk E P G) (hm : ¬ G.mono) {c : Go.Call} {x : Operand} {t t0 : Nat} (ho : o.op = .call c) (hc : c.callee = .builtin .append) (ha : c.args.toList = [.tmp t, x]) (htb : t ∈ bt) (hat : c.argTypes.toList = [t0, t0])
 (hx : okOpn x = true) {k : List V → WX} {z : WX} (hz : ∀ m i, z ≠ .bad m i) (e : appW E R t0 ((opn x).v s) h k = z) (T : WRel G φ s a.tmps) (B : RowRel G φ R base R0 h bt bl a.tmps w) (r : HRel G φ h w) (hb : base ≤ w.heap.size) (hR : R0.length ≤ 1000000) :
 ∃ new, k new = z ∧ ((bl.length + new.length ≤ 1000000) → putW a.tmps.size o.dst wild s = some s' →
  Gives P (fun u w' => WLeft G R base R0 φ h w a s' h (match o.dst with | some d => [d] | none => []) (bl ++ new) (a.put o.dst u) w') ((execOp a.eval o).run P w)) := by
 unfold appW at e
 simp only [ok.ty] at e
 have nob : ∀ m i, WX.bad m i = z → False := fun m i h => hz m i h.symm
 split at e
 · rename_i el hk
   have hu := k_slice hk
   cases hg : (Nat.beq el R.el && (Nat.beq (mkTI P el).size R.k && (Nat.beq (mkTI P el).bytes R.bytes && (Nat.blt 0 R.k && Nat.ble R.bytes 1000)))) with
   | false => rw [hg] at e; exact (nob _ _ e).elim
   | true =>
     rw [hg, cond_true] at e
     simp only [Bool.and_eq_true, nbeq, nble, nblt, decide_eq_true_eq] at hg
     obtain ⟨g1, g2, g3, g4, g5⟩ := hg
     subst g1
     split at e
     · rename_i zz hzz
       obtain ⟨i, zv, hi, hz', habs, hsz, hby⟩ := zero_ok hzz
       cases hzl : Nat.beq zz.cells.length R.k with
       | false => rw [hzl] at e; exact (nob _ _ e).elim
       | true =>
         rw [hzl, cond_true] at e
         rw [nbeq, decide_eq_true_eq] at hzl
         have hzc := cells_conc2 (absV_ok G φ 4 _ _ habs) (absV_narrow habs)
         have hzs : zv.cells.size = R.k := by
          have := concL_length hzc
          simp only [Array.length_toList] at this
          rw [this, hzl]
         split at e
         · rename_i b off m cp xx hy
           split at e
           · rename_i cs n sz ex hcell
             cases hrg : Nat.ble (off + m * R.k) n with
             | false => rw [hrg] at e; exact (nob _ _ e).elim
             | true =>
               rw [hrg, cond_true] at e
               rw [nble, decide_eq_true_eq] at hrg
               split at e
               · rename_i new hnew
                 cases hcl : areCells new with
                 | false => rw [hcl] at e; exact (nob _ _ e).elim
                 | true =>
                   rw [hcl, cond_true] at e
                   refine ⟨new, e, fun hlen hp => ?_⟩
                   have hconc := opnW T hx (by rw [hy]; rfl)
                   rw [hy] at hconc
                   obtain ⟨lc, hlc, hux⟩ : ∃ lc, φ b = some lc ∧ a.eval x = .slice (some ⟨lc.blk, off, none⟩) m (bif xx then cp + lc.slack else cp) := by
                    rw [conc] at hconc
                    cases hb' : φ b with
                    | none => rw [hb'] at hconc; cases hconc
                    | some l => rw [hb'] at hconc; exact ⟨l, rfl, (Option.some.inj hconc).symm⟩
                   obtain ⟨us', hus', hulen, hucell⟩ := r.row hcell hlc hrg hnew
                   rcases B with rfl | ⟨v, nn, us, h1, h2, h0, h3, h4⟩
                   · cases htb
                   · have hxs : (R0 ++ us).length = nn * R.k := h2.1
                     have hblu := concL_length h1
                     have hnn : nn ≤ 2000000 := by
                      have h5 : nn * 1 ≤ nn * R.k := Nat.mul_le_mul_left _ g4
                      rw [List.length_append] at hxs
                      omega
                     have hmm : m ≤ 1000000 := by
                      have h5 : m * 1 ≤ m * R.k := Nat.mul_le_mul_left _ g4
                      have h6 := (Gv.T.range_some hnew).1
                      omega
                     obtain ⟨v', w2, hrun, hown, hgr, hnil⟩ := run_append_own (P := P) w base t0 o.type R.el i zv R.k R.bytes hu hi hz' (by rw [← g2, hsz]) (by rw [← g3, hby]) hzs g4 v nn (R0 ++ us) h2 ⟨lc.blk, off, none⟩ m (bif xx then cp + lc.slack else cp) us' hulen
                      (fun j u hj => by rw [Addr.add_lit]; exact hucell j u hj) (areCells_conc hcl hus') (by simp only [maxLen]; omega) (by
                       have : (nn + m) * R.bytes ≤ 3000000 * 1000 := Nat.mul_le_mul (by omega) g5
                       omega) hb
                     have hexec : (execOp a.eval o).run P w = .ok (.value v') w2 := by
                      have hargs : c.args.map a.eval = #[v, .slice (some ⟨lc.blk, off, none⟩) m (bif xx then cp + lc.slack else cp)] := by
                       apply Array.toList_inj.1
                       rw [Array.toList_map, ha]
                       simp only [List.map_cons, List.map_nil, hux]
                       rw [show a.eval (.tmp t) = a.tmps.getD t undef from rfl, (h3 t htb).2]
                      have hts : c.argTypes = #[t0, t0] := by
                       apply Array.toList_inj.1
                       rw [hat]
                      simp only [execOp, ho, resolve, hc, hargs, hts, invoke, Sem.run_bind, Sem.run_pure, builtin]
                      simp [hrun]
                     rw [hexec]
                     obtain ⟨T1, hd, hz2, hlt, hoth, hself⟩ := putW_ok (u := v') hp T (.inl isW_wild)
                     have hnf : ∀ k, Foot φ h k → w2.heap[k]? = w.heap[k]? := fun k hk => hgr.block k (r.foot_lt hk) fun e => h4 k e.symm hk
                     refine ⟨φ, T1, ?_, r.frame (Mp.le_refl _) (fun _ _ _ _ h => h) hnf, ⟨fun h => (hm h).elim, hgr.os, hgr.tape, hgr.output, hgr.size, fun k hk _ => hgr.block k (by omega) fun e => ?_⟩, WExt.refl _ _ _, hd, hz2⟩
                     · cases hdst : o.dst with
                       | none => exact .inl rfl
                       | some d =>
                         rw [hdst] at hlt hself
                         refine .inr ⟨v', nn + m, us ++ us', concL_append h1 hus', by rw [← List.append_assoc]; exact hown, by rw [hnil, h0]; omega, fun q hq => ?_, fun g hg hfo => ?_⟩
                         · have : q = d := by simpa using hq
                           subst this
                           exact ⟨(hlt q rfl).2, hself q rfl⟩
                         · have h8 := r.foot_lt hfo
                           rcases append_block (size := R.k) (bytes := R.bytes) hu hi hz' (by rw [← g2, hsz]) (by rw [← g3, hby]) h2 hulen (fun j u hj => by rw [Addr.add_lit]; exact hucell j u hj) (areCells_conc hcl hus') (by simp only [maxLen]; omega) (by
                            have : (nn + m) * R.bytes ≤ 3000000 * 1000 := Nat.mul_le_mul (by omega) g5
                            omega) hrun with h9 | h9 | h9
                           · rw [h9] at hg; cases hg
                           · rw [h9] at hg; exact h4 g hg hfo
                           · rw [h9] at hg
                             cases hg
                             omega
                     · have := h2.lt k e.symm
                       omega
               · exact (nob _ _ e).elim
           · exact (nob _ _ e).elim
         · exact (nob _ _ e).elim
     · exact (nob _ _ e).elim
 · exact (nob _ _ e).elim
end
end Go.Proofs.YtmfmjhklajmhoaaGreat.Gv
namespace Go.Proofs.YtmfmjhklajmhoaaGreat.Gv
open Go Go.Sort
def SortOk (P : Program) (f k : Nat) : Prop :=
 ∀ (enc : Nat → List Value), (∀ x, (enc x).length = k) → (∀ x, ∀ v ∈ enc x, v.oneCell' = true) → ∀ (cf : Nat → Nat → Int), SWO (ltOf cf) → ∀ (g : Nat) (cb : Array Value) (blk off cap : Nat) (d : Array Nat) (w : World),
  (∀ args w, (callFunc g args).run P w = .ok (.enter g args) w) → CmpLays P g cb enc k cf blk off d.size w → HoldsK enc k w blk off d → blk < w.heap.size → d.size < 4611686018427387904 →
  Calls P f #[.slice (some ⟨blk, off, none⟩) d.size cap, .func (.func g) #[] cb] w fun e w' =>
   e = .returned (.tuple #[]) ∧ ∃ d' n os, PermIn 0 d.size d d' ∧ SortedIn (ltOf cf) 0 d.size d' ∧ w' = sortWorldK enc k w blk off n d' os
theorem flat_get {α : Type} {k : Nat} (hk : 0 < k) : ∀ (L : List (List α)), (∀ c ∈ L, c.length = k) → ∀ j, j < L.length * k → L.flatten[j]? = (L[j / k]?).bind (·[j % k]?)
 | [], _, j, hj => by simp at hj
 | c :: L, hc, j, hj => by
   rw [List.flatten_cons, List.getElem?_append]
   have h1 := hc c (by simp)
   split
   · rename_i hl
     rw [h1] at hl
     rw [Nat.div_eq_of_lt hl, Nat.mod_eq_of_lt hl]
     simp
   · rename_i hl
     rw [h1] at hl ⊢
     have hj' : j - k < L.length * k := by
      rw [List.length_cons, Nat.add_mul] at hj
      omega
     rw [flat_get hk L (fun c hc' => hc c (by simp [hc'])) (j - k) hj']
     have e1 : j / k = (j - k) / k + 1 := by rw [Nat.div_eq_sub_div hk (by omega)]
     have e2 : j % k = (j - k) % k := by rw [Nat.mod_eq_sub_mod (by omega)]
     rw [e1, e2]
     simp
theorem flat_len {α : Type} {k : Nat} : ∀ (L : List (List α)), (∀ c ∈ L, c.length = k) → L.flatten.length = L.length * k
 | [], _ => by simp
 | c :: L, hc => by
   rw [List.flatten_cons, List.length_append, flat_len L (fun c hc' => hc c (by simp [hc'])), hc c (by simp), List.length_cons, Nat.add_mul]
   omega
theorem perm_range_sorted {n : Nat} {l : List Nat} (hp : l.Perm (List.range n)) (hs : l.Pairwise (fun a b => a ≤ b)) : l = List.range n :=
 hp.eq_of_pairwise (le := fun a b => a ≤ b) (fun a b _ _ h1 h2 => Nat.le_antisymm h1 h2) hs (by
  have := List.pairwise_lt_range (n := n)
  exact this.imp fun h => Nat.le_of_lt h)
section
variable {P : Program} {w : World}
theorem sort_row {f k g n : Nat} (S : SortOk P f k) (hk0 : 0 < k) {cr : Nat → List Value} (h0 : 0 < n) (hk : ∀ i, i < n → (cr i).length = k) (h1 : ∀ i, i < n → ∀ v ∈ cr i, v.oneCell' = true) {cf : Nat → Nat → Int}
 (hcf : ∀ i j, i < n → j < n → (cf i j < 0 ↔ i < j)) (eg : ∀ args w, (callFunc g args).run P w = .ok (.enter g args) w)
 (hcmp : ∀ i j, i < n → j < n → ∀ W, Calls P g #[.agg (cr i).toArray, .agg (cr j).toArray] W fun e W' => e = .returned (.int .i64 (cf i j)) ∧ ∃ q os, W' = grow (W.drewN q) os)
 {d : List Nat} (hd : d.Perm (List.range n)) {blk cap : Nat} {cur : Array Value} {el : Nat} (hrow : w.heap[blk]? = some (.cells cur el (0, 0))) (htake : cur.toList.take (n * k) = (d.map cr).flatten) (hsz : n * k ≤ cur.size) (hn : n < 4611686018427387904) :
 Calls P f #[.slice (some ⟨blk, 0, none⟩) n cap, .func (.func g) #[] #[]] w fun e w' => e = .returned (.tuple #[]) ∧
  ∃ cur', w'.heap[blk]? = some (.cells cur' el (0, 0)) ∧ cur'.size = cur.size ∧ cur'.toList.take (n * k) = ((List.range n).map cr).flatten ∧
   w'.os = w.os ∧ w'.tape = w.tape ∧ w'.output = w.output ∧ w.heap.size ≤ w'.heap.size ∧ ∀ j, j < w.heap.size → j ≠ blk → w'.heap[j]? = w.heap[j]? := by
 have hcl : ∀ x, min x (n - 1) < n := fun x => by omega
 have hdl : d.length = n := by have := hd.length_eq; simpa using this
 have hdm : ∀ i, i ∈ d → i < n := fun i hi => List.mem_range.1 (hd.mem_iff.1 hi)
 have hblk : blk < w.heap.size := (Array.getElem?_eq_some_iff.1 hrow).1
 have hlt : ∀ x y, ltOf (fun x y => cf (min x (n - 1)) (min y (n - 1))) x y = decide (min x (n - 1) < min y (n - 1)) := fun x y => by
  unfold ltOf
  exact decide_eq_decide.2 (hcf _ _ (hcl x) (hcl y))
 have hO : SWO (ltOf (fun x y => cf (min x (n - 1)) (min y (n - 1)))) := by
  refine ⟨fun x => ?_, fun x y z => ?_, fun x y z => ?_⟩
  · rw [hlt]; simp
  · rw [hlt, hlt, hlt]; simp only [decide_eq_true_eq]; omega
  · rw [hlt, hlt, hlt]; simp only [decide_eq_false_iff_not]; omega
 have hmem : ∀ c ∈ d.map cr, c.length = k := fun c hc => by obtain ⟨i, hi, rfl⟩ := List.mem_map.1 hc; exact hk i (hdm i hi)
 have hF : ∀ (dd : List Nat), (∀ i ∈ dd, i < n) → dd.length = n → ∀ j, j < n * k → ((dd.map cr).flatten)[j]? = some (flatK (fun x => cr (min x (n - 1))) k dd.toArray)[j]! := by
  intro dd hdd hlen j hj
  have hmm : ∀ c ∈ dd.map cr, c.length = k := fun c hc => by obtain ⟨i, hi, rfl⟩ := List.mem_map.1 hc; exact hk i (hdd i hi)
  rw [flat_get hk0 _ hmm j (by rw [List.length_map, hlen]; exact hj), get_flatK _ _ _ _ (by simpa [hlen] using hj)]
  have hq : j / k < n := Nat.div_lt_of_lt_mul (by rw [Nat.mul_comm]; exact hj)
  have hi : dd[j / k]? = some dd[j / k]! := by
   rw [List.getElem?_eq_getElem (by omega), getElem!_pos dd (j / k) (by omega)]
  have hin : dd[j / k]! < n := hdd _ (List.mem_of_getElem? hi)
  rw [List.getElem?_map, hi]
  have hmn : min dd[j / k]! (n - 1) = dd[j / k]! := by omega
  have hr : j % k < (cr dd[j / k]!).length := by rw [hk _ hin]; exact Nat.mod_lt _ hk0
  show ((cr dd[j / k]!)[j % k]?) = _
  rw [List.getElem?_eq_getElem hr]
  have e1 : dd.toArray[j / k]! = dd[j / k]! := by simp
  rw [e1, hmn, getElem!_pos (cr dd[j / k]!) (j % k) hr]
 have hH : HoldsK (fun x => cr (min x (n - 1))) k w blk 0 d.toArray := by
  intro j hj
  rw [size_flatK] at hj
  simp only [List.size_toArray, hdl] at hj
  have h2 := hF d hdm hdl j hj
  rw [← htake, List.getElem?_take, if_pos hj] at h2
  refine ⟨?_, by simp [World.frozen?, hrow]⟩
  simp only [Array.getElem?_toList] at h2
  simp [World.cell?, hrow, h2]
 have hsd : d.toArray.size = n := by simp [hdl]
 have hcmp' : CmpLays P g #[] (fun x => cr (min x (n - 1))) k (fun x y => cf (min x (n - 1)) (min y (n - 1))) blk 0 d.toArray.size w := fun m os dk _ x y => by
  have := hcmp _ _ (hcl x) (hcl y) (sortWorldK (fun x => cr (min x (n - 1))) k w blk 0 m dk os)
  simpa using this
 have main := S (fun x => cr (min x (n - 1))) (fun x => hk _ (hcl x)) (fun x => h1 _ (hcl x)) (fun x y => cf (min x (n - 1)) (min y (n - 1))) hO g #[] blk 0 cap d.toArray w eg hcmp' hH hblk (by rw [hsd]; exact hn)
 rw [hsd] at main
 refine main.mono ?_
 rintro e w' ⟨rfl, d', m, os, hp, hs, rfl⟩
 refine ⟨rfl, ?_⟩
 have hd's : d'.size = n := by rw [hp.1, hsd]
 have hperm : d'.toList.Perm (List.range n) := by
  have h3 := hp.2.2
  rw [Array.extract_eq_self_of_le (by omega), Array.extract_eq_self_of_le (by omega)] at h3
  exact h3.trans hd
 have hlt' : ∀ i ∈ d'.toList, i < n := fun i hi => List.mem_range.1 (hperm.mem_iff.1 hi)
 have hsorted : d'.toList = List.range n := by
  refine perm_range_sorted hperm ?_
  rw [List.pairwise_iff_getElem]
  intro i j hi hj hij
  have hi' : i < d'.size := by simpa using hi
  have hj' : j < d'.size := by simpa using hj
  have h4 := hs i j (Nat.zero_le _) hij (by omega)
  rw [hlt, getElem!_pos d' j hj', getElem!_pos d' i hi'] at h4
  have h5 : d'[i] < n := hlt' _ (by simp)
  have h6 : d'[j] < n := hlt' _ (by simp)
  simp only [decide_eq_false_iff_not] at h4
  simp only [Array.getElem_toList]
  omega
 have hFs : (flatK (fun x => cr (min x (n - 1))) k d').size = n * k := by rw [size_flatK, hd's]
 have hd'a : d' = (List.range n).toArray := by apply Array.toList_inj.1; rw [hsorted]
 have hheap : (sortWorldK (fun x => cr (min x (n - 1))) k w blk 0 m d' os).heap = w.heap.modify blk (Go.Sort.onCells (putCells id 0 (flatK (fun x => cr (min x (n - 1))) k d'))) ++ os := rfl
 refine ⟨putCells id 0 (flatK (fun x => cr (min x (n - 1))) k d') cur, ?_, by simp [putCells], ?_, rfl, rfl, rfl, ?_, fun j hj hne => ?_⟩
 · rw [hheap, Array.getElem?_append_left (by simpa using hblk), Array.getElem?_modify, if_pos rfl, hrow]
   rfl
 · apply List.ext_getElem?
   intro j
   rw [List.getElem?_take]
   have hlf : (((List.range n).map cr).flatten).length = n * k := by
    have := flat_len (k := k) ((List.range n).map cr) (fun c hc => by obtain ⟨i, hi, rfl⟩ := List.mem_map.1 hc; exact hk i (List.mem_range.1 hi))
    simpa using this
   split
   · rename_i hj
     have hjc : j < cur.size := by omega
     have h7 := hF (List.range n) (fun i hi => List.mem_range.1 hi) (by simp) j hj
     rw [h7, ← hd'a]
     simp only [putCells, Array.getElem?_toList]
     rw [Array.getElem?_mapIdx, Array.getElem?_eq_getElem hjc]
     simp [hFs, hj]
   · rename_i hj
     rw [List.getElem?_eq_none (by omega)]
 · rw [hheap]; simp
 · rw [hheap, Array.getElem?_append_left (by simpa using hj), Array.getElem?_modify, if_neg (Ne.symm hne)]
end
end Go.Proofs.YtmfmjhklajmhoaaGreat.Gv
namespace Go.Proofs.YtmfmjhklajmhoaaGreat.Gv
open Go Go.Sort
structure TotOk (P : Program) (G : Gh) (R : RowC) (R0 : List Value) : Prop where
 tot : ∀ rows, R.tot = some rows → ∃ (g : Nat) (cr : Nat → List Value) (cf : Nat → Nat → Int) (d : List Nat), R.cmp = .func (.func g) [] [] ∧ 0 < rows.length ∧ rows.length ≤ 1000000 ∧ 0 < R.k ∧
  (∀ (i : Nat) row, rows[i]? = some row → row.length = R.k ∧ ∀ φ, concL G φ row = some (cr i)) ∧ (∀ i, i < rows.length → ∀ v ∈ cr i, v.oneCell' = true) ∧
  (∀ i j, i < rows.length → j < rows.length → (cf i j < 0 ↔ i < j)) ∧ (∀ args w, (callFunc g args).run P w = .ok (.enter g args) w) ∧
  (∀ i j, i < rows.length → j < rows.length → ∀ W, Calls P g #[.agg (cr i).toArray, .agg (cr j).toArray] W fun e W' => e = .returned (.int .i64 (cf i j)) ∧ ∃ q os, W' = grow (W.drewN q) os) ∧
  d.Perm (List.range rows.length) ∧ R0 = (d.map cr).flatten ∧ SortOk P R.sf R.k ∧ ∀ args w, (callFunc R.sf args).run P w = .ok (.enter R.sf args) w
section
variable {E : Env} {P : Program} {G : Gh} {φ : Mp} {h h' : H} {w w' : World} {s s' : Fr} {a : Act} {v : V} {o : Oper} {R : RowC} {base : Nat} {R0 : List Value} {bt bt' : List Nat} {bl bl' : List V}
theorem HRel.adopt (r : HRel G φ h w) (hw : ∀ k, Foot φ h k → w'.heap[k]? = w.heap[k]?) (hf : φ h.next = none) {x : B} {g sl : Nat} (hg : ¬ Foot φ h g) (hgb : base ≤ g) (hx : BRel G (φ.put h.next ⟨g, 0, sl⟩) x ⟨g, 0, sl⟩ w') :
 HRel G (φ.put h.next ⟨g, 0, sl⟩) (h.new x) w' ∧ WExt base φ (φ.put h.next ⟨g, 0, sl⟩) h (h.new x) := by
 have hle : φ.le (φ.put h.next ⟨g, 0, sl⟩) := Mp.le_put hf
 refine ⟨⟨?_, ?_, ?_⟩, ⟨hle, ?_, by simp [H.new], ?_⟩⟩
 · intro b y l hb' hl
   rcases get_new hb' with ⟨rfl, rfl⟩ | ⟨hne, hy⟩
   · rw [Mp.put_self] at hl; cases hl; exact hx
   · rw [Mp.put_other hne] at hl
     exact (r.blk b y l hy hl).mono hle (hw _ ⟨b, y, l, hy, hl, rfl⟩)
 · intro b1 b2 x1 x2 l1 l2 h1 h2 h3 h4 h5
   rcases get_new h1 with ⟨e1, _⟩ | ⟨n1, g1⟩
   · rcases get_new h2 with ⟨e2, _⟩ | ⟨n2, g2⟩
     · exact .inl (by rw [e1, e2])
     · rw [e1, Mp.put_self] at h3; cases h3
       rw [Mp.put_other n2] at h4
       exact absurd ⟨_, _, _, g2, h4, h5.symm⟩ hg
   · rw [Mp.put_other n1] at h3
     rcases get_new h2 with ⟨e2, _⟩ | ⟨n2, g2⟩
     · rw [e2, Mp.put_self] at h4; cases h4
       exact absurd ⟨_, _, _, g1, h3, h5⟩ hg
     · rw [Mp.put_other n2] at h4
       exact r.inj _ _ _ _ _ _ g1 g2 h3 h4 h5
 · intro b hb'
   cases hy : (h.new x).t.get b with
   | none => rfl
   | some y =>
     have hb'' : h.next + 1 ≤ b := hb'
     rcases get_new hy with ⟨rfl, _⟩ | ⟨_, hy⟩
     · omega
     · rw [r.fresh _ (by omega)] at hy; cases hy
 · intro b hb' hr
   rw [Mp.put_other (by simp only [H.new] at hr; omega)]; exact hb'
 · intro k ⟨b, y, l, h1, h2, h3⟩ hk
   rcases get_new h1 with ⟨rfl, _⟩ | ⟨hne, h1⟩
   · rw [Mp.put_self] at h2; cases h2; simp at h3; omega
   · rw [Mp.put_other hne] at h2; exact ⟨b, y, l, h1, h2, h3⟩
theorem allPut_ok {x : V} {u : Value} {tm : Array Value} {n : Nat} (hx : conc G φ x = some u) : ∀ {l : List Nat} {s s1 : Fr}, allPut n x s l = some s1 → WRel G φ s tm → (∀ t ∈ l, tm.getD t undef = u) → WRel G φ s1 tm
 | [], s, s1, e, T, _ => by cases e; exact T
 | t :: l, s, s1, e, T, ht => by
   have e : (match allPut n x s l with | some s => putW n (some t) x s | none => none) = some s1 := e
   cases hs : allPut n x s l with
   | none => rw [hs] at e; cases e
   | some s2 =>
     rw [hs] at e
     have T2 := allPut_ok hx hs T (fun q hq => ht q (by simp [hq]))
     dsimp only at e
     unfold putW putD at e
     cases hd : (Nat.blt t n && Nat.blt t 4096) with
     | false => simp only [hd] at e; cases e
     | true =>
       simp only [hd, cond_true] at e
       cases e
       rw [Bool.and_eq_true, nblt, nblt, decide_eq_true_eq, decide_eq_true_eq] at hd
       intro q hq
       rw [Fr.get_set _ _ hd.2 hq]
       by_cases hqt : q = t
       · subst hqt
         rw [if_pos rfl, ht q (by simp)]
         exact .inr hx
       · rw [if_neg hqt]
         exact T2 q hq
theorem opW_sort (hm : ¬ G.mono) {c : Go.Call} {t g : Nat} (ho : o.op = .call c) (hc : c.callee = .value (.func R.sf)) (ha : c.args.toList = [.tmp t, .func g]) (htb : t ∈ bt) (hcm : R.cmp = .func (.func g) [] [])
 {rows : List (List V)} (hrows : R.tot = some rows) {s1 : Fr} (hs1 : allPut a.tmps.size (.slice h.next 0 rows.length rows.length true) s bt = some s1) (hp : putW a.tmps.size o.dst .undef s1 = some s')
 (T : WRel G φ s a.tmps) (B : RowRel G φ R base R0 h bt [] a.tmps w) (r : HRel G φ h w) (hf : φ h.next = none) (hb : base ≤ w.heap.size) (tok : TotOk P G R R0) :
 Gives P (fun u w' => WLeft G R base R0 φ h w a s' (h.new (.cells (Gv.T.ofList (List.flatten rows)) (rows.length * R.k) R.k false)) [] [] (a.put o.dst u) w') ((execOp a.eval o).run P w) := by
 obtain ⟨g', cr, cf, d, hg', hn0, hnb, hk0, hrow, hone, hcf, heg, hcmp, hperm, hR0, hsort, hsf⟩ := tok.tot rows hrows
 rw [hcm] at hg'
 cases hg'
 rcases B with rfl | ⟨u, nn, us, h1, h2, h0, h3, h4⟩
 · cases htb
 · rw [concL_nil] at h1
   cases h1
   rw [List.append_nil] at h2
   have hcrl : ∀ i, i < rows.length → (cr i).length = R.k := fun i hi => by
    obtain ⟨q1, q2⟩ := hrow i rows[i] (by simp [hi])
    rw [concL_length (q2 φ), q1]
   have hdl : d.length = rows.length := by have := hperm.length_eq; simpa using this
   have hR0l : R0.length = rows.length * R.k := by
    rw [hR0, flat_len (k := R.k) _ (fun c hc' => by obtain ⟨i, hi, rfl⟩ := List.mem_map.1 hc'; exact hcrl i (List.mem_range.1 (hperm.mem_iff.1 hi))), List.length_map, hdl]
   have hnn : nn = rows.length := by
    have := h2.1
    rw [hR0l] at this
    exact (Nat.eq_of_mul_eq_mul_right hk0 this).symm
   subst hnn
   rcases h2.2 with ⟨_, hz⟩ | ⟨gb, cap, cur, hu, hgb, hheap, hcap, hcm2, hcs, htake⟩
   · omega
   · have hexec : (execOp a.eval o).run P w = .ok (.enter R.sf #[u, .func (.func g) #[] #[]]) w := by
      have hargs : c.args.map a.eval = #[u, .func (.func g) #[] #[]] := by
       apply Array.toList_inj.1
       rw [Array.toList_map, ha]
       simp only [List.map_cons, List.map_nil]
       rw [show a.eval (.tmp t) = a.tmps.getD t undef from rfl, (h3 t htb).2]
       rfl
      have hfv : a.eval (.func R.sf) = .func (.func R.sf) #[] #[] := rfl
      simp only [execOp, ho, resolve, hc, hargs, hfv, Deferred.ofValue]
      simpa [invoke] using hsf #[u, .func (.func g) #[] #[]] w
     rw [hexec]
     subst hu
     have main := sort_row (P := P) (w := w) hsort hk0 (n := rows.length) (cr := cr) hn0 hcrl hone hcf heg hcmp hperm hheap (by rw [htake, hR0]) (by rw [hcs]; exact Nat.mul_le_mul_right _ hcap) (by omega) (cap := cap)
     refine Calls.mono main ?_
     rintro e w2 ⟨rfl, cur', hh', hcs', htk', hos, htp, hout, hsz, hblk⟩
     refine ⟨_, rfl, ?_⟩
     have hgf : ¬ Foot φ h gb := h4 gb rfl
     have hrel : concL G (φ.put h.next ⟨gb, 0, cap - rows.length⟩) (List.flatten rows) = some (((List.range rows.length).map cr).flatten) := by
      have key : ∀ (rs : List (List V)) (j : Nat), (∀ (i : Nat) row, rs[i]? = some row → concL G (φ.put h.next ⟨gb, 0, cap - rows.length⟩) row = some (cr (j + i))) → concL G (φ.put h.next ⟨gb, 0, cap - rows.length⟩) rs.flatten = some (((List.range' j rs.length).map cr).flatten) := by
       intro rs
       induction rs with
       | nil => intro j _; exact concL_nil
       | cons x rs ih =>
         intro j hj
         rw [List.flatten_cons, List.length_cons, List.range'_succ, List.map_cons, List.flatten_cons]
         refine concL_append (by simpa using hj 0 x (by simp)) (ih (j + 1) fun i row hi => ?_)
         have := hj (i + 1) row (by simpa using hi)
         rwa [show j + (i + 1) = j + 1 + i from by omega] at this
      have := key rows 0 (fun i row hi => by rw [Nat.zero_add]; exact (hrow i row hi).2 _)
      rwa [← List.range_eq_range'] at this
     obtain ⟨r', x'⟩ := r.adopt (base := base) (w' := w2) (fun k hk => hblk k (r.foot_lt hk) fun e => hgf (e ▸ hk)) hf (x := .cells (Gv.T.ofList (List.flatten rows)) (rows.length * R.k) R.k false) (g := gb) (sl := cap - rows.length) hgf hgb
      ⟨cur', R.el, hh', by
       show cur'.size = rows.length * R.k + (cap - rows.length) * R.k
       rw [hcs', hcs, ← Nat.add_mul]; congr 1; omega, (fun h => nomatch h), fun i y hi hy => by
       have hy' := Gv.T.get_ofList hy
       obtain ⟨u', hu', hcu⟩ := concL_get hrel i y hy'
       refine ⟨u', hcu, ?_⟩
       rw [← htk', List.getElem?_take, if_pos hi] at hu'
       simpa using hu'⟩
     have hvc : conc G (φ.put h.next ⟨gb, 0, cap - rows.length⟩) (.slice h.next 0 rows.length rows.length true) = some (.slice (some ⟨gb, 0, none⟩) rows.length cap) := by
      rw [conc, Mp.put_self]
      simp only [cond_true]
      rw [show rows.length + (cap - rows.length) = cap by omega]
     have T1 := allPut_ok hvc hs1 (T.mono (Mp.le_put hf)) (fun q hq => (h3 q hq).2)
     obtain ⟨T2, hd, hz, _⟩ := putW_ok (u := .tuple #[]) hp T1 (.inr (by rw [conc]))
     exact ⟨_, T2, .inl rfl, r', ⟨fun h => (hm h).elim, hos, htp, hout, hsz, fun k hk _ => hblk k (by omega) (by omega)⟩, x', hd, hz⟩
theorem appW_ret {t0 : Nat} {y : V} {k : List V → WX} {z : WX} (hz : ∀ m i, z ≠ .bad m i) (e : appW E R t0 y h k = z) : ∃ new, k new = z := by
 unfold appW at e
 have nob : ∀ m i, WX.bad m i = z → False := fun m i h => hz m i h.symm
 split at e
 · rename_i el hk
   cases hg : (Nat.beq el R.el && (Nat.beq (E.tyOf el).size R.k && (Nat.beq (E.tyOf el).bytes R.bytes && (Nat.blt 0 R.k && Nat.ble R.bytes 1000)))) with
   | false => rw [hg] at e; exact (nob _ _ e).elim
   | true =>
     rw [hg, cond_true] at e
     split at e
     · rename_i zz _
       cases hzl : Nat.beq zz.cells.length R.k with
       | false => rw [hzl] at e; exact (nob _ _ e).elim
       | true =>
         rw [hzl, cond_true] at e
         split at e
         · rename_i b off m cp xx
           split at e
           · rename_i cs n sz ex _
             cases hrg : Nat.ble (off + m * R.k) n with
             | false => rw [hrg] at e; exact (nob _ _ e).elim
             | true =>
               rw [hrg, cond_true] at e
               split at e
               · rename_i new hnew
                 cases hcl : areCells new with
                 | false => rw [hcl] at e; exact (nob _ _ e).elim
                 | true => rw [hcl] at e; exact ⟨new, e⟩
               · exact (nob _ _ e).elim
           · exact (nob _ _ e).elim
         · exact (nob _ _ e).elim
     · exact (nob _ _ e).elim
 · exact (nob _ _ e).elim
theorem opW_ok (ok : EnvOk E P G) {call : Call} (ck : CallOk P G call) (hm : ¬ G.mono) {n : Nat} {all : List Oper} (e : opW E R n all o call s h bt bl = .nx s' h' bt' bl') : h.next ≤ h'.next ∧
 ∀ (φ : Mp) (a : Act) (w : World) (base : Nat) (R0 : List Value), WRel G φ s a.tmps → RowRel G φ R base R0 h bt bl a.tmps w → HRel G φ h w → Free φ h.next h'.next → a.tmps.size = n → base ≤ w.heap.size → R0.length ≤ 1000000 → TotOk P G R R0 →
  Gives P (fun u w' => WLeft G R base R0 φ h w a s' h' bt' bl' (a.put o.dst u) w') ((execOp a.eval o).run P w) := by
 unfold opW at e
 cases hbo : boOf R bt o with
 | no =>
   rw [hbo] at e
   dsimp only at e
   cases hc : (notSel o && nonW s (looksL all o)) with
   | false => rw [hc] at e; cases e
   | true =>
     rw [hc, cond_true] at e
     rw [Bool.and_eq_true] at hc
     split at e
     · rename_i v h1 hst
       cases hn : Nat.ble h.next h1.next with
       | false => rw [hn] at e; cases e
       | true =>
         rw [hn, cond_true] at e
         rw [nble, decide_eq_true_eq] at hn
         split at e
         · rename_i s1 hp
           cases e
           exact ⟨hn, fun φ a w base R0 T B r hf hz hb _ _ => by subst hz; exact opW_no ok ck hc.1 hc.2 hst T B r hf hb hp⟩
         · cases e
     · cases e
 | move =>
   rw [hbo] at e
   dsimp only at e
   obtain ⟨t, ho, ht⟩ := boOf_move hbo
   split at e
   · rename_i s1 hp
     cases e
     exact ⟨Nat.le_refl _, fun φ a w base R0 T B r hf hz hb _ _ => by subst hz; exact opW_move ho ht T B r hp⟩
   · cases e
 | app t0 x =>
   rw [hbo] at e
   dsimp only at e
   obtain ⟨c, t, ho, hc, ha, ht, hat⟩ := boOf_app hbo
   cases hx : okOpn x with
   | false => rw [hx] at e; cases e
   | true =>
     rw [hx, cond_true] at e
     have hne : ∀ m i, WX.nx s' h' bt' bl' ≠ .bad m i := fun _ _ h => nomatch h
     have hk : ∀ new, (bif Nat.ble (bl.length + new.length) 1000000 then (match putW n o.dst wild s with
      | some s' => WX.nx s' h (match o.dst with | some d => [d] | none => []) (bl ++ new)
      | none => .bad "dst" 2) else .bad "row: long" 0) = .nx s' h' bt' bl' → bl.length + new.length ≤ 1000000 ∧ putW n o.dst wild s = some s' ∧ h' = h ∧ bt' = (match o.dst with | some d => [d] | none => []) ∧ bl' = bl ++ new := by
      intro new hh
      cases hl : Nat.ble (bl.length + new.length) 1000000 with
      | false => rw [hl] at hh; cases hh
      | true =>
        rw [hl, cond_true] at hh
        rw [nble, decide_eq_true_eq] at hl
        split at hh
        · rename_i s1 hp
          cases hh
          exact ⟨hl, hp, rfl, rfl, rfl⟩
        · cases hh
     have hh : h' = h := by
      obtain ⟨new, hnew⟩ := appW_ret hne e
      exact (hk new hnew).2.2.1
     refine ⟨by rw [hh]; exact Nat.le_refl _, fun φ a w base R0 T B r hf hz hb hR0 _ => ?_⟩
     subst hz
     obtain ⟨new, hnew, hg⟩ := opW_app ok hm ho hc ha ht hat hx hne e T B r hb hR0
     obtain ⟨h1, h2, e1, e2, e3⟩ := hk new hnew
     rw [e1, e2, e3]
     exact hg h1 h2
 | sort =>
   rw [hbo] at e
   dsimp only at e
   obtain ⟨c, t, g, ho, hc, ha, ht, hcm⟩ := boOf_sort hbo
   split at e
   · rename_i rows hrows
     split at e
     · rename_i s1 hs1
       split at e
       · rename_i s2 hp
         cases e
         refine ⟨by simp [H.new], fun φ a w base R0 T B r hf hz hb hR0 tok => ?_⟩
         subst hz
         exact opW_sort hm ho hc ha ht hcm hrows hs1 hp T B r (hf _ (Nat.le_refl _) (by simp [H.new])) hb tok
       · cases e
     · cases e
   · cases e
end
end Go.Proofs.YtmfmjhklajmhoaaGreat.Gv
namespace Go.Proofs.YtmfmjhklajmhoaaGreat.Gv
open Go Go.Sort
section
variable {E : Env} {P : Program} {G : Gh} {φ : Mp} {h h' : H} {w w' : World} {s s' : Fr} {a : Act} {v : V} {o : Oper} {R : RowC} {base : Nat} {R0 : List Value} {bt bt' : List Nat} {bl bl' : List V}
theorem opsW_cons {n : Nat} {all l : List Oper} {call : Call} : opsW E R n all call (o :: l) s h bt bl = (match o.guard with
 | none => (match opW E R n all o call s h bt bl with
   | .nx s h bt bl => opsW E R n all call l s h bt bl
   | r => r)
 | some (j, want) => (match dstOf all j with
   | none => .bad "guard" j
   | some d => bif Nat.blt d 4096 then (match (Fr.get d).v s with
     | .bool b => (match b == want with
       | true => (match opW E R n all o call s h bt bl with
         | .nx s h bt bl => opsW E R n all call l s h bt bl
         | r => r)
       | false => (match putW n o.dst .undef s with | some s' => opsW E R n all call l s' h (outN o.dst bt) bl | none => .bad "dst" 5))
     | .undef => (match putW n o.dst .undef s with | some s' => opsW E R n all call l s' h (outN o.dst bt) bl | none => .bad "dst" 5)
     | _ => .bad "guard" j) else .bad "guard" j)) := rfl
theorem RowC.free {lo mid hi : Nat} {φ1 : Mp} {h1 : H} (f : Free φ lo hi) (hlo : lo = h.next) (hmid : mid = h1.next) (x : WExt base φ φ1 h h1) : Free φ1 mid hi := fun b hb1 hb2 =>
 x.new b (f b (by have := x.next; omega) hb2) (.inr (by omega))
theorem opW_arr {n : Nat} {all : List Oper} {call : Call} : ∀ i s1 h1 bt1 bl1, opW E R n all o call s h bt bl ≠ .ex i s1 h1 bt1 bl1 ∧ opW E R n all o call s h bt bl ≠ .rt s1 h1 bt1 bl1 := by
 intro i s1 h1 bt1 bl1
 unfold opW
 cases boOf R bt o with
 | no =>
   dsimp only
   cases (notSel o && nonW s (looksL all o)) with
   | false => exact ⟨nofun, nofun⟩
   | true =>
     rw [cond_true]
     split
     · rename_i v h1 _
       cases Nat.ble h.next h1.next with
       | false => exact ⟨nofun, nofun⟩
       | true => rw [cond_true]; split <;> exact ⟨nofun, nofun⟩
     · exact ⟨nofun, nofun⟩
 | move => dsimp only; split <;> exact ⟨nofun, nofun⟩
 | app t0 x =>
   dsimp only
   cases okOpn x with
   | false => exact ⟨nofun, nofun⟩
   | true =>
     rw [cond_true]
     have key : ∀ z, (∀ m j, z ≠ .bad m j) → appW E R t0 ((opn x).v s) h (fun new => bif Nat.ble (bl.length + new.length) 1000000 then (match putW n o.dst wild s with
      | some s' => WX.nx s' h (match o.dst with | some d => [d] | none => []) (bl ++ new)
      | none => .bad "dst" 2) else .bad "row: long" 0) = z → ∃ p q r t, z = .nx p q r t := by
      intro z hz e
      obtain ⟨new, hn⟩ := appW_ret hz e
      cases hb : Nat.ble (bl.length + new.length) 1000000 with
      | false => rw [hb] at hn; exact absurd hn.symm (hz _ _)
      | true =>
        rw [hb, cond_true] at hn
        split at hn
        · exact ⟨_, _, _, _, hn.symm⟩
        · exact absurd hn.symm (hz _ _)
     constructor
     · intro e
       obtain ⟨_, _, _, _, hh⟩ := key (.ex i s1 h1 bt1 bl1) (by intro _ _ h; cases h) e
       cases hh
     · intro e
       obtain ⟨_, _, _, _, hh⟩ := key (.rt s1 h1 bt1 bl1) (by intro _ _ h; cases h) e
       cases hh
 | sort => dsimp only; split <;> (try split) <;> (try split) <;> exact ⟨nofun, nofun⟩
theorem opsW_arr {n : Nat} {all : List Oper} {call : Call} : ∀ (l : List Oper) (s : Fr) (h : H) (bt : List Nat) (bl : List V) i s1 h1 bt1 bl1, opsW E R n all call l s h bt bl ≠ .ex i s1 h1 bt1 bl1 ∧ opsW E R n all call l s h bt bl ≠ .rt s1 h1 bt1 bl1
 | [], s, h, bt, bl, i, s1, h1, bt1, bl1 => ⟨nofun, nofun⟩
 | o :: l, s, h, bt, bl, i, s1, h1, bt1, bl1 => by
   have run : (match opW E R n all o call s h bt bl with
    | .nx s h bt bl => opsW E R n all call l s h bt bl
    | r => r) ≠ .ex i s1 h1 bt1 bl1 ∧ (match opW E R n all o call s h bt bl with
    | .nx s h bt bl => opsW E R n all call l s h bt bl
    | r => r) ≠ .rt s1 h1 bt1 bl1 := by
    cases hx : opW E R n all o call s h bt bl with
    | nx s2 h2 bt2 bl2 => exact opsW_arr l _ _ _ _ _ _ _ _ _
    | ex j s2 h2 bt2 bl2 => exact absurd hx (opW_arr j s2 h2 bt2 bl2).1
    | rt s2 h2 bt2 bl2 => exact absurd hx (opW_arr 0 s2 h2 bt2 bl2).2
    | bad m j => exact ⟨nofun, nofun⟩
   have skip : (match putW n o.dst .undef s with | some s' => opsW E R n all call l s' h (outN o.dst bt) bl | none => .bad "dst" 5) ≠ .ex i s1 h1 bt1 bl1 ∧ (match putW n o.dst .undef s with | some s' => opsW E R n all call l s' h (outN o.dst bt) bl | none => .bad "dst" 5) ≠ .rt s1 h1 bt1 bl1 := by
    cases putW n o.dst .undef s with
    | none => exact ⟨nofun, nofun⟩
    | some s2 => exact opsW_arr l _ _ _ _ _ _ _ _ _
   rw [opsW_cons]
   cases o.guard with
   | none => exact run
   | some g =>
     obtain ⟨j, want⟩ := g
     dsimp only
     cases dstOf all j with
     | none => exact ⟨nofun, nofun⟩
     | some d =>
       dsimp only
       cases Nat.blt d 4096 with
       | false => exact ⟨nofun, nofun⟩
       | true =>
         rw [cond_true]
         split
         · split
           · exact run
           · exact skip
         · exact skip
         · exact ⟨nofun, nofun⟩
theorem opsW_ok (ok : EnvOk E P G) {call : Call} (ck : CallOk P G call) (hm : ¬ G.mono) {n : Nat} {all : List Oper} {Q : Exit → Act → World → Prop} :
 ∀ (l : List Oper) (k : Nat), (∀ i, l[i]? = all[k + i]?) → ∀ (s : Fr) (h : H) (bt : List Nat) (bl : List V) (s' : Fr) (h' : H) (bt' : List Nat) (bl' : List V), opsW E R n all call l s h bt bl = .nx s' h' bt' bl' → h.next ≤ h'.next ∧
  ∀ (φ : Mp) (a : Act) (w : World) (base : Nat) (R0 : List Value), WRel G φ s a.tmps → RowRel G φ R base R0 h bt bl a.tmps w → HRel G φ h w → Free φ h.next h'.next → a.tmps.size = n → base ≤ w.heap.size → R0.length ≤ 1000000 → TotOk P G R R0 →
   (∀ a' w', WLeft G R base R0 φ h w a s' h' bt' bl' a' w' → Q .normal a' w') → wpOps P all.toArray Q (List.range' k l.length) a w
 | [], k, hl, s, h, bt, bl, s', h', bt', bl', e => by
   cases e
   exact ⟨Nat.le_refl _, fun φ a w base R0 T B r hf hz hb hR tok hQ => hQ _ _ ⟨φ, T, B, r, WFrame.refl _, WExt.refl _ _ _, rfl, rfl⟩⟩
 | o :: l, k, hl, s, h, bt, bl, s', h', bt', bl', e => by
   have ho : all.toArray[k]? = some o := by have := hl 0; simp at this; simpa using this.symm
   have hl' : ∀ i, l[i]? = all[k + 1 + i]? := fun i => by
    have := hl (i + 1)
    rw [List.getElem?_cons_succ] at this
    rw [this]
    congr 1
    omega
   have run : (match opW E R n all o call s h bt bl with
    | .nx s h bt bl => opsW E R n all call l s h bt bl
    | r => r) = .nx s' h' bt' bl' → h.next ≤ h'.next ∧ ∀ (φ : Mp) (a : Act) (w : World) (base : Nat) (R0 : List Value), WRel G φ s a.tmps → RowRel G φ R base R0 h bt bl a.tmps w → HRel G φ h w → Free φ h.next h'.next → a.tmps.size = n → base ≤ w.heap.size → R0.length ≤ 1000000 → TotOk P G R R0 →
    (∀ a' w', WLeft G R base R0 φ h w a s' h' bt' bl' a' w' → Q .normal a' w') → o.wp P a w (wpOps P all.toArray Q (List.range' (k + 1) l.length)) Q := by
    intro e
    cases hx : opW E R n all o call s h bt bl with
    | nx s1 h1 bt1 bl1 =>
      rw [hx] at e
      obtain ⟨n1, k1⟩ := opW_ok ok ck hm hx
      obtain ⟨n2, k2⟩ := opsW_ok (Q := Q) ok ck hm l (k + 1) hl' _ _ _ _ _ _ _ _ e
      refine ⟨Nat.le_trans n1 n2, fun φ a w base R0 T B r hf hz hb hR tok hQ => ?_⟩
      refine (k1 φ a w base R0 T B r (hf.left n2) hz hb hR tok).wp fun u w1 ⟨φ1, T1, B1, r1, f1, x1, hd, hz1⟩ => ?_
      exact k2 φ1 _ w1 base R0 T1 B1 r1 (RowC.free hf rfl rfl x1) (hz1.trans hz) (Nat.le_trans hb f1.size) hR tok fun a' w' L => hQ a' w' (L.trans f1 x1 hd hz1)
    | ex j s2 h2 bt2 bl2 => rw [hx] at e; cases e
    | rt s2 h2 bt2 bl2 => rw [hx] at e; cases e
    | bad m j => rw [hx] at e; cases e
   have skip : (match putW n o.dst .undef s with | some s' => opsW E R n all call l s' h (outN o.dst bt) bl | none => .bad "dst" 5) = .nx s' h' bt' bl' → h.next ≤ h'.next ∧ ∀ (φ : Mp) (a : Act) (w : World) (base : Nat) (R0 : List Value), WRel G φ s a.tmps → RowRel G φ R base R0 h bt bl a.tmps w → HRel G φ h w → Free φ h.next h'.next → a.tmps.size = n → base ≤ w.heap.size → R0.length ≤ 1000000 → TotOk P G R R0 →
    (∀ a' w', WLeft G R base R0 φ h w a s' h' bt' bl' a' w' → Q .normal a' w') → wpOps P all.toArray Q (List.range' (k + 1) l.length) (a.put o.dst undef) w := by
    intro e
    cases hp : putW n o.dst .undef s with
    | none => rw [hp] at e; cases e
    | some s1 =>
      rw [hp] at e
      obtain ⟨n2, k2⟩ := opsW_ok (Q := Q) ok ck hm l (k + 1) hl' _ _ _ _ _ _ _ _ e
      refine ⟨n2, fun φ a w base R0 T B r hf hz hb hR tok hQ => ?_⟩
      subst hz
      obtain ⟨T1, hd, hz1, _, hoth, _⟩ := putW_ok (u := undef) hp T (.inr (by rw [conc]; rfl))
      have B1 : RowRel G φ R base R0 h (outN o.dst bt) bl (a.put o.dst undef).tmps w := B.kept (Frame.refl _ _ _ _) (Ext.refl _ _ _) fun t ht => by
       obtain ⟨h2, h3⟩ := mem_outN ht
       refine ⟨h2, ?_⟩
       rcases B with rfl | ⟨_, _, _, _, _, _, h4, _⟩
       · cases h2
       · exact hoth t (h4 t h2).1 h3
      exact k2 φ _ w base R0 T1 B1 r hf hz1 hb hR tok fun a' w' L => hQ a' w' (L.trans (WFrame.refl _) (WExt.refl _ _ _) hd hz1)
   have wants : ∀ (φ : Mp) (a : Act) (w : World) (b : Bool), Region.wanted o (yielded all.toArray a.tmps) = b → (b = true → o.wp P a w (wpOps P all.toArray Q (List.range' (k + 1) l.length)) Q) → (b = false → wpOps P all.toArray Q (List.range' (k + 1) l.length) (a.put o.dst undef) w) → wpOps P all.toArray Q (List.range' k (o :: l).length) a w := by
    intro φ a w b hw h1 h2
    rw [List.length_cons, List.range'_succ, wpOps_cons]
    unfold wpOp
    simp only [ho]
    rw [hw]
    cases b with
    | true => rw [if_pos rfl]; exact .inl (h1 rfl)
    | false => simp only [Bool.false_eq_true, if_false]; exact h2 rfl
   rw [opsW_cons] at e
   cases hg : o.guard with
   | none =>
     rw [hg] at e
     obtain ⟨n1, k1⟩ := run e
     exact ⟨n1, fun φ a w base R0 T B r hf hz hb hR tok hQ => wants φ a w true (by unfold Region.wanted; simp only [hg]) (fun _ => k1 φ a w base R0 T B r hf hz hb hR tok hQ) (fun h => nomatch h)⟩
   | some g =>
     obtain ⟨j, want⟩ := g
     rw [hg] at e
     dsimp only at e
     cases hd : dstOf all j with
     | none => rw [hd] at e; cases e
     | some d =>
       rw [hd] at e
       dsimp only at e
       cases hlt : Nat.blt d 4096 with
       | false => rw [hlt] at e; cases e
       | true =>
         rw [hlt, cond_true] at e
         rw [nblt, decide_eq_true_eq] at hlt
         split at e
         · rename_i b hb
           have hv : ∀ (φ : Mp) (a : Act), WRel G φ s a.tmps → conc G φ ((Fr.get d).v s) = some (a.tmps.getD d undef) := fun φ a T => by
            rcases T d hlt with h | h
            · rw [hb] at h; cases h
            · exact h
           split at e
           · rename_i hbw
             obtain ⟨n1, k1⟩ := run e
             exact ⟨n1, fun φ a w base R0 T B r hf hz hb' hR tok hQ => wants φ a w true (by rw [(wanted_at hg hd (hv φ a T)).1 b hb, hbw]) (fun _ => k1 φ a w base R0 T B r hf hz hb' hR tok hQ) (fun h => nomatch h)⟩
           · rename_i hbw
             obtain ⟨n1, k1⟩ := skip e
             exact ⟨n1, fun φ a w base R0 T B r hf hz hb' hR tok hQ => wants φ a w false (by rw [(wanted_at hg hd (hv φ a T)).1 b hb, hbw]) (fun h => nomatch h) (fun _ => k1 φ a w base R0 T B r hf hz hb' hR tok hQ)⟩
         · rename_i hb
           have hv : ∀ (φ : Mp) (a : Act), WRel G φ s a.tmps → conc G φ ((Fr.get d).v s) = some (a.tmps.getD d undef) := fun φ a T => by
            rcases T d hlt with h | h
            · rw [hb] at h; cases h
            · exact h
           obtain ⟨n1, k1⟩ := skip e
           exact ⟨n1, fun φ a w base R0 T B r hf hz hb' hR tok hQ => wants φ a w false ((wanted_at hg hd (hv φ a T)).2 hb) (fun h => nomatch h) (fun _ => k1 φ a w base R0 T B r hf hz hb' hR tok hQ)⟩
         · cases e
def ArrW (x : WX) (e : Exit) (s' : Fr) (h' : H) (bt' : List Nat) (bl' : List V) : Prop :=
 (x = .nx s' h' bt' bl' ∧ e = .normal) ∨ (∃ i, x = .ex i s' h' bt' bl' ∧ e = .exit i) ∨ (x = .rt s' h' bt' bl' ∧ e = .ret)
theorem ArrW.nx {s1 : Fr} {h1 : H} {bt1 bl1} {e : Exit} (x : ArrW (.nx s1 h1 bt1 bl1) e s' h' bt' bl') : s1 = s' ∧ h1 = h' ∧ bt1 = bt' ∧ bl1 = bl' ∧ e = .normal := by
 rcases x with ⟨x, rfl⟩ | ⟨i, x, rfl⟩ | ⟨x, rfl⟩ <;> cases x
 exact ⟨rfl, rfl, rfl, rfl, rfl⟩
theorem ArrW.ex {i : Nat} {s1 : Fr} {h1 : H} {bt1 bl1} {e : Exit} (x : ArrW (.ex i s1 h1 bt1 bl1) e s' h' bt' bl') : s1 = s' ∧ h1 = h' ∧ bt1 = bt' ∧ bl1 = bl' ∧ e = .exit i := by
 rcases x with ⟨x, rfl⟩ | ⟨j, x, rfl⟩ | ⟨x, rfl⟩ <;> cases x
 exact ⟨rfl, rfl, rfl, rfl, rfl⟩
theorem ArrW.rt {s1 : Fr} {h1 : H} {bt1 bl1} {e : Exit} (x : ArrW (.rt s1 h1 bt1 bl1) e s' h' bt' bl') : s1 = s' ∧ h1 = h' ∧ bt1 = bt' ∧ bl1 = bl' ∧ e = .ret := by
 rcases x with ⟨x, rfl⟩ | ⟨j, x, rfl⟩ | ⟨x, rfl⟩ <;> cases x
 exact ⟨rfl, rfl, rfl, rfl, rfl⟩
theorem ArrW.bad {m : String} {i : Nat} {e : Exit} (x : ArrW (.bad m i) e s' h' bt' bl') : False := by
 rcases x with ⟨x, rfl⟩ | ⟨j, x, rfl⟩ | ⟨x, rfl⟩ <;> cases x
def CodeWOk (E : Env) (P : Program) (G : Gh) (R : RowC) (call : Call) (n : Nat) (c : Code) : Prop :=
 ∀ (s : Fr) (h : H) (bt : List Nat) (bl : List V) (e : Exit) (s' : Fr) (h' : H) (bt' : List Nat) (bl' : List V), ArrW (codeW E R n call c s h bt bl) e s' h' bt' bl' → h.next ≤ h'.next ∧
  ∀ (φ : Mp) (a : Act) (w : World) (base : Nat) (R0 : List Value), WRel G φ s a.tmps → RowRel G φ R base R0 h bt bl a.tmps w → HRel G φ h w → Free φ h.next h'.next → a.tmps.size = n → base ≤ w.heap.size → R0.length ≤ 1000000 → TotOk P G R R0 →
   c.wp P (fun e' a' w' => e' = e ∧ WLeft G R base R0 φ h w a s' h' bt' bl' a' w') a w
theorem WLeft.refl (T : WRel G φ s a.tmps) (B : RowRel G φ R base R0 h bt bl a.tmps w) (r : HRel G φ h w) : WLeft G R base R0 φ h w a s h bt bl a w := ⟨φ, T, B, r, WFrame.refl _, WExt.refl _ _ _, rfl, rfl⟩
theorem codeW_ok (ok : EnvOk E P G) {call : Call} (ck : CallOk P G call) (hm : ¬ G.mono) {n : Nat} : ∀ c : Code, CodeWOk E P G R call n c
 | .skip => fun s h bt bl e s' h' bt' bl' A => by
   obtain ⟨rfl, rfl, rfl, rfl, rfl⟩ := ArrW.nx (show ArrW (.nx s h bt bl) e s' h' bt' bl' from A)
   exact ⟨Nat.le_refl _, fun φ a w base R0 T B r hf hz hb hR tok => wp_skip ⟨rfl, WLeft.refl T B r⟩⟩
 | .region id ops draw => fun s h bt bl e s' h' bt' bl' A => by
   cases draw with
   | true => exact (ArrW.bad (show ArrW (.bad "row: draw" 0) e s' h' bt' bl' from A)).elim
   | false =>
     have A : ArrW (opsW E R n ops.toList call ops.toList s h bt bl) e s' h' bt' bl' := A
     cases hx : opsW E R n ops.toList call ops.toList s h bt bl with
     | nx s1 h1 bt1 bl1 =>
       rw [hx] at A
       obtain ⟨e1, e2, e3, e4, e5⟩ := ArrW.nx A
       subst e1 e2 e3 e4 e5
       obtain ⟨n1, k1⟩ := opsW_ok (Q := fun e' a' w' => True) ok ck hm ops.toList 0 (fun i => by simp) s h bt bl _ _ _ _ hx
       refine ⟨n1, fun φ a w base R0 T B r hf hz hb hR tok => wp_region ?_⟩
       have := (opsW_ok (Q := fun e' a' w' => e' = .normal ∧ WLeft G R base R0 φ h w a s1 h1 bt1 bl1 a' w') ok ck hm ops.toList 0 (fun i => by simp) s h bt bl _ _ _ _ hx).2 φ a w base R0 T B r hf hz hb hR tok (fun a' w' L => ⟨rfl, L⟩)
       rw [List.range_eq_range']
       simpa using this
     | ex j s2 h2 bt2 bl2 => exact absurd hx (opsW_arr _ _ _ _ _ j s2 h2 bt2 bl2).1
     | rt s2 h2 bt2 bl2 => exact absurd hx (opsW_arr _ _ _ _ _ 0 s2 h2 bt2 bl2).2
     | bad m j => rw [hx] at A; exact (ArrW.bad A).elim
 | .seq x y => fun s h bt bl e s' h' bt' bl' A => by
   have A : ArrW (match codeW E R n call x s h bt bl with
    | .nx s h bt bl => codeW E R n call y s h bt bl
    | r => r) e s' h' bt' bl' := A
   cases hr : codeW E R n call x s h bt bl with
   | nx s1 h1 bt1 bl1 =>
     rw [hr] at A
     obtain ⟨n1, k1⟩ := codeW_ok ok ck hm x s h bt bl .normal s1 h1 bt1 bl1 (.inl ⟨hr, rfl⟩)
     obtain ⟨n2, k2⟩ := codeW_ok ok ck hm y s1 h1 bt1 bl1 e s' h' bt' bl' A
     refine ⟨Nat.le_trans n1 n2, fun φ a w base R0 T B r hf hz hb hR tok => wp_seq ?_⟩
     refine wp_mono (k1 φ a w base R0 T B r (hf.left n2) hz hb hR tok) ?_
     rintro e1 a1 w1 ⟨rfl, φ1, T1, B1, r1, f1, x1, hd, hz1⟩
     refine wp_mono (k2 φ1 a1 w1 base R0 T1 B1 r1 (RowC.free hf rfl rfl x1) (hz1.trans hz) (Nat.le_trans hb f1.size) hR tok) ?_
     rintro e2 a2 w2 ⟨rfl, L⟩
     exact ⟨rfl, L.trans f1 x1 hd hz1⟩
   | ex i s1 h1 bt1 bl1 =>
     rw [hr] at A
     obtain ⟨n1, k1⟩ := codeW_ok ok ck hm x s h bt bl e s' h' bt' bl' (by rw [hr]; exact A)
     refine ⟨n1, fun φ a w base R0 T B r hf hz hb hR tok => wp_seq ?_⟩
     refine wp_mono (k1 φ a w base R0 T B r hf hz hb hR tok) ?_
     rintro e1 a1 w1 ⟨rfl, L⟩
     obtain ⟨_, _, _, _, rfl⟩ := ArrW.ex A
     exact ⟨rfl, L⟩
   | rt s1 h1 bt1 bl1 =>
     rw [hr] at A
     obtain ⟨n1, k1⟩ := codeW_ok ok ck hm x s h bt bl e s' h' bt' bl' (by rw [hr]; exact A)
     refine ⟨n1, fun φ a w base R0 T B r hf hz hb hR tok => wp_seq ?_⟩
     refine wp_mono (k1 φ a w base R0 T B r hf hz hb hR tok) ?_
     rintro e1 a1 w1 ⟨rfl, L⟩
     obtain ⟨_, _, _, _, rfl⟩ := ArrW.rt A
     exact ⟨rfl, L⟩
   | bad m i => rw [hr] at A; exact (ArrW.bad A).elim
 | .cond c x y => fun s h bt bl e s' h' bt' bl' A => by
   cases c with
   | tmp t =>
     have A : ArrW (bif Nat.blt t 4096 then (match (Fr.get t).v s with
      | .bool true => codeW E R n call x s h bt bl
      | .bool false => codeW E R n call y s h bt bl
      | _ => .bad "cond" 0) else .bad "cond" 2) e s' h' bt' bl' := A
     cases ht : Nat.blt t 4096 with
     | false => rw [ht] at A; exact (ArrW.bad A).elim
     | true =>
       rw [ht, cond_true] at A
       rw [nblt, decide_eq_true_eq] at ht
       split at A
       · rename_i hv
         obtain ⟨n1, k1⟩ := codeW_ok ok ck hm x s h bt bl e s' h' bt' bl' A
         refine ⟨n1, fun φ a w base R0 T B r hf hz hb hR tok => wp_cond_true ?_ (k1 φ a w base R0 T B r hf hz hb hR tok)⟩
         have := opnW T (x := .tmp t) (by rw [okOpn, nblt]; exact decide_eq_true ht) (by show isW ((Fr.get t).v s) = false; rw [hv]; rfl)
         rw [show (opn (.tmp t)).v s = (Fr.get t).v s from rfl, hv, conc] at this
         exact (Option.some.inj this).symm
       · rename_i hv
         obtain ⟨n1, k1⟩ := codeW_ok ok ck hm y s h bt bl e s' h' bt' bl' A
         refine ⟨n1, fun φ a w base R0 T B r hf hz hb hR tok => wp_cond_false ?_ (k1 φ a w base R0 T B r hf hz hb hR tok)⟩
         have := opnW T (x := .tmp t) (by rw [okOpn, nblt]; exact decide_eq_true ht) (by show isW ((Fr.get t).v s) = false; rw [hv]; rfl)
         rw [show (opn (.tmp t)).v s = (Fr.get t).v s from rfl, hv, conc] at this
         exact (Option.some.inj this).symm
       · exact (ArrW.bad A).elim
   | const _ => exact (ArrW.bad (show ArrW (.bad "cond" 1) e s' h' bt' bl' from A)).elim
   | global _ => exact (ArrW.bad (show ArrW (.bad "cond" 1) e s' h' bt' bl' from A)).elim
   | func _ => exact (ArrW.bad (show ArrW (.bad "cond" 1) e s' h' bt' bl' from A)).elim
 | .block id x => fun s h bt bl e s' h' bt' bl' A => by
   have A : ArrW (match codeW E R n call x s h bt bl with
    | .ex j s h bt bl => bif Nat.beq j id then .nx s h bt bl else .ex j s h bt bl
    | r => r) e s' h' bt' bl' := A
   cases hr : codeW E R n call x s h bt bl with
   | nx s1 h1 bt1 bl1 =>
     rw [hr] at A
     obtain ⟨e1, e2, e3, e4, e5⟩ := ArrW.nx A
     subst e1 e2 e3 e4 e5
     obtain ⟨n1, k1⟩ := codeW_ok ok ck hm x s h bt bl .normal _ _ _ _ (.inl ⟨hr, rfl⟩)
     refine ⟨n1, fun φ a w base R0 T B r hf hz hb hR tok => wp_block (wp_mono (k1 φ a w base R0 T B r hf hz hb hR tok) ?_)⟩
     rintro e1 a1 w1 ⟨rfl, L⟩
     exact ⟨rfl, L⟩
   | ex i s1 h1 bt1 bl1 =>
     rw [hr] at A
     obtain ⟨n1, k1⟩ := codeW_ok ok ck hm x s h bt bl (.exit i) s1 h1 bt1 bl1 (.inr (.inl ⟨i, hr, rfl⟩))
     simp only [nbeq] at A
     by_cases hi : i = id
     · rw [decide_eq_true hi, cond_true] at A
       obtain ⟨e1, e2, e3, e4, e5⟩ := ArrW.nx A
       subst e1 e2 e3 e4 e5
       refine ⟨n1, fun φ a w base R0 T B r hf hz hb hR tok => wp_block (wp_mono (k1 φ a w base R0 T B r hf hz hb hR tok) ?_)⟩
       rintro e1 a1 w1 ⟨rfl, L⟩
       show if i = id then _ else _
       rw [if_pos hi]
       exact ⟨rfl, L⟩
     · rw [decide_eq_false hi, cond_false] at A
       obtain ⟨e1, e2, e3, e4, e5⟩ := ArrW.ex A
       subst e1 e2 e3 e4 e5
       refine ⟨n1, fun φ a w base R0 T B r hf hz hb hR tok => wp_block (wp_mono (k1 φ a w base R0 T B r hf hz hb hR tok) ?_)⟩
       rintro e1 a1 w1 ⟨rfl, L⟩
       show if i = id then _ else _
       rw [if_neg hi]
       exact ⟨rfl, L⟩
   | rt s1 h1 bt1 bl1 =>
     rw [hr] at A
     obtain ⟨e1, e2, e3, e4, e5⟩ := ArrW.rt A
     subst e1 e2 e3 e4 e5
     obtain ⟨n1, k1⟩ := codeW_ok ok ck hm x s h bt bl .ret _ _ _ _ (.inr (.inr ⟨hr, rfl⟩))
     refine ⟨n1, fun φ a w base R0 T B r hf hz hb hR tok => wp_block (wp_mono (k1 φ a w base R0 T B r hf hz hb hR tok) ?_)⟩
     rintro e1 a1 w1 ⟨rfl, L⟩
     exact ⟨rfl, L⟩
   | bad m i => rw [hr] at A; exact (ArrW.bad A).elim
 | .loop _ => fun s h bt bl e s' h' bt' bl' A => (ArrW.bad (show ArrW (.bad "row: loop" 0) e s' h' bt' bl' from A)).elim
 | .exit id => fun s h bt bl e s' h' bt' bl' A => by
   obtain ⟨rfl, rfl, rfl, rfl, rfl⟩ := ArrW.ex (show ArrW (.ex id s h bt bl) e s' h' bt' bl' from A)
   exact ⟨Nat.le_refl _, fun φ a w base R0 T B r hf hz hb hR tok => wp_exit ⟨rfl, WLeft.refl T B r⟩⟩
 | .label l => fun s h bt bl e s' h' bt' bl' A => by
   obtain ⟨rfl, rfl, rfl, rfl, rfl⟩ := ArrW.nx (show ArrW (.nx s h bt bl) e s' h' bt' bl' from A)
   exact ⟨Nat.le_refl _, fun φ a w base R0 T B r hf hz hb hR tok => wp_label ⟨rfl, WLeft.refl T B r⟩⟩
 | .ret => fun s h bt bl e s' h' bt' bl' A => by
   obtain ⟨rfl, rfl, rfl, rfl, rfl⟩ := ArrW.rt (show ArrW (.rt s h bt bl) e s' h' bt' bl' from A)
   exact ⟨Nat.le_refl _, fun φ a w base R0 T B r hf hz hb hR tok => wp_ret ⟨rfl, WLeft.refl T B r⟩⟩
 | .rangeFunc .. => fun s h bt bl e s' h' bt' bl' A => (ArrW.bad (show ArrW (.bad "rangeFunc" 0) e s' h' bt' bl' from A)).elim
 | .scope .. => fun s h bt bl e s' h' bt' bl' A => (ArrW.bad (show ArrW (.bad "scope" 0) e s' h' bt' bl' from A)).elim
 | .goto _ => fun s h bt bl e s' h' bt' bl' A => (ArrW.bad (show ArrW (.bad "goto" 0) e s' h' bt' bl' from A)).elim
 | .refuse _ => fun s h bt bl e s' h' bt' bl' A => (ArrW.bad (show ArrW (.bad "refuse" 0) e s' h' bt' bl' from A)).elim
end
end Go.Proofs.YtmfmjhklajmhoaaGreat.Gv
