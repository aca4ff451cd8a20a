/- A loop over a map, each entry's round by itself. -/
import Derived.Test.YtmfmjhklajmhoaaGreatGvWild5
import Derived.Test.YtmfmjhklajmhoaaGreatGvSnapq
import Derived.Maps.RangeRun
namespace Go.Proofs.YtmfmjhklajmhoaaGreat.Gv
open Go Go.Sort
structure LoopI where
 r1 : Nat
 r3 : Nat
 b : Nat
 b3 : Nat
 o1 : Oper
 o2 : Oper
 o3 : Oper
 rest : List Oper
 it : Nat
 d1 : Nat
 d2 : Nat
 d3 : Nat
 body : Code
def LoopI.round (i : LoopI) : Code := .seq (.region i.r1 #[i.o1, i.o2] false) (.seq (.cond (.tmp i.d2) .skip (.exit i.b)) (.block i.b3 (.seq (.region i.r3 (i.o3 :: i.rest).toArray false) i.body)))
def LoopI.code (i : LoopI) : Code := .block i.b (.loop i.round)
def isDst (o : Oper) (d : Nat) : Bool := match o.dst with | some e => Nat.beq e d | none => false
def isNext (o : Oper) (it : Nat) : Bool := match o.op with | .next (.tmp t) false => Nat.beq t it | _ => false
def isFirst (o : Oper) (d1 : Nat) : Bool := match o.op with | .extract (.tmp t) 0 => Nat.beq t d1 | _ => false
def isEntry (o : Oper) (it : Nat) : Bool := match o.op with | .entry (.tmp t) => Nat.beq t it | _ => false
def LoopI.shape (i : LoopI) (n : Nat) : Bool :=
 [isNext i.o1 i.it, isDst i.o1 i.d1, i.o1.guard.isNone, isFirst i.o2 i.d1, isDst i.o2 i.d2, i.o2.guard.isNone, isEntry i.o3 i.it, isDst i.o3 i.d3, i.o3.guard.isNone,
  Nat.blt i.it n, Nat.blt i.d1 n, Nat.blt i.d2 n, Nat.blt i.d3 n, Nat.ble n 4096, !Nat.beq i.it i.d1, !Nat.beq i.it i.d2].all fun b => b
def loopOf (n : Nat) (c : Code) : Option LoopI :=
 match c with
 | .block b (.loop (.seq (.region r1 ops1 false) (.seq (.cond (.tmp c2) .skip (.exit b')) (.block b3 (.seq (.region r3 ops3 false) body))))) =>
   (match ops1.toList, ops3.toList with
   | [o1, o2], o3 :: rest => (match o1.op, o1.dst, o3.dst with
     | .next (.tmp it) false, some d1, some d3 => bif Nat.beq b b' && LoopI.shape ⟨r1, r3, b, b3, o1, o2, o3, rest, it, d1, c2, d3, body⟩ n then some ⟨r1, r3, b, b3, o1, o2, o3, rest, it, d1, c2, d3, body⟩ else none
     | _, _, _ => none)
   | _, _ => none)
 | _ => none
theorem loopOf_ok {n : Nat} {c : Code} {i : LoopI} (e : loopOf n c = some i) : c = i.code ∧ i.shape n = true := by
 unfold loopOf at e
 split at e
 · rename_i b r1 ops1 c2 b' b3 r3 ops3 body
   split at e
   · rename_i o1 o2 o3 rest h1 h3
     split at e
     · rename_i it d1 d3 ho hd1 hd3
       cases hb : (Nat.beq b b' && LoopI.shape ⟨r1, r3, b, b3, o1, o2, o3, rest, it, d1, c2, d3, body⟩ n) with
       | false => rw [hb] at e; cases e
       | true =>
         rw [hb] at e
         cases e
         rw [Bool.and_eq_true, nbeq, decide_eq_true_eq] at hb
         obtain ⟨rfl, hs⟩ := hb
         refine ⟨?_, hs⟩
         have e1 : ops1 = #[o1, o2] := by apply Array.toList_inj.1; rw [h1]
         have e3 : ops3 = (o3 :: rest).toArray := by apply Array.toList_inj.1; rw [h3]
         rw [e1, e3]
         rfl
     · cases e
   · cases e
 · cases e
noncomputable def dstsC (c : Code) : List Nat :=
 Code.rec (motive := fun _ => List Nat) [] (fun _ ops _ => ops.toList.filterMap (·.dst)) (fun _ _ a b => a ++ b) (fun _ _ _ a b => a ++ b) (fun _ _ a => a) (fun _ a => a) (fun _ _ _ _ _ _ => []) (fun _ => []) (fun _ _ => []) (fun _ => []) (fun _ => []) [] (fun _ => []) c
noncomputable def marksF (n : Nat) (s : Fr) (l : List Nat) : Option Fr := allPut n wild s l
noncomputable def refC (l : List V) : List Nat := List.rec (motive := fun _ => List Nat) [] (fun v _ ih => match v with | .slice b _ _ _ _ => bif hasN b ih then ih else b :: ih | _ => ih) l
noncomputable def subH (h : H) (bs : List Nat) : H := { t := List.rec (motive := fun _ => T B) .lf (fun b _ ih => match h.t.get b with | some x => bif x.isRo then ih else ih.set b x | none => ih) bs, next := h.next }
noncomputable def sameOld (hs h' : H) (bs : List Nat) : Bool := List.rec (motive := fun _ => Bool) true (fun b _ ih => match hs.t.get b with
 | some x => (match h'.t.get b with | some y => bif sameBk x y then ih else false | none => false)
 | none => ih) bs
noncomputable def keepsF (s s' : Fr) (ds : List Nat) (n : Nat) : Bool := Nat.rec (motive := fun _ => Bool) true (fun t ih => bif hasN t ds || sameV ((Fr.get t).v s) ((Fr.get t).v s') then ih else false) n
noncomputable def isPl (v : V) : Bool := match v with | .bool _ => true | .int _ _ => true | .sint _ _ _ => true | .str _ _ => true | .opq i => Nat.blt i 1000 | _ => false
noncomputable def allPl (l : List V) : Bool := List.rec (motive := fun _ => Bool) true (fun v _ ih => bif isPl v then ih else false) l
noncomputable def hasO (ob : Option Nat) (l : List Nat) : Bool := match ob with | some o => hasN o l | none => true
noncomputable def finW (R : RowC) (n : Nat) (ob : Option Nat) (s0 : Fr) (hs : H) (bs ds : List Nat) (s3 : Fr) (h3 : H) (bt3 : List Nat) (bl3 : List V) : Option (List V × Nat) :=
 bif hasO ob bt3 && ((Nat.beq bl3.length 0 || Nat.beq bl3.length R.k) && (allPl bl3 && (keepsF s0 s3 ds n && sameOld hs h3 bs))) then some (bl3, h3.next) else none
noncomputable def bodyW (E : Env) (R : RowC) (n : Nat) (call : Call) (i : LoopI) (ob : Option Nat) (s0 : Fr) (hs : H) (bs ds : List Nat) (p : V × V) : Option (List V × Nat) :=
 match putW n (some i.d3) (.tuple [p.1, p.2]) s0 with
 | none => none
 | some s1 => match opsW E R n (i.o3 :: i.rest) call i.rest s1 hs ob.toList [] with
   | .nx s2 h2 bt2 bl2 => (match codeW E R n call i.body s2 h2 bt2 bl2 with
     | .nx s3 h3 bt3 bl3 => finW R n ob s0 hs bs ds s3 h3 bt3 bl3
     | .ex j s3 h3 bt3 bl3 => bif Nat.beq j i.b3 then finW R n ob s0 hs bs ds s3 h3 bt3 bl3 else none
     | _ => none)
   | _ => none
noncomputable def bodiesW (f : V × V → Option (List V × Nat)) (es : List (V × V)) : Option (List (List V) × Nat) :=
 List.rec (motive := fun _ => Option (List (List V) × Nat)) (some ([], 0)) (fun p _ ih => match f p, ih with
  | some x, some y => some (x.1 :: y.1, bif Nat.ble x.2 y.2 then y.2 else x.2)
  | _, _ => none) es
section
variable {E : Env} {P : Program} {G : Gh} {φ : Mp} {h h' : H} {w w' : World} {s s' : Fr} {a : Act} {v : V} {o : Oper} {R : RowC} {base : Nat} {R0 : List Value} {bt bt' : List Nat} {bl bl' : List V}
theorem sub_get {h : H} : ∀ {bs : List Nat} {b : Nat} {x : B}, (subH h bs).t.get b = some x → b ∈ bs ∧ h.t.get b = some x
 | [], b, x, e => by cases e
 | c :: bs, b, x, e => by
   have e : (match h.t.get c with | some x => bif x.isRo then (subH h bs).t else (subH h bs).t.set c x | none => (subH h bs).t).get b = some x := e
   cases hc : h.t.get c with
   | none =>
     rw [hc] at e
     obtain ⟨h1, h2⟩ := sub_get e
     exact ⟨by simp [h1], h2⟩
   | some y =>
     rw [hc] at e
     dsimp only at e
     cases hro : y.isRo with
     | true =>
       rw [hro, cond_true] at e
       obtain ⟨h1, h2⟩ := sub_get e
       exact ⟨by simp [h1], h2⟩
     | false =>
       rw [hro, cond_false] at e
       rcases Gv.T.get_set e with ⟨rfl, rfl⟩ | ⟨_, e⟩
       · exact ⟨by simp, hc⟩
       · obtain ⟨h1, h2⟩ := sub_get e
         exact ⟨by simp [h1], h2⟩
theorem sub_ro {h : H} : ∀ {bs : List Nat} {b : Nat} {x : B}, (subH h bs).t.get b = some x → x.isRo = false
 | [], b, x, e => by cases e
 | c :: bs, b, x, e => by
   have e : (match h.t.get c with | some x => bif x.isRo then (subH h bs).t else (subH h bs).t.set c x | none => (subH h bs).t).get b = some x := e
   cases hc : h.t.get c with
   | none => rw [hc] at e; exact sub_ro e
   | some y =>
     rw [hc] at e
     dsimp only at e
     cases hro : y.isRo with
     | true => rw [hro, cond_true] at e; exact sub_ro e
     | false =>
       rw [hro, cond_false] at e
       rcases Gv.T.get_set e with ⟨rfl, rfl⟩ | ⟨_, e⟩
       · exact hro
       · exact sub_ro e
theorem HRel.subB (r : HRel G φ h w) (bs : List Nat) : HRel G φ (subH h bs) w :=
 ⟨fun b x l hb hl => r.blk b x l (sub_get hb).2 hl, fun b b' x x' l l' h1 h2 => r.inj b b' x x' l l' (sub_get h1).2 (sub_get h2).2, fun b hb => by
  cases hx : (subH h bs).t.get b with
  | none => rfl
  | some x => have := (sub_get hx).2; rw [r.fresh b hb] at this; cases this⟩
theorem sub_foot {k : Nat} {bs : List Nat} (hf : Foot φ (subH h bs) k) : Foot φ h k := by
 obtain ⟨b, x, l, h1, h2, h3⟩ := hf
 exact ⟨b, x, l, (sub_get h1).2, h2, h3⟩
theorem BRel.same {φ' : Mp} {x y : B} {l : Loc} (hs : sameBk x y = true) (hφ : φ.le φ') (hx : BRel G φ x l w) (hy : BRel G φ' y l w') : BRel G φ x l w' := by
 cases x with
 | cells cs n sz ex =>
   cases y with
   | cells cs' n' sz' ex' =>
     have hs : (Nat.beq n n' && (Nat.beq sz sz' && (sameBool ex ex' && sameCs cs cs' n))) = true := hs
     simp only [Bool.and_eq_true, nbeq, decide_eq_true_eq] at hs
     obtain ⟨rfl, rfl, he, hc⟩ := hs
     obtain ⟨C, e, h1, h2, h3, h5⟩ := hx
     obtain ⟨C', e', g1, g2, g3, g5⟩ := hy
     refine ⟨C', e', g1, g2, fun h => g3 (by revert he; subst h; cases ex' <;> intro he <;> first | rfl | cases he), fun i v hi hv => ?_⟩
     obtain ⟨u, hu, hcu⟩ := h5 i v hi hv
     obtain ⟨u', hu', hcu'⟩ := g5 i v hi (sameCs_ok hc i v hi hv)
     have := conc_mono hφ hu
     rw [this] at hu'
     cases hu'
     exact ⟨u, hu, hcu'⟩
   | map _ _ _ => cases hs
   | iter _ _ _ _ => cases hs
   | ro _ _ => cases hs
 | map es bs clk =>
   cases y with
   | map es' bs' clk' =>
     have hs : (sameEs es es' && (sameNs bs bs' && Nat.beq clk clk')) = true := hs
     simp only [Bool.and_eq_true, nbeq, decide_eq_true_eq] at hs
     obtain ⟨h1, h2, rfl⟩ := hs
     have := sameEs_eq h1
     have := sameNs_eq h2
     subst es' bs'
     obtain ⟨E, _, _, _, h5⟩ := hx
     obtain ⟨E', g1, g2, g3, g5⟩ := hy
     refine ⟨E', g1, g2, g3, fun i k v hi => ?_⟩
     obtain ⟨e, _, hk, hv⟩ := h5 i k v hi
     obtain ⟨e', ge, gk, gv⟩ := g5 i k v hi
     rw [conc_mono hφ hk] at gk
     rw [conc_mono hφ hv] at gv
     exact ⟨e', ge, hk.trans gk, hv.trans gv⟩
   | cells _ _ _ _ => cases hs
   | iter _ _ _ _ => cases hs
   | ro _ _ => cases hs
 | iter _ _ _ _ => cases y <;> cases hs
 | ro _ _ => cases y <;> cases hs
theorem sameOld_ok {hs h' : H} : ∀ {bs : List Nat}, sameOld hs h' bs = true → ∀ b ∈ bs, ∀ x, hs.t.get b = some x → ∃ y, h'.t.get b = some y ∧ sameBk x y = true
 | [], _, b, hb, _, _ => by cases hb
 | c :: bs, e, b, hb, x, hx => by
   have e : (match hs.t.get c with
    | some x => (match h'.t.get c with | some y => bif sameBk x y then sameOld hs h' bs else false | none => false)
    | none => sameOld hs h' bs) = true := e
   by_cases hbc : b = c
   · subst hbc
     rw [hx] at e
     dsimp only at e
     split at e
     · rename_i y hy
       cases hq : sameBk x y with
       | false => rw [hq] at e; cases e
       | true => exact ⟨y, hy, hq⟩
     · cases e
   · have hb' : b ∈ bs := by
      rcases List.mem_cons.1 hb with h | h
      · exact absurd h hbc
      · exact h
     cases h1 : hs.t.get c with
     | none => rw [h1] at e; exact sameOld_ok e b hb' x hx
     | some x1 =>
       rw [h1] at e
       dsimp only at e
       cases h2 : h'.t.get c with
       | none => rw [h2] at e; cases e
       | some y =>
         rw [h2] at e
         dsimp only at e
         cases hq : sameBk x1 y with
         | false => rw [hq] at e; cases e
         | true => rw [hq] at e; exact sameOld_ok e b hb' x hx
theorem HRel.again {φ' : Mp} {bs : List Nat} (r : HRel G φ h w) (r' : HRel G φ' h' w') (f : WFrame G base φ (subH h bs) w w') (hφ : φ.le φ') (hso : sameOld (subH h bs) h' bs = true) (hbase : ∀ k, Foot φ h k → k < base) : HRel G φ h w' := by
 refine ⟨fun b x l hb hl => ?_, r.inj, r.fresh⟩
 cases hx : (subH h bs).t.get b with
 | some y =>
   obtain ⟨hbm, hby⟩ := sub_get hx
   rw [hb] at hby
   cases hby
   obtain ⟨y, hy, hq⟩ := sameOld_ok hso b hbm x hx
   exact (r.blk b x l hb hl).same hq hφ (r'.blk b y l hy (hφ _ _ hl))
 | none =>
   refine (r.blk b x l hb hl).mono (Mp.le_refl _) (f.block l.blk (hbase _ ⟨b, x, l, hb, hl, rfl⟩) ?_)
   rintro ⟨b', x', l', h1, h2, h3⟩
   rcases r.inj _ _ _ _ _ _ (sub_get h1).2 hb h2 hl h3 with this | ⟨ha, _⟩
   · subst this
     rw [hx] at h1
     cases h1
   · rw [sub_ro h1] at ha
     cases ha
theorem keepsF_ok {s s' : Fr} {ds : List Nat} : ∀ {n : Nat}, keepsF s s' ds n = true → ∀ t, t < n → t ∈ ds ∨ (Fr.get t).v s = (Fr.get t).v s'
 | 0, _, t, ht => absurd ht (Nat.not_lt_zero _)
 | n + 1, e, t, ht => by
   have e : (bif hasN n ds || sameV ((Fr.get n).v s) ((Fr.get n).v s') then keepsF s s' ds n else false) = true := e
   cases hc : (hasN n ds || sameV ((Fr.get n).v s) ((Fr.get n).v s')) with
   | false => rw [hc] at e; cases e
   | true =>
     rw [hc, cond_true] at e
     by_cases htn : t = n
     · subst htn
       rw [Bool.or_eq_true, hasN_ok] at hc
       rcases hc with hc | hc
       · exact .inl (by simpa using hc)
       · exact .inr (sameV_eq hc)
     · exact keepsF_ok e t (by omega)
def plC (G : Gh) (v : V) : Value := match v with | .bool b => .bool b | .int k n => .int k n | .sint k c ts => .int k (c + den G.σ ts) | .str n x => .string ⟨(strL n x).toArray⟩ | .opq i => G.ε i | _ => undef
theorem isPl_conc (hp : isPl v = true) (φ : Mp) : conc G φ v = some (plC G v) := by
 cases v <;> first | (rw [conc]; rfl) | cases hp
theorem allPl_conc : ∀ {l : List V}, allPl l = true → ∀ φ, concL G φ l = some (l.map (plC G))
 | [], _, φ => concL_nil
 | x :: l, e, φ => by
   have e : (bif isPl x then allPl l else false) = true := e
   cases hx : isPl x with
   | false => rw [hx] at e; cases e
   | true => rw [hx] at e; exact concL_cons.2 ⟨_, _, isPl_conc hx φ, allPl_conc e φ, rfl⟩
theorem marksF_ok {n : Nat} : ∀ {l : List Nat} {s s1 : Fr} {tm : Array Value}, marksF n s l = some s1 → WRel G φ s tm → WRel G φ s1 tm
 | [], s, s1, tm, e, T => by cases e; exact T
 | t :: l, s, s1, tm, e, T => by
   have e : (match marksF n s l with | some s => putW n (some t) wild s | none => none) = some s1 := e
   cases hs : marksF n s l with
   | none => rw [hs] at e; cases e
   | some s2 =>
     rw [hs] at e
     have T2 := marksF_ok hs T
     dsimp only at e
     unfold putW putD at e
     cases hd : (Nat.blt t n && Nat.blt t 4096) with
     | false => simp only [hd] at e; cases e
     | true =>
       simp only [hd, cond_true] at e
       cases e
       rw [Bool.and_eq_true, nblt, nblt, decide_eq_true_eq, decide_eq_true_eq] at hd
       intro q hq
       rw [Fr.get_set _ _ hd.2 hq]
       by_cases hqt : q = t
       · rw [if_pos hqt]; exact .inl isW_wild
       · rw [if_neg hqt]; exact T2 q hq
theorem marksF_in {n : Nat} : ∀ {l : List Nat} {s s1 : Fr}, marksF n s l = some s1 → ∀ t ∈ l, t < 4096 ∧ isW ((Fr.get t).v s1) = true
 | [], s, s1, e, t, ht => by cases ht
 | q :: l, s, s1, e, t, ht => by
   have e : (match marksF n s l with | some s => putW n (some q) wild s | none => none) = some s1 := e
   cases hs : marksF n s l with
   | none => rw [hs] at e; cases e
   | some s2 =>
     rw [hs] at e
     dsimp only at e
     unfold putW putD at e
     cases hd : (Nat.blt q n && Nat.blt q 4096) with
     | false => simp only [hd] at e; cases e
     | true =>
       simp only [hd, cond_true] at e
       cases e
       rw [Bool.and_eq_true, nblt, nblt, decide_eq_true_eq, decide_eq_true_eq] at hd
       by_cases htq : t = q
       · subst htq
         rw [Fr.get_set _ _ hd.2 hd.2, if_pos rfl]
         exact ⟨hd.2, isW_wild⟩
       · have hl : t ∈ l := by
          rcases List.mem_cons.1 ht with h | h
          · exact absurd h htq
          · exact h
         obtain ⟨h1, h2⟩ := marksF_in hs t hl
         rw [Fr.get_set _ _ hd.2 h1, if_neg htq]
         exact ⟨h1, h2⟩
end
end Go.Proofs.YtmfmjhklajmhoaaGreat.Gv
namespace Go.Proofs.YtmfmjhklajmhoaaGreat.Gv
open Go Go.Sort
def ItAt (w : World) (itb : Nat) (El : Array MapEntry) (clk : Nat) (mb : Option Nat) (seen : List Nat) : Prop :=
 match mb with
 | none => El = #[] ∧ w.heap[itb]? = some (.mapIter none 0 #[] 0)
 | some bm => w.heap[bm]? = some (.map El clk) ∧ w.heap[itb]? = some (.mapIter (some bm) clk seen.toArray clk)
structure OnlyAt (b : Nat) (w w' : World) : Prop where
 os : w'.os = w.os
 tape : w'.tape = w.tape
 output : w'.output = w.output
 size : w'.heap.size = w.heap.size
 block : ∀ k, k ≠ b → w'.heap[k]? = w.heap[k]?
theorem it_next {P : Program} {w : World} {itb clk : Nat} {El : Array MapEntry} {mb : Option Nat} {seen : List Nat} (hI : ItAt w itb El clk mb seen) (hB : Born El.toList clk) (ty : TypeId) :
 ((∀ e ∈ El.toList, e.born ∈ seen) ∧ (Instr.next (.pointer (some ⟨itb, 0, none⟩)) false ty).run P w = .ok (.tuple #[.bool false]) w) ∨
 ∃ (j : Nat) (e : MapEntry) (w' : World), El.toList[j]? = some e ∧ e.born ∉ seen ∧ (Instr.next (.pointer (some ⟨itb, 0, none⟩)) false ty).run P w = .ok (.tuple #[.bool true, e.key, e.val]) w' ∧ ItAt w' itb El clk mb (seen ++ [e.born]) ∧ OnlyAt itb w w' := by
 cases mb with
 | none =>
   obtain ⟨rfl, hh⟩ := hI
   refine .inl ⟨by simp, ?_⟩
   simp [Instr.next, getObj_iter hh]
 | some bm =>
   obtain ⟨h1, h2⟩ := hI
   have hne : bm ≠ itb := fun e => by subst e; rw [h1] at h2; cases h2
   have hlt : itb < w.heap.size := (Array.getElem?_eq_some_iff.1 h2).1
   rcases run_next_at (P := P) w ty itb bm clk clk seen.toArray El clk h2 h1 hB.1 (Nat.le_refl _) with ⟨h3, hrun⟩ | ⟨e, he, w1, hw1, hrun⟩
   · refine .inl ⟨fun e he => ?_, hrun⟩
     have h4 : leftOf El seen.toArray = #[] := Array.eq_empty_of_size_eq_zero h3
     unfold leftOf at h4
     rw [Array.filter_eq_empty_iff] at h4
     have := h4 e (by simpa using he)
     simpa using this
   · have h5 := he
     unfold leftOf at h5
     rw [Array.toList_filter, List.mem_filter] at h5
     obtain ⟨h6, h7⟩ := h5
     obtain ⟨j, hj⟩ := List.mem_iff_getElem?.1 h6
     have hheap : w1.heap = w.heap := by rcases hw1 with rfl | rfl <;> rfl
     refine .inr ⟨j, e, _, hj, by simpa using h7, hrun, ⟨?_, ?_⟩, ?_, ?_, ?_, ?_, fun k hk => ?_⟩
     · simp [ChangeMaps.setBlock, hheap, Array.getElem?_setIfInBounds_ne (Ne.symm hne), h1]
     · simp [ChangeMaps.setBlock, hheap, hlt]
     · rcases hw1 with rfl | rfl <;> rfl
     · rcases hw1 with rfl | rfl <;> rfl
     · rcases hw1 with rfl | rfl <;> rfl
     · simp [ChangeMaps.setBlock, hheap]
     · simp [ChangeMaps.setBlock, hheap, Array.getElem?_setIfInBounds_ne (Ne.symm hk)]
theorem it_entry {P : Program} {w : World} {itb clk : Nat} {El : Array MapEntry} {mb : Option Nat} {seen : List Nat} {e : MapEntry} (hI : ItAt w itb El clk mb (seen ++ [e.born])) (hB : Born El.toList clk) (he : e ∈ El.toList) :
 (Instr.entry (.pointer (some ⟨itb, 0, none⟩))).run P w = .ok (.tuple #[e.key, e.val]) w := by
 cases mb with
 | none => obtain ⟨rfl, _⟩ := hI; simp at he
 | some bm =>
   obtain ⟨h1, h2⟩ := hI
   exact run_entry_at (P := P) w itb bm clk seen.toArray El clk e (by rw [h2]; simp) h1 he hB.2
section
variable {E : Env} {P : Program} {G : Gh} {φ : Mp} {h h' : H} {w w' : World} {s s' : Fr} {a : Act} {v : V} {o : Oper} {R : RowC}
theorem nodup_le {n : Nat} {l : List Nat} (hn : l.Nodup) (hl : ∀ j ∈ l, j < n) : l.length ≤ n := by
 have hp : l.Perm ((List.range n).filter fun j => l.contains j) := by
  refine (List.perm_ext_iff_of_nodup hn (List.nodup_range.filter _)).2 fun j => ?_
  rw [List.mem_filter, List.mem_range]
  simp only [List.contains_iff_mem]
  exact ⟨fun h => ⟨hl j h, h⟩, fun h => h.2⟩
 have h1 := hp.length_eq
 have h2 := List.length_filter_le (fun j => l.contains j) (List.range n)
 simp only [List.length_range] at h2
 omega
structure LInv (G : Gh) (φ : Mp) (R : RowC) (n : Nat) (i : LoopI) (ob : Option Nat) (s0 : Fr) (h1 : H) (bs : List Nat) (itb : Nat) (El : Array MapEntry) (clk : Nat) (mb : Option Nat) (bls : List (List V)) (a1 : Act) (w1 : World) (vi : List Nat) (a : Act) (w : World) : Prop where
 t : WRel G φ s0 a.tmps
 rel : HRel G φ h1 w
 it : ItAt w itb El clk mb (vi.map fun j => (El.toList[j]?.map (·.born)).getD 0)
 row : RowRel G φ R (itb + 1) (vi.map fun j => ((bls[j]?).getD []).map (plC G)).flatten (subH h1 bs) ob.toList [] a.tmps w
 frame : WFrame G itb φ h1 w1 w
 defers : a.defers = a1.defers
 size : a.tmps.size = n
 nodup : vi.Nodup
 lt : ∀ j ∈ vi, j < El.size
 big : itb < w.heap.size
theorem finW_ok {n : Nat} {ob : Option Nat} {s0 s3 : Fr} {hs h3 : H} {bs ds bt3 : List Nat} {bl3 bl : List V} {nx : Nat} (e : finW R n ob s0 hs bs ds s3 h3 bt3 bl3 = some (bl, nx)) :
 (∀ o, ob = some o → o ∈ bt3) ∧ (bl.length = 0 ∨ bl.length = R.k) ∧ allPl bl = true ∧ keepsF s0 s3 ds n = true ∧ sameOld hs h3 bs = true ∧ bl3 = bl ∧ h3.next = nx := by
 unfold finW at e
 cases hc : (hasO ob bt3 && ((Nat.beq bl3.length 0 || Nat.beq bl3.length R.k) && (allPl bl3 && (keepsF s0 s3 ds n && sameOld hs h3 bs)))) with
 | false => rw [hc] at e; cases e
 | true =>
   rw [hc] at e
   cases e
   simp only [Bool.and_eq_true, Bool.or_eq_true, nbeq, decide_eq_true_eq] at hc
   obtain ⟨h1, h2, h3', h4, h5⟩ := hc
   refine ⟨fun o ho => ?_, h2, h3', h4, h5, rfl, rfl⟩
   subst ho
   have h1 : hasN o bt3 = true := h1
   rw [hasN_ok] at h1
   simpa using h1
theorem bodyW_ok {n : Nat} {call : Call} {i : LoopI} {ob : Option Nat} {s0 : Fr} {hs : H} {bs ds : List Nat} {p : V × V} {bl : List V} {nx : Nat} (e : bodyW E R n call i ob s0 hs bs ds p = some (bl, nx)) :
 (bl.length = 0 ∨ bl.length = R.k) ∧ allPl bl = true := by
 unfold bodyW at e
 split at e
 · cases e
 · split at e
   · split at e
     · have := finW_ok e; exact ⟨this.2.1, this.2.2.1⟩
     · rename_i j _ _ _ _ _
       cases hj : Nat.beq j i.b3 with
       | false => rw [hj] at e; cases e
       | true => rw [hj] at e; have := finW_ok e; exact ⟨this.2.1, this.2.2.1⟩
     · cases e
   · cases e
theorem flat_le {α : Type} {k : Nat} : ∀ (L : List (List α)), (∀ c ∈ L, c.length ≤ k) → L.flatten.length ≤ L.length * k
 | [], _ => by simp
 | c :: L, hc => by
   rw [List.flatten_cons, List.length_append, List.length_cons, Nat.add_mul]
   have := flat_le L (fun c hc' => hc c (by simp [hc']))
   have := hc c (by simp)
   omega
theorem ItAt.frame {itb clk base : Nat} {El : Array MapEntry} {mb : Option Nat} {seen : List Nat} (hI : ItAt w itb El clk mb seen) (f : WFrame G base φ h w w') (h1 : itb < base ∧ ¬ Foot φ h itb) (h2 : ∀ bm, mb = some bm → bm < base ∧ ¬ Foot φ h bm) : ItAt w' itb El clk mb seen := by
 cases mb with
 | none => exact ⟨hI.1, (f.block _ h1.1 h1.2).trans hI.2⟩
 | some bm => exact ⟨(f.block _ (h2 bm rfl).1 (h2 bm rfl).2).trans hI.1, (f.block _ h1.1 h1.2).trans hI.2⟩
theorem isDst_ok {d : Nat} (e : isDst o d = true) : o.dst = some d := by
 unfold isDst at e
 split at e
 · rename_i x hx; rw [nbeq, decide_eq_true_eq] at e; rw [hx, e]
 · cases e
theorem isNext_ok {d : Nat} (e : isNext o d = true) : o.op = .next (.tmp d) false := by
 unfold isNext at e
 split at e
 · rename_i x hx; rw [nbeq, decide_eq_true_eq] at e; rw [hx, e]
 · cases e
theorem isFirst_ok {d : Nat} (e : isFirst o d = true) : o.op = .extract (.tmp d) 0 := by
 unfold isFirst at e
 split at e
 · rename_i x hx; rw [nbeq, decide_eq_true_eq] at e; rw [hx, e]
 · cases e
theorem isEntry_ok {d : Nat} (e : isEntry o d = true) : o.op = .entry (.tmp d) := by
 unfold isEntry at e
 split at e
 · rename_i x hx; rw [nbeq, decide_eq_true_eq] at e; rw [hx, e]
 · cases e
theorem shape_ok {i : LoopI} {n : Nat} (e : i.shape n = true) : i.o1.op = .next (.tmp i.it) false ∧ i.o1.dst = some i.d1 ∧ i.o1.guard = none ∧ i.o2.op = .extract (.tmp i.d1) 0 ∧ i.o2.dst = some i.d2 ∧ i.o2.guard = none ∧
 i.o3.op = .entry (.tmp i.it) ∧ i.o3.dst = some i.d3 ∧ i.o3.guard = none ∧ i.it < n ∧ i.d1 < n ∧ i.d2 < n ∧ i.d3 < n ∧ n ≤ 4096 ∧ i.it ≠ i.d1 ∧ i.it ≠ i.d2 := by
 unfold LoopI.shape at e
 simp only [List.all_cons, List.all_nil, Bool.and_true, Bool.and_eq_true, nblt, nble, nbeq, decide_eq_true_eq, Bool.not_eq_true', decide_eq_false_iff_not, Option.isNone_iff_eq_none] at e
 obtain ⟨e1, e2, e3, e4, e5, e6, e7, e8, e9, e10, e11, e12, e13, e14, e15, e16⟩ := e
 exact ⟨isNext_ok e1, isDst_ok e2, e3, isFirst_ok e4, isDst_ok e5, e6, isEntry_ok e7, isDst_ok e8, e9, e10, e11, e12, e13, e14, e15, e16⟩
theorem wanted_none {all : List Oper} {tm : Array Value} (hg : o.guard = none) : Region.wanted o (yielded all.toArray tm) = true := by unfold Region.wanted; simp only [hg]
theorem get_put_tmp {d t : Nat} {u : Value} (hd : d < a.tmps.size) : (a.put (some d) u).tmps.getD t undef = if t = d then u else a.tmps.getD t undef := by
 by_cases h : t = d
 · subst h; rw [if_pos rfl]; simp [Act.put, hd]
 · rw [if_neg h]; simp [Act.put, Array.getElem?_setIfInBounds_ne (Ne.symm h)]
theorem WRel.put {d : Nat} {u : Value} (T : WRel G φ s a.tmps) (hd : d < a.tmps.size) (hw : isW ((Fr.get d).v s) = true) : WRel G φ s (a.put (some d) u).tmps := by
 intro t ht
 rw [get_put_tmp hd]
 by_cases h : t = d
 · subst h; exact .inl hw
 · rw [if_neg h]; exact T t ht
theorem RowRel.put {base : Nat} {R0 : List Value} {bt : List Nat} {bl : List V} {d : Nat} {u : Value} (B : RowRel G φ R base R0 h bt bl a.tmps w) (hd : d < a.tmps.size) (hn : d ∉ bt) : RowRel G φ R base R0 h bt bl (a.put (some d) u).tmps w := by
 rcases B with rfl | ⟨v, n, us, h1, h2, h0, h3, h4⟩
 · exact .inl rfl
 · refine .inr ⟨v, n, us, h1, h2, h0, fun t ht => ⟨(h3 t ht).1, ?_⟩, h4⟩
   rw [get_put_tmp hd, if_neg (fun e => hn (by rw [← e]; exact ht))]
   exact (h3 t ht).2
theorem RowRel.only {base : Nat} {R0 : List Value} {bt : List Nat} {bl : List V} {tm : Array Value} {b : Nat} (B : RowRel G φ R base R0 h bt bl tm w) (hw : OnlyAt b w w') (hb : b < base) : RowRel G φ R base R0 h bt bl tm w' := by
 rcases B with rfl | ⟨v, n, us, h1, h2, h0, h3, h4⟩
 · exact .inl rfl
 · exact .inr ⟨v, n, us, h1, ownsRow_of_block h2 fun g hg => hw.block g (by have := (h2.lt g hg).1; omega), h0, h3, h4⟩
theorem round_ok (ok : EnvOk E P G) {call : Call} (ck : CallOk P G call) (hm : ¬ G.mono) {n : Nat} {i : LoopI} {ob : Option Nat} {s0 : Fr} {h1 : H} {bs ds : List Nat} {itb clk N : Nat} {El : Array MapEntry} {mb : Option Nat} {es : List (V × V)} {bls : List (List V)} {a1 : Act} {w1 : World} {vi : List Nat}
 (htot : R.tot = none) (hsh : i.shape n = true) (hds : ∀ t ∈ ds, isW ((Fr.get t).v s0) = true) (hd1 : i.d1 ∈ ds) (hd2 : i.d2 ∈ ds) (_hd3 : i.d3 ∈ ds) (hob : ∀ x, ob = some x → x ∈ ds ∧ x ≠ i.d1 ∧ x ≠ i.d2 ∧ x ≠ i.d3)
 {bt0 : Nat} (hit : (Fr.get i.it).v s0 = .ptr bt0 0) {lit : Loc} (hlit : φ bt0 = some lit) (hlb : lit.blk = itb)
 (hE : Ents G φ es El.toList) (hB : Born El.toList clk) (hbody : ∀ (j : Nat) p, es[j]? = some p → ∃ bl nx, bodyW E R n call i ob s0 (subH h1 bs) bs ds p = some (bl, nx) ∧ bls[j]? = some bl ∧ nx ≤ N) (hlen : El.size ≤ 1000) (hk : R.k ≤ 1000)
 (hf : Free φ h1.next N) (hfoot : ∀ k, Foot φ h1 k → k < itb) (hmb : ∀ bm, mb = some bm → bm < itb ∧ ¬ Foot φ (subH h1 bs) bm)
 (I : LInv G φ R n i ob s0 h1 bs itb El clk mb bls a1 w1 vi a w) :
 i.round.wp P (fun e a' w' => (e = .exit i.b ∧ LInv G φ R n i ob s0 h1 bs itb El clk mb bls a1 w1 vi a' w' ∧ ∀ j, j < El.size → j ∈ vi) ∨ (e = .normal ∧ ∃ j, j ∉ vi ∧ LInv G φ R n i ob s0 h1 bs itb El clk mb bls a1 w1 (vi ++ [j]) a' w')) a w := by
 obtain ⟨o1, p1, q1, o2, p2, q2, o3, p3, q3, l0, l1, l2, l3, l4, ne1, ne2⟩ := shape_ok hsh
 have hsz := I.size
 have hitv : a.tmps.getD i.it undef = .pointer (some ⟨itb, 0, none⟩) := by
  rcases I.t i.it (by omega) with hw | hc
  · rw [hit] at hw; cases hw
  · rw [hit, conc, hlit] at hc
    have := Option.some.inj hc
    rw [← this, hlb]
 have hobn : ∀ x ∈ ob.toList, x ≠ i.d1 ∧ x ≠ i.d2 ∧ x ≠ i.d3 := fun x hx => by
  have : ob = some x := by simpa using hx
  exact (hob x this).2
 unfold LoopI.round
 refine wp_seq (wp_region ?_)
 show wpOps P [i.o1, i.o2].toArray _ [0, 1] a w
 rw [wpOps_cons]
 unfold wpOp
 simp only [show [i.o1, i.o2].toArray[0]? = some i.o1 from rfl, wanted_none q1, if_true]
 refine .inl ?_
 have hex1 : execOp a.eval i.o1 = (do pure (.value (← Instr.next (.pointer (some ⟨itb, 0, none⟩)) false i.o1.type))) := by
  rw [← hitv]
  simp [execOp, o1, Act.eval]
 rcases it_next (P := P) I.it hB i.o1.type with ⟨hall, hrun⟩ | ⟨j, e, w2, hj, hnew, hrun, hI2, honly⟩
 ·
  refine Gives.wp (R := fun u w' => u = .tuple #[.bool false] ∧ w = w') (by rw [hex1]; simp only [Sem.run_bind, hrun, Result.andThen_ok]; exact ⟨rfl, rfl⟩) ?_
  rintro u w' ⟨rfl, rfl⟩
  rw [wpOps_cons]
  unfold wpOp
  simp only [show [i.o1, i.o2].toArray[1]? = some i.o2 from rfl, wanted_none q2, if_true]
  refine .inl ?_
  rw [p1]
  have hz1 : (a.put (some i.d1) (.tuple #[.bool false])).tmps.size = n := by simp [Act.put, hsz]
  have hex2 : execOp (a.put (some i.d1) (.tuple #[.bool false])).eval i.o2 = (do pure (.value (← Instr.extract (.tuple #[.bool false]) 0))) := by
   have hv : (a.put (some i.d1) (.tuple #[.bool false])).eval (.tmp i.d1) = .tuple #[.bool false] := (get_put_tmp (by omega)).trans (if_pos rfl)
   simp only [execOp, o2, hv]
  refine Gives.wp (R := fun u w' => u = .bool false ∧ w = w') (by rw [hex2]; exact ⟨rfl, rfl⟩) ?_
  rintro u w' ⟨rfl, rfl⟩
  rw [p2]
  show Code.wp P _ _ _ _
  refine wp_seq (wp_cond_false ?_ (wp_exit ?_))
  · exact (get_put_tmp (by omega)).trans (if_pos rfl)
  · refine .inl ⟨rfl, ⟨(I.t.put (by omega) (hds _ hd1)).put (by simp [Act.put]; omega) (hds _ hd2), I.rel, I.it, ?_, I.frame, I.defers, by simp [Act.put, hsz], I.nodup, I.lt, I.big⟩, fun j hj => ?_⟩
    · exact (I.row.put (by omega) (fun h => (hobn _ h).1 rfl)).put (by simp [Act.put]; omega) (fun h => (hobn _ h).2.1 rfl)
    · have hmem : El.toList[j] ∈ El.toList := List.getElem_mem (by simpa using hj)
      have h3 := hall _ hmem
      obtain ⟨j', hj', hb'⟩ := List.mem_map.1 h3
      have hj'l := I.lt j' hj'
      have e1 : El.toList[j']? = some El.toList[j'] := by simp [hj'l]
      rw [e1] at hb'
      have hb2 : El.toList[j'].born = El.toList[j].born := hb'
      have hnd := hB.2
      have : j' = j := by
       have h4 : (El.toList.map (·.born))[j']? = (El.toList.map (·.born))[j]? := by
        simp only [List.getElem?_map, e1]
        rw [show El.toList[j]? = some El.toList[j] by simp [hj]]
        simp only [Option.map_some, hb2]
       exact (List.getElem?_inj (by simpa using hj'l) hnd).1 h4
      rw [← this]; exact hj'
 ·
  have hjl : j < El.size := by have := (List.getElem?_eq_some_iff.1 hj).1; simpa using this
  have hmem : e ∈ El.toList := List.mem_of_getElem? hj
  obtain ⟨p, hp⟩ : ∃ p, es[j]? = some p := by
   have : j < es.length := by have := hE.1; simp at this; omega
   exact ⟨es[j], by simp [this]⟩
  obtain ⟨e', he', hkc, hvc⟩ := hE.2 j p.1 p.2 hp
  rw [hj] at he'
  cases he'
  refine Gives.wp (R := fun u w' => u = .tuple #[.bool true, e.key, e.val] ∧ w2 = w') (by rw [hex1]; simp only [Sem.run_bind, hrun, Result.andThen_ok]; exact ⟨rfl, rfl⟩) ?_
  rintro u w' ⟨rfl, rfl⟩
  rw [wpOps_cons]
  unfold wpOp
  simp only [show [i.o1, i.o2].toArray[1]? = some i.o2 from rfl, wanted_none q2, if_true]
  refine .inl ?_
  rw [p1]
  have hex2 : execOp (a.put (some i.d1) (.tuple #[.bool true, e.key, e.val])).eval i.o2 = (do pure (.value (← Instr.extract (.tuple #[.bool true, e.key, e.val]) 0))) := by
   have hv : (a.put (some i.d1) (.tuple #[.bool true, e.key, e.val])).eval (.tmp i.d1) = .tuple #[.bool true, e.key, e.val] := (get_put_tmp (by omega)).trans (if_pos rfl)
   simp only [execOp, o2, hv]
  refine Gives.wp (R := fun u w' => u = .bool true ∧ w2 = w') (by rw [hex2]; exact ⟨rfl, rfl⟩) ?_
  rintro u w' ⟨rfl, rfl⟩
  rw [p2]
  obtain ⟨a2, ha2⟩ : ∃ a2, a2 = (a.put (some i.d1) (.tuple #[.bool true, e.key, e.val])).put (some i.d2) (.bool true) := ⟨_, rfl⟩
  have hz2 : a2.tmps.size = n := by rw [ha2]; simp [Act.put, hsz]
  have hT2 : WRel G φ s0 a2.tmps := by rw [ha2]; exact (I.t.put (by omega) (hds _ hd1)).put (by simp [Act.put]; omega) (hds _ hd2)
  have hd2v : a2.tmps.getD i.d2 undef = .bool true := by rw [ha2]; exact (get_put_tmp (by simp [Act.put]; omega)).trans (if_pos rfl)
  have hitv2 : a2.tmps.getD i.it undef = .pointer (some ⟨itb, 0, none⟩) := by
   rw [ha2, get_put_tmp (by simp [Act.put]; omega), if_neg ne2, get_put_tmp (by omega), if_neg ne1]; exact hitv
  have hdf2 : a2.defers = a1.defers := by rw [ha2]; exact I.defers
  have hrow2 : RowRel G φ R (itb + 1) (vi.map fun j => ((bls[j]?).getD []).map (plC G)).flatten (subH h1 bs) ob.toList [] a2.tmps w2 := by
   rw [ha2]
   exact ((I.row.put (by omega) (fun h => (hobn _ h).1 rfl)).put (by simp [Act.put]; omega) (fun h => (hobn _ h).2.1 rfl)).only honly (by omega)
  rw [← ha2]
  show Code.wp P _ _ _ _
  refine wp_seq (wp_cond_true hd2v (wp_skip ?_))
  show Code.wp P _ _ _ _
  refine wp_block (wp_seq (wp_region ?_))
  rw [show List.range (i.o3 :: i.rest).toArray.size = 0 :: List.range' 1 i.rest.length by simp [List.range_eq_range', List.range'_succ], wpOps_cons]
  unfold wpOp
  simp only [show (i.o3 :: i.rest).toArray[0]? = some i.o3 from rfl, wanted_none q3, if_true]
  refine .inl ?_
  have hrel2 : HRel G φ h1 w2 := I.rel.frame (Mp.le_refl _) (fun _ _ _ _ h => h) (fun k hk => honly.block k (by have := hfoot k hk; omega))
  have hen : (Instr.entry (.pointer (some ⟨itb, 0, none⟩))).run P w2 = .ok (.tuple #[e.key, e.val]) w2 := it_entry hI2 hB hmem
  have hex3 : execOp a2.eval i.o3 = (do pure (.value (← Instr.entry (.pointer (some ⟨itb, 0, none⟩))))) := by
   rw [← hitv2]
   simp [execOp, o3, Act.eval]
  refine Gives.wp (R := fun u w' => u = .tuple #[e.key, e.val] ∧ w2 = w') (by rw [hex3]; simp only [Sem.run_bind, hen, Result.andThen_ok]; exact ⟨rfl, rfl⟩) ?_
  rintro u w' ⟨rfl, rfl⟩
  rw [p3]
  obtain ⟨bl, nx, hbw, hblj, hnx⟩ := hbody j p hp
  unfold bodyW at hbw
  split at hbw
  · cases hbw
  · rename_i s1 hs1
    have hs1' : putW a2.tmps.size (some i.d3) (.tuple [p.1, p.2]) s0 = some s1 := by rw [hz2]; exact hs1
    obtain ⟨T3, hdf3, hz3, _, hoth3, _⟩ := putW_ok (u := .tuple #[e.key, e.val]) hs1' hT2 (.inr (tuple2 hkc hvc))
    have hrow3 : RowRel G φ R (itb + 1) (vi.map fun j => ((bls[j]?).getD []).map (plC G)).flatten (subH h1 bs) ob.toList [] (a2.put (some i.d3) (.tuple #[e.key, e.val])).tmps w2 := hrow2.put (by omega) (fun h => (hobn _ h).2.2 rfl)
    obtain ⟨a3, ha3⟩ : ∃ a3, a3 = a2.put (some i.d3) (.tuple #[e.key, e.val]) := ⟨_, rfl⟩
    rw [← ha3] at T3 hdf3 hz3 hrow3 hoth3
    rw [← ha3]
    have tok : ∀ R0, TotOk P G R R0 := fun R0 => ⟨fun rows hr => by rw [htot] at hr; cases hr⟩
    have hR0 : ((vi.map fun j => ((bls[j]?).getD []).map (plC G)).flatten).length ≤ 1000000 := by
     have h5 := flat_le (k := 1000) (vi.map fun j => ((bls[j]?).getD []).map (plC G)) (fun c hc => by
      obtain ⟨q, hq, rfl⟩ := List.mem_map.1 hc
      obtain ⟨pq, hpq⟩ : ∃ pq, es[q]? = some pq := by
       have : q < es.length := by have h6 := hE.1; have h7 := I.lt q hq; simp at h6; omega
       exact ⟨es[q], by simp [this]⟩
      obtain ⟨blq, nxq, h8, h9, _⟩ := hbody q pq hpq
      rw [h9]
      have := (bodyW_ok h8).1
      simp only [Option.getD_some, List.length_map]
      omega)
     have h6 : vi.length ≤ El.size := by
      exact nodup_le I.nodup I.lt
     have h7 : vi.length * 1000 ≤ 1000 * 1000 := Nat.mul_le_mul_right _ (by omega)
     rw [List.length_map] at h5
     omega
    have hfin : ∀ (s3 : Fr) (h3 : H) (bt3 : List Nat) (bl3 : List V) (φ5 : Mp) (a5 : Act) (w5 : World), finW R n ob s0 (subH h1 bs) bs ds s3 h3 bt3 bl3 = some (bl, nx) → WRel G φ5 s3 a5.tmps →
     RowRel G φ5 R (itb + 1) (vi.map fun j => ((bls[j]?).getD []).map (plC G)).flatten h3 bt3 bl3 a5.tmps w5 → HRel G φ5 h3 w5 → WFrame G (itb + 1) φ (subH h1 bs) w2 w5 → φ.le φ5 → a5.defers = a3.defers → a5.tmps.size = a3.tmps.size →
     LInv G φ R n i ob s0 h1 bs itb El clk mb bls a1 w1 (vi ++ [j]) a5 w5 := by
     intro s3 h3 bt3 bl3 φ5 a5 w5 hfw T5 B5 r5 f5 hle hd5 hz5
     obtain ⟨g1, g2, g3, g4, g5, rfl, g7⟩ := finW_ok hfw
     have hz5n : a5.tmps.size = n := by rw [hz5, hz3, hz2]
     have hfo : ∀ k, Foot φ (subH h1 bs) k → k < itb := fun k hk => hfoot k (sub_foot hk)
     refine ⟨fun t ht => ?_, hrel2.again r5 f5 hle g5 (fun k hk => Nat.lt_succ_of_lt (hfoot k hk)), ?_, ?_, ?_, hd5.trans (hdf3.trans hdf2), hz5n, ?_, ?_, ?_⟩
     · rcases hT2 t ht with hw | hc
       · exact .inl hw
       · by_cases htn : t < n
         · rcases keepsF_ok g4 t htn with hd | hs
           · exact .inl (hds t hd)
           · rcases T5 t ht with hw5 | hc5
             · rw [← hs] at hw5; exact .inl hw5
             · right
               rw [← hs, conc_mono hle hc] at hc5
               rw [hc, Option.some.inj hc5]
         · right
           rw [hc]
           have e1 : a2.tmps.getD t undef = undef := by simp [show a2.tmps.size ≤ t by omega]
           have e2 : a5.tmps.getD t undef = undef := by simp [show a5.tmps.size ≤ t by omega]
           rw [e1, e2]
     · rw [List.map_append, List.map_singleton, hj]
       exact hI2.frame f5 ⟨Nat.lt_succ_self _, fun hk => by have := hfo _ hk; omega⟩ (fun bm hbm => ⟨Nat.lt_succ_of_lt (hmb bm hbm).1, (hmb bm hbm).2⟩)
     · cases hob' : ob with
       | none => exact .inl rfl
       | some x =>
         have hx := g1 x hob'
         rcases B5 with rfl | ⟨v, nn, us, c1, c2, c0, c3, c4⟩
         · cases hx
         · have hus : us = bl3.map (plC G) := by
            have := allPl_conc (G := G) g3 φ5
            rw [c1] at this
            exact Option.some.inj this
           refine .inr ⟨v, nn, [], concL_nil, ?_, c0, fun t ht => ?_, fun g hg hff => ?_⟩
           · rw [List.append_nil, List.map_append, List.flatten_append, List.map_singleton, hblj]
             simp only [Option.getD_some, List.flatten_cons, List.flatten_nil, List.append_nil]
             rw [← hus]
             exact c2
           · have : t = x := by simpa using ht
             subst this
             exact c3 t hx
           · have h8 := hfo g hff
             have h9 := (c2.lt g hg).1
             omega
     · refine ⟨fun h => (hm h).elim, f5.os.trans (honly.os.trans I.frame.os), f5.tape.trans (honly.tape.trans I.frame.tape), f5.output.trans (honly.output.trans I.frame.output), ?_, fun k hk hn => ?_⟩
       · have := f5.size; have := honly.size; have := I.frame.size; omega
       · rw [f5.block k (by omega) (fun hh => hn (sub_foot hh)), honly.block k (by omega)]
         exact I.frame.block k hk hn
     · rw [List.nodup_append]
       refine ⟨I.nodup, by simp, fun x hx y hy => ?_⟩
       have : y = j := by simpa using hy
       subst this
       intro hxy
       subst hxy
       exact hnew (List.mem_map.2 ⟨x, hx, by rw [hj]; rfl⟩)
     · intro q hq
       rcases List.mem_append.1 hq with hq | hq
       · exact I.lt q hq
       · have : q = j := by simpa using hq
         rw [this]; exact hjl
     · have := f5.size; have := honly.size; have := I.big; omega
    have hjvi : j ∉ vi := fun hjv => hnew (List.mem_map.2 ⟨j, hjv, by rw [hj]; rfl⟩)
    have hbig2 : itb + 1 ≤ w2.heap.size := by have := honly.size; have := I.big; omega
    split at hbw
    · rename_i s2 h2 bt2 bl2 hops
      obtain ⟨n1, k1⟩ := opsW_ok (Q := fun _ _ _ => True) ok ck hm i.rest 1 (all := i.o3 :: i.rest) (fun q => by rw [Nat.add_comm, List.getElem?_cons_succ]) _ _ _ _ _ _ _ _ hops
      have cont : ∀ (e6 : Exit) (s3 : Fr) (h3 : H) (bt3 : List Nat) (bl3 : List V), ArrW (codeW E R n call i.body s2 h2 bt2 bl2) e6 s3 h3 bt3 bl3 → finW R n ob s0 (subH h1 bs) bs ds s3 h3 bt3 bl3 = some (bl, nx) → (e6 = .normal ∨ e6 = .exit i.b3) →
       wpOps P (i.o3 :: i.rest).toArray (Exit.then (i.body.wp P (Exit.inBlock i.b3 fun e a' w' => (e = .exit i.b ∧ LInv G φ R n i ob s0 h1 bs itb El clk mb bls a1 w1 vi a' w' ∧ ∀ j, j < El.size → j ∈ vi) ∨ (e = .normal ∧ ∃ j, j ∉ vi ∧ LInv G φ R n i ob s0 h1 bs itb El clk mb bls a1 w1 (vi ++ [j]) a' w')))
        (Exit.inBlock i.b3 fun e a' w' => (e = .exit i.b ∧ LInv G φ R n i ob s0 h1 bs itb El clk mb bls a1 w1 vi a' w' ∧ ∀ j, j < El.size → j ∈ vi) ∨ (e = .normal ∧ ∃ j, j ∉ vi ∧ LInv G φ R n i ob s0 h1 bs itb El clk mb bls a1 w1 (vi ++ [j]) a' w'))) (List.range' 1 i.rest.length) a3 w2 := by
       intro e6 s3 h3 bt3 bl3 A hfw he6
       obtain ⟨n2, k2⟩ := codeW_ok ok ck hm i.body s2 h2 bt2 bl2 e6 s3 h3 bt3 bl3 A
       have hnx3 := (finW_ok hfw).2.2.2.2.2.2
       have hfr : Free φ (subH h1 bs).next h2.next := hf.left (by omega)
       refine (opsW_ok ok ck hm i.rest 1 (all := i.o3 :: i.rest) (fun q => by rw [Nat.add_comm, List.getElem?_cons_succ]) _ _ _ _ _ _ _ _ hops).2 φ a3 w2 (itb + 1) _ T3 hrow3 (hrel2.subB bs) hfr (by rw [hz3, hz2]) hbig2 hR0 (tok _) ?_
       rintro a4 w4 ⟨φ4, T4, B4, r4, f4, x4, hd4, hz4⟩
       show i.body.wp P _ a4 w4
       have hfr4 : Free φ4 h2.next h3.next := fun b hb1 hb2 => x4.new b (hf b (by have := n1; have e : (subH h1 bs).next = h1.next := rfl; omega) (by omega)) (.inr hb1)
       refine wp_mono (k2 φ4 a4 w4 (itb + 1) _ T4 B4 r4 hfr4 (by rw [hz4, hz3, hz2]) (Nat.le_trans hbig2 f4.size) hR0 (tok _)) ?_
       rintro e5 a5 w5 ⟨rfl, φ5, T5, B5, r5, f5, x5, hd5, hz5⟩
       have L := hfin s3 h3 bt3 bl3 φ5 a5 w5 hfw T5 B5 r5 (f4.trans x4 f5) (Mp.le_trans x4.le x5.le) (hd5.trans hd4) (hz5.trans hz4)
       rcases he6 with rfl | rfl
       · exact .inr ⟨rfl, j, hjvi, L⟩
       · show if i.b3 = i.b3 then _ else _
         rw [if_pos rfl]
         exact .inr ⟨rfl, j, hjvi, L⟩
      split at hbw
      · rename_i s3 h3 bt3 bl3 hcode
        exact cont .normal s3 h3 bt3 bl3 (.inl ⟨hcode, rfl⟩) hbw (.inl rfl)
      · rename_i q s3 h3 bt3 bl3 hcode
        cases hq : Nat.beq q i.b3 with
        | false => rw [hq] at hbw; cases hbw
        | true =>
          rw [hq, cond_true] at hbw
          rw [nbeq, decide_eq_true_eq] at hq
          exact cont (.exit q) s3 h3 bt3 bl3 (.inr (.inl ⟨q, hcode, rfl⟩)) hbw (.inr (by rw [hq]))
      · cases hbw
    · cases hbw
end
end Go.Proofs.YtmfmjhklajmhoaaGreat.Gv
namespace Go.Proofs.YtmfmjhklajmhoaaGreat.Gv
open Go Go.Sort
structure RangeI where
 r0 : Nat
 pre : List Oper
 o0 : Oper
 t : Nat
 m : Nat
 L : LoopI
def RangeI.code (x : RangeI) : Code := .seq (.region x.r0 (x.pre ++ [x.o0]).toArray false) x.L.code
def rangeOf (n : Nat) (c : Code) : Option RangeI :=
 match c with
 | .seq (.region r0 ops0 false) l => (match loopOf n l, ops0.toList.reverse with
   | some i, o0 :: rp => (match o0.op with
     | .range t (.tmp m) => bif isDst o0 i.it && (o0.guard.isNone && Nat.blt m 4096) then some ⟨r0, rp.reverse, o0, t, m, i⟩ else none
     | _ => none)
   | _, _ => none)
 | _ => none
theorem rangeOf_ok {n : Nat} {c : Code} {x : RangeI} (e : rangeOf n c = some x) : c = x.code ∧ x.L.shape n = true ∧ x.o0.op = .range x.t (.tmp x.m) ∧ x.o0.dst = some x.L.it ∧ x.o0.guard = none ∧ x.m < 4096 := by
 unfold rangeOf at e
 split at e
 · rename_i r0 ops0 l
   split at e
   · rename_i i o0 rp hi ho
     split at e
     · rename_i t m hop
       cases hc : (isDst o0 i.it && (o0.guard.isNone && Nat.blt m 4096)) with
       | false => rw [hc] at e; cases e
       | true =>
         rw [hc] at e
         cases e
         simp only [Bool.and_eq_true, nblt, decide_eq_true_eq, Option.isNone_iff_eq_none] at hc
         obtain ⟨h1, h2⟩ := loopOf_ok hi
         refine ⟨?_, h2, hop, isDst_ok hc.1, hc.2.1, hc.2.2⟩
         have e0 : ops0 = (rp.reverse ++ [o0]).toArray := by
          apply Array.toList_inj.1
          have := congrArg List.reverse ho
          rw [List.reverse_reverse, List.reverse_cons] at this
          exact this
         rw [h1, e0]
         rfl
     · cases e
   · cases e
 · cases e
noncomputable def frV (n : Nat) (s : Fr) : List V := Nat.rec (motive := fun _ => List V) [] (fun t ih => (Fr.get t).v s :: ih) n
noncomputable def esC (es : List (V × V)) : List V := List.rec (motive := fun _ => List V) [] (fun p _ ih => p.2.cells ++ ih) es
noncomputable def isNilS (v : V) : Bool := match v with | .nilslice => true | _ => false
noncomputable def goodO (ob : Option Nat) (i : LoopI) (s1 : Fr) (ds : List Nat) : Bool := match ob with | some o => hasN o ds && (!Nat.beq o i.d1 && (!Nat.beq o i.d2 && (!Nat.beq o i.d3 && isNilS ((Fr.get o).v s1)))) | none => true
noncomputable def goodM (mb : Option Nat) (bs : List Nat) : Bool := match mb with | some b => !hasN b bs | none => true
noncomputable def goodW (R : RowC) (ob : Option Nat) (i : LoopI) (s1 : Fr) (ds bs : List Nat) (mb : Option Nat) (es : List (V × V)) : Bool :=
 !hasN i.it ds && (hasN i.d1 ds && (hasN i.d2 ds && (hasN i.d3 ds && (goodO ob i s1 ds && (goodM mb bs && (Nat.ble es.length 1000 && Nat.ble R.k 1000))))))
noncomputable def ruleW (E : Env) (R : RowC) (n : Nat) (call : Call) (ob : Option Nat) (x : RangeI) (s : Fr) (h : H) : Option (Fr × H × List (List V)) :=
 match (opsF E n (x.pre ++ [x.o0]) x.pre).v call s h with
 | .bad _ _ => none
 | .ok s1 h1 => match (E.tyOf x.t).k, (match (Fr.get x.m).v s1 with
  | .nilmap => some ((none : Option Nat), ([] : List (V × V)))
  | .map b => (match h1.t.get b with | some (.map es _ _) => some (some b, es) | _ => none)
  | _ => none) with
   | .map _ _, some (mb, es) => (fun (ds : List Nat) => match putW n (some x.L.it) (.ptr h1.next 0) s1 with
     | none => none
     | some s2 => match marksF n s2 ds with
       | none => none
       | some s0 => (fun (bs : List Nat) => bif goodW R ob x.L s1 ds bs mb es then
        (match bodiesW (bodyW E R n call x.L ob s0 (subH ⟨h1.t, h1.next + 1⟩ bs) bs ds) es with
        | some (bls, N) => some (s0, ⟨h1.t, bif Nat.ble N (h1.next + 1) then h1.next + 1 else N⟩, bls)
        | none => none) else none) (refC (frV n s0 ++ esC es))) (dstsC x.L.code)
   | _, _ => none
noncomputable def askW (E : Env) (R : RowC) (n : Nat) (call : Call) (i : LoopI) (ob : Option Nat) (s0 : Fr) (hs : H) (p : V × V) : Nat :=
 match putW n (some i.d3) (.tuple [p.1, p.2]) s0 with
 | none => 0
 | some s1 => match opsW E R n (i.o3 :: i.rest) call i.rest s1 hs ob.toList [] with
   | .nx s2 h2 bt2 bl2 => (match codeW E R n call i.body s2 h2 bt2 bl2 with
     | .bad _ x => x
     | _ => 0)
   | .bad _ x => x
   | _ => 0
noncomputable def asksW (f : V × V → Nat) (es : List (V × V)) : Nat := List.rec (motive := fun _ => Nat) 0 (fun p _ ih => (fun (x : Nat) => bif Nat.beq x 0 then ih else x) (f p)) es
noncomputable def ruleAsk (E : Env) (R : RowC) (n : Nat) (call : Call) (ob : Option Nat) (x : RangeI) (s : Fr) (h : H) : Nat :=
 match (opsF E n (x.pre ++ [x.o0]) x.pre).v call s h with
 | .bad _ x => x
 | .ok s1 h1 => match (match (Fr.get x.m).v s1 with
  | .map b => (match h1.t.get b with | some (.map es _ _) => es | _ => [])
  | _ => []) with
   | es => (fun (ds : List Nat) => match putW n (some x.L.it) (.ptr h1.next 0) s1 with
     | none => 0
     | some s2 => match marksF n s2 ds with
       | none => 0
       | some s0 => (fun (bs : List Nat) => asksW (askW E R n call x.L ob s0 (subH ⟨h1.t, h1.next + 1⟩ bs)) es) (refC (frV n s0 ++ esC es))) (dstsC x.L.code)
section
variable {E : Env} {P : Program} {G : Gh} {φ : Mp} {h h' : H} {w w' : World} {s s' : Fr} {a : Act} {v : V} {o : Oper} {R : RowC}
theorem bodiesW_ok {f : V × V → Option (List V × Nat)} : ∀ {es : List (V × V)} {bls : List (List V)} {N : Nat}, bodiesW f es = some (bls, N) → bls.length = es.length ∧ ∀ (j : Nat) p, es[j]? = some p → ∃ bl nx, f p = some (bl, nx) ∧ bls[j]? = some bl ∧ nx ≤ N
 | [], bls, N, e => by cases e; exact ⟨rfl, fun j p h => by simp at h⟩
 | q :: es, bls, N, e => by
   have e : (match f q, bodiesW f es with
    | some x, some y => some (x.1 :: y.1, bif Nat.ble x.2 y.2 then y.2 else x.2)
    | _, _ => none) = some (bls, N) := e
   cases hf : f q with
   | none => rw [hf] at e; cases e
   | some x =>
     cases hr : bodiesW f es with
     | none => rw [hf, hr] at e; cases e
     | some y =>
       rw [hf, hr] at e
       cases e
       obtain ⟨h1, h2⟩ := bodiesW_ok (bls := y.1) (N := y.2) hr
       have hN : x.2 ≤ (bif Nat.ble x.2 y.2 then y.2 else x.2) ∧ y.2 ≤ (bif Nat.ble x.2 y.2 then y.2 else x.2) := by
        cases hb : Nat.ble x.2 y.2 with
        | true => rw [nble, decide_eq_true_eq] at hb; simp only [cond_true]; omega
        | false => rw [nble, decide_eq_false_iff_not] at hb; simp only [cond_false]; omega
       refine ⟨by simp [h1], fun j p hp => ?_⟩
       cases j with
       | zero => simp at hp; subst hp; exact ⟨x.1, x.2, hf, by simp, hN.1⟩
       | succ j =>
         obtain ⟨bl, nx, g1, g2, g3⟩ := h2 j p (by simpa using hp)
         exact ⟨bl, nx, g1, by simpa using g2, by omega⟩
theorem HRel.aside (r : HRel G φ h w) (hf : φ h.next = none) (l : Loc) {w' : World} (hw : ∀ k, Foot φ h k → w'.heap[k]? = w.heap[k]?) {N : Nat} (hN : h.next ≤ N) : HRel G (φ.put h.next l) ⟨h.t, N⟩ w' := by
 have hle : φ.le (φ.put h.next l) := Mp.le_put hf
 have key : ∀ b x l', h.t.get b = some x → (φ.put h.next l) b = some l' → φ b = some l' := fun b x l' hb hl => by
  rw [Mp.put_other (fun e => by rw [e, r.fresh _ (Nat.le_refl _)] at hb; cases hb)] at hl
  exact hl
 exact ⟨fun b x l' hb hl => (r.blk b x l' hb (key b x l' hb hl)).mono hle (hw _ ⟨b, x, l', hb, key b x l' hb hl, rfl⟩),
  fun b b' x x' l1 l2 h1 h2 h3 h4 => r.inj b b' x x' l1 l2 h1 h2 (key _ _ _ h1 h3) (key _ _ _ h2 h4), fun b hb => r.fresh b (Nat.le_trans hN hb)⟩
theorem foot_aside {r : HRel G φ h w} {l : Loc} {N k : Nat} (hk : Foot (φ.put h.next l) ⟨h.t, N⟩ k) : Foot φ h k := by
 obtain ⟨b, x, l', h1, h2, h3⟩ := hk
 rw [Mp.put_other (fun e => by rw [e] at h1; have := r.fresh _ (Nat.le_refl _); rw [this] at h1; cases h1)] at h2
 exact ⟨b, x, l', h1, h2, h3⟩
theorem marksF_out {n : Nat} : ∀ {l : List Nat} {s s1 : Fr}, marksF n s l = some s1 → ∀ t, t < 4096 → t ∉ l → (Fr.get t).v s1 = (Fr.get t).v s
 | [], s, s1, e, t, _, _ => by cases e; rfl
 | q :: l, s, s1, e, t, ht, hn => by
   have e : (match marksF n s l with | some s => putW n (some q) wild s | none => none) = some s1 := e
   cases hs : marksF n s l with
   | none => rw [hs] at e; cases e
   | some s2 =>
     rw [hs] at e
     dsimp only at e
     unfold putW putD at e
     cases hd : (Nat.blt q n && Nat.blt q 4096) with
     | false => simp only [hd] at e; cases e
     | true =>
       simp only [hd, cond_true] at e
       cases e
       rw [Bool.and_eq_true, nblt, nblt, decide_eq_true_eq, decide_eq_true_eq] at hd
       rw [Fr.get_set _ _ hd.2 ht, if_neg (fun e => hn (by simp [e]))]
       exact marksF_out hs t ht (fun h => hn (by simp [h]))
theorem putW_get {n d : Nat} {x : V} (e : putW n (some d) x s = some s') : (Fr.get d).v s' = x := by
 unfold putW putD at e
 cases hd : (Nat.blt d n && Nat.blt d 4096) with
 | false => simp only [hd] at e; cases e
 | true =>
   simp only [hd, cond_true] at e
   cases e
   rw [Bool.and_eq_true, nblt, nblt, decide_eq_true_eq, decide_eq_true_eq] at hd
   rw [Fr.get_set _ _ hd.2 hd.2, if_pos rfl]
theorem opsF_okK (ok : EnvOk E P G) {call : Call} (ck : CallOk P G call) {n : Nat} {all : List Oper} {Q : Exit → Act → World → Prop} {K : List Nat} :
 ∀ (l : List Oper) (k : Nat), (∀ i, i < l.length → l[i]? = all[k + i]?) → ∀ (s : Fr) (h : H) (s' : Fr) (h' : H), (opsF E n all l).v call s h = .ok s' h' → ∀ (φ : Mp) (a : Act) (w : World), TRel G φ s a.tmps → HRel G φ h w →
  Free φ h.next h'.next → a.tmps.size = n → (∀ a' w', Left G φ h w a s' h' a' w' → wpOps P all.toArray Q K a' w') → wpOps P all.toArray Q (List.range' k l.length ++ K) a w
 | [], k, hl, s, h, s', h', e, φ, a, w, T, r, hf, hn, hQ => by
   cases e
   exact hQ _ _ (Left.refl T r)
 | o :: l, k, hl, s, h, s', h', e, φ, a, w, T, r, hf, hn, hQ => by
   have ho : all.toArray[k]? = some o := by have := hl 0 (by simp); simp at this; simpa using this.symm
   have hl' : ∀ i, i < l.length → l[i]? = all[k + 1 + i]? := fun i hi => by
    have := hl (i + 1) (by simpa using hi)
    rw [List.getElem?_cons_succ] at this
    rw [this]
    congr 1
    omega
   rw [List.length_cons, List.range'_succ, List.cons_append, wpOps_cons]
   unfold wpOp
   simp only [ho]
   have next : ∀ v h1 p, putD n o.dst = some p → (stepF E o).v call s h = .ok v h1 → (bif Nat.ble h.next h1.next then (opsF E n all l).v call (p.v v s) h1 else .bad "next" 0) = .ok s' h' →
    o.wp P a w (wpOps P all.toArray Q (List.range' (k + 1) l.length ++ K)) Q := by
    intro v h1 p hp es e
    cases hb : Nat.ble h.next h1.next with
    | false => rw [hb] at e; cases e
    | true =>
      rw [hb, cond_true] at e
      have hnx := opsF_next l _ _ _ _ e
      refine (step_ok ok ck T r (hf.left hnx) es).wp fun u w1 ⟨φ1, hv, r1, f1, x1⟩ => ?_
      subst hn
      obtain ⟨T1, hd, hz⟩ := putD_ok hp (T.mono x1.le) hv
      exact opsF_okK ok ck l (k + 1) hl' _ _ _ _ e φ1 _ _ T1 r1 (hf.right x1) hz fun a' w' L => hQ a' w' (L.trans f1 x1 hd hz)
   have skip : ∀ p, putD n o.dst = some p → (opsF E n all l).v call (p.v .undef s) h = .ok s' h' → wpOps P all.toArray Q (List.range' (k + 1) l.length ++ K) (a.put o.dst undef) w := by
    intro p hp e
    subst hn
    obtain ⟨T1, hd, hz⟩ := putD_ok (v := .undef) (u := undef) hp T (by rw [conc]; rfl)
    exact opsF_okK ok ck l (k + 1) hl' _ _ _ _ e φ _ _ T1 r hf hz fun a' w' L => hQ a' w' (L.trans (Frame.refl _ _ _ _) (Ext.refl _ _ _) hd hz)
   rw [opsF_cons, Box.use_v] at e
   split at e
   · cases e
   · rename_i p hp
     simp only [Box.use_v] at e
     split at e
     · rename_i hg
       have hw : Region.wanted o (yielded all.toArray a.tmps) = true := by unfold Region.wanted; simp only [hg]
       rw [hw, if_pos rfl]
       dsimp only at e
       split at e
       · rename_i v h1 es
         exact .inl (next _ _ _ hp es e)
       · cases e
     · rename_i j want hg
       split at e
       · cases e
       · rename_i d hd
         simp only [Box.use_v] at e
         obtain ⟨w1, w2⟩ := wanted_some hg hd T
         split at e
         · rename_i b hb
           rw [w1 b hb]
           split at e
           · rename_i hbw
             rw [hbw, if_pos rfl]
             split at e
             · rename_i v h1 es
               exact .inl (next _ _ _ hp es e)
             · cases e
           · rename_i hbw
             rw [hbw]
             simp only [Bool.false_eq_true, if_false]
             exact skip _ hp e
         · rename_i hb
           rw [w2 hb]
           simp only [Bool.false_eq_true, if_false]
           exact skip _ hp e
         · cases e
theorem rule_ok (ok : EnvOk E P G) {call : Call} (ck : CallOk P G call) (hm : ¬ G.mono) {n : Nat} {ob : Option Nat} {x : RangeI} {s0 : Fr} {bls : List (List V)} (htot : R.tot = none)
 (hsh : x.L.shape n = true) (hop : x.o0.op = .range x.t (.tmp x.m)) (hdst : x.o0.dst = some x.L.it) (hgd : x.o0.guard = none) (hm4 : x.m < 4096) (e : ruleW E R n call ob x s h = some (s0, h', bls)) :
 h.next ≤ h'.next ∧ (∀ (j : Nat) bl, bls[j]? = some bl → (bl.length = 0 ∨ bl.length = R.k) ∧ allPl bl = true) ∧ bls.length ≤ 1000 ∧ R.k ≤ 1000 ∧ (∀ o, ob = some o → isW ((Fr.get o).v s0) = true) ∧
 ∀ (φ : Mp) (a : Act) (w : World), TRel G φ s a.tmps → HRel G φ h w → Free φ h.next h'.next → a.tmps.size = n →
  x.code.wp P (fun e' a' w' => e' = .normal ∧ ∃ (φ' : Mp) (base : Nat) (vi : List Nat), WRel G φ' s0 a'.tmps ∧ HRel G φ' h' w' ∧ RowRel G φ' R base (vi.map fun j => ((bls[j]?).getD []).map (plC G)).flatten h' ob.toList [] a'.tmps w' ∧
   w.heap.size ≤ base ∧ base ≤ w'.heap.size ∧ WFrame G w.heap.size φ h w w' ∧ WExt w.heap.size φ φ' h h' ∧ a'.defers = a.defers ∧ a'.tmps.size = n ∧ vi.Perm (List.range bls.length)) a w := by
 unfold ruleW at e
 split at e
 · cases e
 · rename_i s1 h1 hpre
   simp only [ok.ty] at e
   split at e
   · rename_i kt el mb es htk hes
     split at e
     · cases e
     · rename_i s2 hs2
       split at e
       · cases e
       · rename_i s3 hs3
         obtain ⟨ds, hdsE⟩ : ∃ ds, ds = dstsC x.L.code := ⟨_, rfl⟩
         obtain ⟨bs, hbsE⟩ : ∃ bs, bs = refC (frV n s3 ++ esC es) := ⟨_, rfl⟩
         rw [← hdsE] at e hs3
         rw [← hbsE] at e
         cases hck : goodW R ob x.L s1 ds bs mb es with
         | false => rw [hck] at e; cases e
         | true =>
           rw [hck, cond_true] at e
           unfold goodW at hck
           simp only [Bool.and_eq_true, hasN_ok, Bool.not_eq_true', nble, decide_eq_true_eq] at hck
           obtain ⟨c1, c2, c3, c4, c5, c6, c7, c8⟩ := hck
           split at e
           · rename_i bls' N hbo
             cases e
             obtain ⟨hlen, hbody⟩ := bodiesW_ok hbo
             obtain ⟨N', hN'⟩ : ∃ N', N' = (bif Nat.ble N (h1.next + 1) then h1.next + 1 else N) := ⟨_, rfl⟩
             have hNb : h1.next + 1 ≤ N' ∧ N ≤ N' := by
              rw [hN']
              cases hb : Nat.ble N (h1.next + 1) with
              | true => rw [nble, decide_eq_true_eq] at hb; simp only [cond_true]; omega
              | false => rw [nble, decide_eq_false_iff_not] at hb; simp only [cond_false]; omega
             rw [← hN']
             have hn1 := opsF_next _ _ _ _ _ hpre
             have hob : ∀ o, ob = some o → o ∈ ds ∧ o ≠ x.L.d1 ∧ o ≠ x.L.d2 ∧ o ≠ x.L.d3 ∧ (Fr.get o).v s1 = .nilslice := fun o ho => by
              subst ho
              unfold goodO at c5
              simp only [Bool.and_eq_true, hasN_ok, Bool.not_eq_true', nbeq, decide_eq_false_iff_not] at c5
              obtain ⟨g1, g2, g3, g4, g5⟩ := c5
              refine ⟨by simpa using g1, g2, g3, g4, ?_⟩
              revert g5
              cases (Fr.get o).v s1 <;> intro g5 <;> first | rfl | cases g5
             have hin := marksF_in hs3
             refine ⟨by show h.next ≤ N'; omega, fun j bl hj => ?_, by omega, c8, fun o ho => (hin o (hob o ho).1).2, fun φ a w T r hf hz => ?_⟩
             · obtain ⟨p, hp⟩ : ∃ p, es[j]? = some p := by
                have : j < es.length := by have := (List.getElem?_eq_some_iff.1 hj).1; omega
                exact ⟨es[j], by simp [this]⟩
               obtain ⟨bl', nx, g1, g2, _⟩ := hbody j p hp
               rw [hj] at g2
               cases g2
               exact bodyW_ok g1
             · obtain ⟨o1, p1, q1, o2, p2, q2, o3, p3, q3, l0, l1, l2, l3, l4, ne1, ne2⟩ := shape_ok hsh
               unfold RangeI.code
               refine wp_seq (wp_region ?_)
               have hsplit : List.range (x.pre ++ [x.o0]).toArray.size = List.range' 0 x.pre.length ++ [x.pre.length] := by
                rw [List.size_toArray, List.length_append, List.length_singleton, List.range_succ, List.range_eq_range']
               rw [hsplit]
               refine opsF_okK ok ck x.pre 0 (fun i hi => by rw [Nat.zero_add, List.getElem?_append_left hi]) s h s1 h1 hpre φ a w T r (hf.left (by show h1.next ≤ N'; omega)) hz fun a1 w1 ⟨φ1, T1, r1, f1, x1, hd1, hz1⟩ => ?_
               rw [wpOps_cons]
               unfold wpOp
               simp only [show (x.pre ++ [x.o0]).toArray[x.pre.length]? = some x.o0 by simp, wanted_none hgd, if_true]
               refine .inl ?_
               have hu := k_map htk
               have hfn : φ1 h1.next = none := x1.new _ (hf _ hn1 (by show h1.next < N'; omega)) (.inr (Nat.le_refl _))
               have hmv := T1 x.m hm4
               obtain ⟨mbC, El, clk, hE, hB, hrunR, hmbC⟩ : ∃ (mbC : Option Nat) (El : Array MapEntry) (clk : Nat), Ents G φ1 es El.toList ∧ Born El.toList clk ∧
                (∃ it0, (Instr.range x.t (a1.tmps.getD x.m undef)).run P w1 = .ok (.pointer (some ⟨w1.heap.size, 0, none⟩)) (w1.alloc it0) ∧ ItAt (w1.alloc it0) w1.heap.size El clk mbC []) ∧
                ∀ bm, mbC = some bm → bm < w1.heap.size ∧ ∃ b lm y, mb = some b ∧ φ1 b = some lm ∧ lm.blk = bm ∧ h1.t.get b = some y := by
                split at hes
                · rename_i hmm
                  cases hes
                  rw [hmm, conc] at hmv
                  refine ⟨none, #[], 0, ⟨rfl, fun i k v hi => by simp at hi⟩, ⟨by simp, by simp⟩, ⟨_, by rw [← Option.some.inj hmv]; exact run_range_nilMap w1 x.t kt el hu, rfl, heap_alloc_new w1 _⟩, fun bm h => nomatch h⟩
                · rename_i b hmm
                  split at hes
                  · rename_i es' bs' clk' hb
                    cases hes
                    rw [hmm] at hmv
                    obtain ⟨lm, hlm, hmu⟩ := conc_map hmv
                    obtain ⟨El, hw, hE, hB, _⟩ := r1.ents2 hb hlm
                    have hlt := (r1.blk b _ lm hb hlm).lt
                    refine ⟨some lm.blk, El, clk', hE, hB, ⟨_, by rw [hmu]; exact run_range_map w1 x.t kt el lm.blk El clk' hu hw, ?_, heap_alloc_new w1 _⟩, fun bm h => ?_⟩
                    · rw [heap_alloc_old w1 _ hlt]; exact hw
                    · cases h; exact ⟨hlt, b, lm, _, rfl, hlm, rfl, hb⟩
                  · cases hes
                · cases hes
               obtain ⟨it0, hrun, hIt⟩ := hrunR
               have hexr : execOp a1.eval x.o0 = (do pure (.value (← Instr.range x.t (a1.tmps.getD x.m undef)))) := by simp [execOp, hop, Act.eval]
               refine Gives.wp (R := fun u w' => u = .pointer (some ⟨w1.heap.size, 0, none⟩) ∧ w1.alloc it0 = w') (by rw [hexr]; simp only [Sem.run_bind, hrun, Result.andThen_ok]; exact ⟨rfl, rfl⟩) ?_
               rintro u w' ⟨rfl, rfl⟩
               rw [hdst]
               show Code.wp P _ _ _ _
               have hz1n : a1.tmps.size = n := hz1.trans hz
               obtain ⟨φ2, hφ2⟩ : ∃ φ2, φ2 = φ1.put h1.next ⟨w1.heap.size, 0, 0⟩ := ⟨_, rfl⟩
               have hle : φ1.le φ2 := by rw [hφ2]; exact Mp.le_put hfn
               have hwal : ∀ k, Foot φ1 h1 k → (w1.alloc it0).heap[k]? = w1.heap[k]? := fun k hk => heap_alloc_old w1 _ (r1.foot_lt hk)
               have hr2 : HRel G φ2 ⟨h1.t, h1.next + 1⟩ (w1.alloc it0) := by rw [hφ2]; exact r1.aside hfn _ hwal (Nat.le_succ _)
               have hfa : ∀ M k, Foot φ2 ⟨h1.t, M⟩ k → Foot φ1 h1 k := fun M k hk => by rw [hφ2] at hk; exact foot_aside (r := r1) hk
               have hfoot : ∀ k, Foot φ2 ⟨h1.t, h1.next + 1⟩ k → k < w1.heap.size := fun k hk => r1.foot_lt (hfa _ k hk)
               have hs2' : putW a1.tmps.size (some x.L.it) (.ptr h1.next 0) s1 = some s2 := by rw [hz1n]; exact hs2
               obtain ⟨T2, hd2, hz2, _, hoth, _⟩ := putW_ok (φ := φ2) (u := .pointer (some ⟨w1.heap.size, 0, none⟩)) hs2' (T1.wild.mono hle) (.inr (by rw [conc, hφ2, Mp.put_self]))
               have T3 := marksF_ok hs3 T2
               have hitd : x.L.it ∉ ds := by simpa using c1
               have hit : (Fr.get x.L.it).v s0 = .ptr h1.next 0 := (marksF_out hs3 _ (by omega) hitd).trans (putW_get hs2)
               have hstart : LInv G φ2 R n x.L ob s0 ⟨h1.t, h1.next + 1⟩ bs w1.heap.size El clk mbC bls (a1.put (some x.L.it) (.pointer (some ⟨w1.heap.size, 0, none⟩))) (w1.alloc it0) [] (a1.put (some x.L.it) (.pointer (some ⟨w1.heap.size, 0, none⟩))) (w1.alloc it0) := by
                refine ⟨T3, hr2, hIt, ?_, WFrame.refl _, rfl, hz2.trans hz1n, List.nodup_nil, fun j h => (nomatch h), by simp⟩
                cases hobc : ob with
                | none => exact .inl rfl
                | some o =>
                  obtain ⟨g1, _, _, _, g5⟩ := hob o hobc
                  refine .inr ⟨.slice none 0 0, 0, [], concL_nil, World.ownsRow_nil _ _ _ _, by simp, fun t ht => ?_, fun g hg => by cases hg⟩
                  have hto : t = o := by simpa using ht
                  subst hto
                  have ht4 := (hin t g1).1
                  refine ⟨ht4, ?_⟩
                  rw [hoth t ht4 (fun d' e => by cases e; intro e2; exact hitd (e2 ▸ g1))]
                  have := T1 t ht4
                  rw [g5, conc] at this
                  exact (Option.some.inj this).symm
               have hfree : Free φ2 (h1.next + 1) N' := fun b hb1 hb2 => by
                rw [hφ2, Mp.put_other (by omega)]
                exact x1.new b (hf b (by omega) hb2) (.inr (by omega))
               have hE2 : Ents G φ2 es El.toList := ⟨hE.1, fun i k v hi => let ⟨e, g1, g2, g3⟩ := hE.2 i k v hi; ⟨e, g1, conc_mono hle g2, conc_mono hle g3⟩⟩
               have hEl : El.size = es.length := by have := hE.1; simpa using this
               have hmb2 : ∀ bm, mbC = some bm → bm < w1.heap.size ∧ ¬ Foot φ2 (subH ⟨h1.t, h1.next + 1⟩ bs) bm := fun bm hbm => by
                obtain ⟨g1, b, lm, y, g2, g3, g4, g5⟩ := hmbC bm hbm
                refine ⟨g1, fun ⟨b', x', l', k1, k2, k3⟩ => ?_⟩
                obtain ⟨k4, k5⟩ := sub_get k1
                have : b = b' := hr2.inj1 g5 k5 (hle _ _ g3) k2 (sub_ro k1) (g4.trans k3.symm)
                subst this
                rw [g2] at c6
                unfold goodM at c6
                simp only [hasN_ok, Bool.not_eq_true'] at c6
                simp at c6
                exact c6 k4
               refine wp_block (wp_loop_rounds (El.size + 1) ?_)
               have rounds : ∀ (k : Nat) (vi : List Nat) (a' : Act) (w' : World), LInv G φ2 R n x.L ob s0 ⟨h1.t, h1.next + 1⟩ bs w1.heap.size El clk mbC bls (a1.put (some x.L.it) (.pointer (some ⟨w1.heap.size, 0, none⟩))) (w1.alloc it0) vi a' w' → El.size < vi.length + k →
                Code.rounds P x.L.round (Exit.inBlock x.L.b fun e' a' w' => e' = .normal ∧ ∃ (φ' : Mp) (base : Nat) (vi : List Nat), WRel G φ' s0 a'.tmps ∧ HRel G φ' ⟨h1.t, N'⟩ w' ∧ RowRel G φ' R base (vi.map fun j => ((bls[j]?).getD []).map (plC G)).flatten ⟨h1.t, N'⟩ ob.toList [] a'.tmps w' ∧
                 w.heap.size ≤ base ∧ base ≤ w'.heap.size ∧ WFrame G w.heap.size φ h w w' ∧ WExt w.heap.size φ φ' h ⟨h1.t, N'⟩ ∧ a'.defers = a.defers ∧ a'.tmps.size = n ∧ vi.Perm (List.range bls.length)) k a' w' := by
                intro k
                induction k with
                | zero =>
                  intro vi a' w' I hk
                  have := nodup_le I.nodup I.lt
                  omega
                | succ k ih =>
                  intro vi a' w' I hk
                  rw [rounds_succ]
                  have hro := round_ok ok ck hm (N := N') (ds := ds) (itb := w1.heap.size) htot hsh (fun t ht => (hin t ht).2) (by simpa using c2) (by simpa using c3) (by simpa using c4) (fun o ho => ⟨(hob o ho).1, (hob o ho).2.1, (hob o ho).2.2.1, (hob o ho).2.2.2.1⟩)
                   hit (lit := ⟨w1.heap.size, 0, 0⟩) (by rw [hφ2, Mp.put_self]) rfl hE2 hB (fun j p hp => by
                    obtain ⟨bl, nx, g1, g2, g3⟩ := hbody j p hp
                    exact ⟨bl, nx, g1, g2, by omega⟩) (by omega) c8 hfree hfoot hmb2 I
                  refine wp_mono hro ?_
                  rintro e1 a2 w2 (⟨rfl, I2, hall⟩ | ⟨rfl, j, hj, I2⟩)
                  · show if x.L.b = x.L.b then _ else _
                    rw [if_pos rfl]
                    have hfr := I2.frame
                    refine ⟨rfl, φ2, w1.heap.size + 1, vi, I2.t, ⟨I2.rel.blk, I2.rel.inj, fun b hb => I2.rel.fresh b (by have hb' : N' ≤ b := hb; show h1.next + 1 ≤ b; omega)⟩, ?_, by have := f1.size; omega, I2.big, ?_, ?_, I2.defers.trans (hd2.trans hd1), I2.size, ?_⟩
                    · rcases I2.row with hnil | ⟨v, nn, us, k1, k2, k3, k4, k5⟩
                      · exact .inl hnil
                      · refine .inr ⟨v, nn, us, k1, k2, k3, k4, fun g hg hff => ?_⟩
                        have := r1.foot_lt (hfa _ g hff)
                        have := (k2.lt g hg).1
                        omega
                    · refine ⟨fun h => (hm h).elim, hfr.os.trans f1.os, hfr.tape.trans f1.tape, hfr.output.trans f1.output, ?_, fun q hq hn => ?_⟩
                      · have h5 := hfr.size
                        have h6 := f1.size
                        have h7 : (w1.alloc it0).heap.size = w1.heap.size + 1 := by simp
                        omega
                      · have h6 := f1.size
                        rw [hfr.block q (by omega) (fun hh => hn (x1.foot q (hfa _ q hh) hq)), heap_alloc_old w1 _ (by omega)]
                        exact f1.block q hq hn
                    · refine ⟨Mp.le_trans x1.le hle, fun b hb hr => ?_, by show h.next ≤ N'; omega, fun q hq hl => x1.foot q (hfa _ q hq) hl⟩
                      have hr : b < h.next ∨ N' ≤ b := hr
                      have hbn : b ≠ h1.next := by omega
                      rw [hφ2, Mp.put_other hbn]
                      exact x1.new b hb (by omega)
                    · refine (List.perm_ext_iff_of_nodup I2.nodup List.nodup_range).2 fun q => ?_
                      rw [List.mem_range, hlen, ← hEl]
                      exact ⟨I2.lt q, hall q⟩
                  · exact ih _ _ _ I2 (by rw [List.length_append, List.length_singleton]; omega)
               exact rounds _ _ _ _ hstart (by simp)
           · cases e
   · cases e
end
end Go.Proofs.YtmfmjhklajmhoaaGreat.Gv
