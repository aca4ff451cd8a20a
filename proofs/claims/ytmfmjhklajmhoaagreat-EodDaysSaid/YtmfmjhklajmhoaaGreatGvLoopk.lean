/- Loops that are told by what holds at their head: rounds are run over unknown numbers; and a run of code into which such loops are put. -/
import Derived.Test.YtmfmjhklajmhoaaGreatGvSfun
import Derived.Test.YtmfmjhklajmhoaaGreatGvMul
namespace Go.Proofs.YtmfmjhklajmhoaaGreat.Gv
open Go
noncomputable def loT (K : Nat) (l : List (Nat × Int)) : Bool := List.rec (motive := fun _ => Bool) true (fun p _ ih => bif Nat.blt p.1 K then ih else false) l
noncomputable def allVs (f : V → Bool) (l : List V) : Bool := List.rec (motive := fun _ => Bool) true (fun v _ ih => bif f v then ih else false) l
noncomputable def loV (K : Nat) (n : Nat) : V → Bool := Nat.rec (motive := fun _ => V → Bool) (fun _ => false) (fun _ ih v => match v with
 | .sint _ _ ts => loT K ts
 | .opq i => Nat.blt i 1000
 | .agg l => allVs ih l
 | .tuple l => allVs ih l
 | .func _ a b => bif allVs ih a then allVs ih b else false
 | .iface _ v => ih v
 | _ => true) n
noncomputable def loCs (K : Nat) (cs : T V) (n : Nat) : Bool := Nat.rec (motive := fun _ => Bool) true (fun i ih => match cs.get i with | some v => bif loV K 4 v then ih else false | none => ih) n
noncomputable def loEs (K : Nat) (es : List (V × V)) : Bool := List.rec (motive := fun _ => Bool) true (fun p _ ih => bif loV K 4 p.1 then (bif loV K 4 p.2 then ih else false) else false) es
noncomputable def loB (K : Nat) (x : B) : Bool := match x with
 | .cells cs n _ _ => loCs K cs n
 | .map es _ _ => loEs K es
 | .iter _ _ _ _ => true
 | .ro cs n => loCs K cs n
noncomputable def loH (K : Nat) (h : H) : Bool := Nat.rec (motive := fun _ => Bool) true (fun b ih => match h.t.get b with | some x => bif loB K x then ih else false | none => ih) h.next
noncomputable def loF (K : Nat) (W : List Nat) (s : Fr) : Bool := Nat.rec (motive := fun _ => Bool) true (fun t ih => bif hasN t W then ih else bif loV K 4 ((Fr.get t).v s) then ih else false) 4096
structure LCase where
 E : Env
 fuel : Nat
 back : Bool
 sub : List LF
structure LSpec where
 K : Nat
 id : Nat
 body : Code
 W : List Nat
 inv : List (Nat × V)
 init : List LF
 cases : List LCase
 fin : List (Nat × V)
 need : List Nat
noncomputable def lookN (t : Nat) (d : V) (l : List (Nat × V)) : V := List.rec (motive := fun _ => V) d (fun p _ ih => bif Nat.beq p.1 t then p.2 else ih) l
noncomputable def putAll (l : List (Nat × V)) (s : Fr) : Fr := List.rec (motive := fun _ => Fr) s (fun p _ ih => (Fr.set p.1).v p.2 ih) l
noncomputable def headL (inv : List (Nat × V)) (W : List Nat) : List (Nat × V) := List.rec (motive := fun _ => List (Nat × V)) [] (fun t _ ih => (t, lookN t (.opq (1000 + t)) inv) :: ih) W
noncomputable def subT (K : Nat) (sub : List LF) (l : List (Nat × Int)) : LF :=
 List.rec (motive := fun _ => LF) (0, []) (fun p _ ih => bif Nat.blt p.1 K then LF.add (0, [p]) ih else match sub[p.1 - K]? with | some x => LF.add (p.2 * x.1, scale p.2 x.2) ih | none => LF.add (0, [p]) ih) l
noncomputable def isZ (x : LF) : Bool := match x.2 with | [] => ieq x.1 0 | _ => false
noncomputable def matchV (K : Nat) (sub : List LF) (v1 v0 : V) : Bool := match v0 with
 | .sint k c ts => (match kOf v1, asLF v1 with
   | some k', some x => sameK k k' && (loT (K + sub.length) ts && isZ (LF.sub x (LF.add (c, []) (subT K sub ts))))
   | _, _ => false)
 | v0 => sameD 4 v1 v0 && loV K 4 v0
noncomputable def matchE (E : Env) (K : Nat) (v1 v0 : V) : Bool := match v0 with
 | .sint k c ts => (match kOf v1, asLF v1 with
   | some k', some x => sameK k k' && (loT K ts && (match symEq E x (c, ts) with | some true => true | _ => false))
   | _, _ => false)
 | v0 => sameD 4 v1 v0 && (loV K 4 v0 && isPl v0)
noncomputable def allP (f : Nat × V → Bool) (l : List (Nat × V)) : Bool := List.rec (motive := fun _ => Bool) true (fun p _ ih => bif f p then ih else false) l
noncomputable def keepsD (s s' : Fr) (W : List Nat) (n : Nat) : Bool := Nat.rec (motive := fun _ => Bool) true (fun t ih => bif hasN t W then ih else bif sameD 4 ((Fr.get t).v s) ((Fr.get t).v s') then ih else false) n
noncomputable def blksF (s : Fr) (l : List Nat) : List Nat := List.rec (motive := fun _ => List Nat) [] (fun t _ ih => match (Fr.get t).v s with | .ptr b _ => b :: ih | .slice b _ _ _ _ => b :: ih | .map b => b :: ih | _ => ih) l
noncomputable def allLo (n : Nat) (l : List Nat) : Bool := List.rec (motive := fun _ => Bool) true (fun t _ ih => bif Nat.blt t n then ih else false) l
noncomputable def allLoT (K : Nat) (l : List LF) : Bool := List.rec (motive := fun _ => Bool) true (fun x _ ih => bif loT K x.2 then ih else false) l
noncomputable def caseN (S : LSpec) (n : Nat) (s0 : Fr) (hs : H) (bs : List Nat) (c : LCase) : Option Nat :=
 match (codeF c.E n S.body).v (callN c.E c.fuel) s0 hs with
 | .nx s1 h1 => bif c.back && (allP (fun p => matchV S.K c.sub ((Fr.get p.1).v s1) p.2) S.inv && (keepsD s0 s1 S.W n && sameOld hs h1 bs)) then some h1.next else none
 | .ex j s1 h1 => bif not c.back && (Nat.beq j S.id && (allP (fun p => matchE c.E S.K ((Fr.get p.1).v s1) p.2) S.fin && (keepsD s0 s1 S.W n && sameOld hs h1 bs))) then some h1.next else none
 | _ => none
noncomputable def casesN (f : LCase → Option Nat) (m : Nat) (l : List LCase) : Option Nat :=
 List.rec (motive := fun _ => Option Nat) (some m) (fun c _ ih => match f c with
  | some x => (match ih with | some y => some (bif Nat.ble x y then y else x) | none => none)
  | none => none) l
noncomputable def loopG (S : LSpec) (n : Nat) (s : Fr) (h : H) : RX :=
 bif allLo n S.W && (allLo 4096 S.W && (allLoT S.K S.init && (allP (fun p => matchV S.K S.init ((Fr.get p.1).v s) p.2) S.inv && (loF S.K S.W s && loH S.K h)))) then
  (match casesN (caseN S n (putAll (headL S.inv S.W) s) (subH h (blksF s S.need)) (blksF s S.need)) h.next S.cases with
   | some N => .nx (putAll (headL S.fin S.W) s) { t := h.t, next := N }
   | none => .bad "loop: round" S.id) else .bad "loop: head" S.id
noncomputable def codeL (E : Env) (lk : Nat → Option (Fr → H → RX)) (n : Nat) (c : Code) : Box (Call → Fr → H → RX) :=
 Code.rec (motive := fun _ => Box (Call → Fr → H → RX))
  ⟨fun _ s h => .nx s h⟩
  (fun _ ops draw => (match draw with | true => drawF E n ops.toList | false => opsF E n ops.toList ops.toList).use fun f => ⟨fun call s h => match f call s h with
   | .ok s h => .nx s h
   | .bad w n => .bad w n⟩)
  (fun _ _ ia ib => ia.use fun a => ib.use fun b => ⟨fun call s h => match a call s h with
   | .nx s h => b call s h
   | r => r⟩)
  (fun c _ _ ia ib => bif okOpn c then (opn c).use fun f => ia.use fun a => ib.use fun b => ⟨fun call s h => match f s with
   | .bool true => a call s h
   | .bool false => b call s h
   | _ => .bad "cond" 0⟩ else ⟨fun _ _ _ => .bad "cond" 1⟩)
  (fun id _ ib => match lk id with
   | some g => ⟨fun _ s h => g s h⟩
   | none => ib.use fun b => ⟨fun call s h => match b call s h with
     | .ex j s h => bif Nat.beq j id then .nx s h else .ex j s h
     | r => r⟩)
  (fun _ ib => ib.use fun b => ⟨fun call => loopR b call 1000000⟩)
  (fun _ _ _ _ _ _ => ⟨fun _ _ _ => .bad "rangeFunc" 0⟩)
  (fun id => ⟨fun _ s h => .ex id s h⟩)
  (fun _ _ => ⟨fun _ _ _ => .bad "scope" 0⟩)
  (fun _ => ⟨fun _ s h => .nx s h⟩)
  (fun _ => ⟨fun _ _ _ => .bad "goto" 0⟩)
  ⟨fun _ s h => .rt s h⟩
  (fun _ => ⟨fun _ _ _ => .bad "refuse" 0⟩) c
def blocksC : Code → List (Nat × Code)
 | .seq a b => blocksC a ++ blocksC b
 | .cond _ a b => blocksC a ++ blocksC b
 | .block id x => (id, x) :: blocksC x
 | .loop x => blocksC x
 | _ => []
noncomputable def runL (E : Env) (lk : Nat → Option (Fr → H → RX)) (fuel : Nat) (fn : Func) (args : List V) (h : H) : RV :=
 match fn.body with
 | none => .bad "no body" 0
 | some c => bif Nat.ble args.length fn.ntmps && Nat.ble args.length 4096 then
   (match (codeL E lk fn.ntmps c).v (callN E fuel) (Fr.ofL args 0 Fr.new) h with
    | .nx s h1 => (match (resF E fn.results.toList).v s h1 with | .ok v h2 => bif Nat.ble h1.next h2.next then .ok v h2 else .bad "next" 1 | .bad w n => .bad w n)
    | .rt s h1 => (match (resF E fn.results.toList).v s h1 with | .ok v h2 => bif Nat.ble h1.next h2.next then .ok v h2 else .bad "next" 1 | .bad w n => .bad w n)
    | .bad w n => .bad w n
    | .ex _ _ _ => .bad "exit" 0) else .bad "args" 0
structure GLe (K : Nat) (G G' : Gh) : Prop where
 σ : ∀ i, i < K → G'.σ i = G.σ i
 ε : ∀ i, i < 1000 → G'.ε i = G.ε i
 mono : G'.mono = G.mono
theorem GLe.refl (K : Nat) (G : Gh) : GLe K G G := ⟨fun _ _ => rfl, fun _ _ => rfl, rfl⟩
theorem GLe.trans {K : Nat} {G G1 G2 : Gh} (a : GLe K G G1) (b : GLe K G1 G2) : GLe K G G2 := ⟨fun i hi => (b.σ i hi).trans (a.σ i hi), fun i hi => (b.ε i hi).trans (a.ε i hi), b.mono.trans a.mono⟩
theorem GLe.symm {K : Nat} {G G1 : Gh} (a : GLe K G G1) : GLe K G1 G := ⟨fun i hi => (a.σ i hi).symm, fun i hi => (a.ε i hi).symm, a.mono.symm⟩
section
variable {K : Nat} {G G' : Gh} {φ : Mp} {h h' : H} {w w' : World}
theorem loT_ok : ∀ {l : List (Nat × Int)}, loT K l = true → ∀ p ∈ l, p.1 < K
 | [], _, p, hp => by cases hp
 | q :: l, e, p, hp => by
   have e : (bif Nat.blt q.1 K then loT K l else false) = true := e
   cases hq : Nat.blt q.1 K with
   | false => rw [hq] at e; cases e
   | true =>
     rw [hq, cond_true] at e
     rcases List.mem_cons.1 hp with rfl | hp
     · rw [nblt, decide_eq_true_eq] at hq; exact hq
     · exact loT_ok e p hp
theorem den_congr {σ σ' : Nat → Int} : ∀ {l : List (Nat × Int)}, (∀ p ∈ l, σ' p.1 = σ p.1) → den σ' l = den σ l
 | [], _ => rfl
 | q :: l, h => by
   have h1 := h q (by simp)
   have h2 : den σ' l = den σ l := den_congr fun p hp => h p (List.mem_cons_of_mem _ hp)
   show q.2 * σ' q.1 + den σ' l = q.2 * σ q.1 + den σ l
   rw [h1, h2]
theorem GLe.den (g : GLe K G G') {l : List (Nat × Int)} (e : loT K l = true) : Gv.den G'.σ l = Gv.den G.σ l := den_congr fun p hp => g.σ _ (loT_ok e p hp)
theorem allVs_ok {f : V → Bool} : ∀ {l : List V}, allVs f l = true → ∀ v ∈ l, f v = true
 | [], _, v, hv => by cases hv
 | x :: l, e, v, hv => by
   have e : (bif f x then allVs f l else false) = true := e
   cases hx : f x with
   | false => rw [hx] at e; cases e
   | true =>
     rw [hx, cond_true] at e
     rcases List.mem_cons.1 hv with rfl | hv
     · exact hx
     · exact allVs_ok e v hv
theorem concL_congr : ∀ {l : List V}, (∀ v ∈ l, conc G' φ v = conc G φ v) → concL G' φ l = concL G φ l
 | [], _ => by rw [concL, concL]
 | x :: l, h => by rw [concL, concL, h x (by simp), concL_congr fun v hv => h v (by simp [hv])]
theorem loV_conc (g : GLe K G G') (φ : Mp) : ∀ (n : Nat) (v : V), loV K n v = true → conc G' φ v = conc G φ v
 | 0, v, e => by cases e
 | n + 1, v, e => by
   cases v with
   | sint k c ts =>
     have e : loT K ts = true := e
     rw [conc, conc, g.den e]
   | opq i =>
     have e : Nat.blt i 1000 = true := e
     rw [nblt, decide_eq_true_eq] at e
     rw [conc, conc, g.ε i e]
   | agg l =>
     have e : allVs (loV K n) l = true := e
     rw [conc, conc, concL_congr fun v hv => loV_conc g φ n v (allVs_ok e v hv)]
   | tuple l =>
     have e : allVs (loV K n) l = true := e
     rw [conc, conc, concL_congr fun v hv => loV_conc g φ n v (allVs_ok e v hv)]
   | func fn a b =>
     have e : (bif allVs (loV K n) a then allVs (loV K n) b else false) = true := e
     cases ha : allVs (loV K n) a with
     | false => rw [ha] at e; cases e
     | true =>
       rw [ha, cond_true] at e
       rw [conc, conc, concL_congr fun v hv => loV_conc g φ n v (allVs_ok ha v hv), concL_congr fun v hv => loV_conc g φ n v (allVs_ok e v hv)]
   | iface t v =>
     have e : loV K n v = true := e
     rw [conc, conc, loV_conc g φ n v e]
   | _ => rw [conc, conc]
theorem loCs_ok {cs : T V} : ∀ {n : Nat}, loCs K cs n = true → ∀ i v, i < n → cs.get i = some v → loV K 4 v = true
 | 0, _, i, v, hi, _ => absurd hi (Nat.not_lt_zero _)
 | n + 1, e, i, v, hi, hv => by
   have e : (match cs.get n with | some v => bif loV K 4 v then loCs K cs n else false | none => loCs K cs n) = true := e
   have hrest : i < n → loCs K cs n = true → loV K 4 v = true := fun h1 h2 => loCs_ok h2 i v h1 hv
   cases hn : cs.get n with
   | none =>
     rw [hn] at e
     by_cases hin : i = n
     · subst hin; rw [hn] at hv; cases hv
     · exact hrest (by omega) e
   | some x =>
     rw [hn] at e
     dsimp only at e
     cases hx : loV K 4 x with
     | false => rw [hx] at e; cases e
     | true =>
       rw [hx, cond_true] at e
       by_cases hin : i = n
       · subst hin; rw [hn] at hv; cases hv; exact hx
       · exact hrest (by omega) e
theorem loEs_ok : ∀ {es : List (V × V)}, loEs K es = true → ∀ p ∈ es, loV K 4 p.1 = true ∧ loV K 4 p.2 = true
 | [], _, p, hp => by cases hp
 | q :: l, e, p, hp => by
   have e : (bif loV K 4 q.1 then (bif loV K 4 q.2 then loEs K l else false) else false) = true := e
   cases h1 : loV K 4 q.1 with
   | false => rw [h1] at e; cases e
   | true =>
     rw [h1, cond_true] at e
     cases h2 : loV K 4 q.2 with
     | false => rw [h2] at e; cases e
     | true =>
       rw [h2, cond_true] at e
       rcases List.mem_cons.1 hp with rfl | hp
       · exact ⟨h1, h2⟩
       · exact loEs_ok e p hp
theorem loB_ok (g : GLe K G G') {x : B} {l : Loc} (e : loB K x = true) (hr : BRel G φ x l w) : BRel G' φ x l w := by
 cases x with
 | cells cs n sz ex =>
   obtain ⟨C, t, h1, h2, h3, h5⟩ := hr
   exact ⟨C, t, h1, h2, h3, fun i v hi hv => let ⟨u, a, b⟩ := h5 i v hi hv; ⟨u, (loV_conc g φ 4 v (loCs_ok e i v hi hv)).trans a, b⟩⟩
 | ro cs n =>
   obtain ⟨C, t, h1, h2, h5⟩ := hr
   exact ⟨C, t, h1, h2, fun i v hi hv => let ⟨u, a, b⟩ := h5 i v hi hv; ⟨u, (loV_conc g φ 4 v (loCs_ok e i v hi hv)).trans a, b⟩⟩
 | map es bs clk =>
   obtain ⟨E, h1, hB, h2, h3⟩ := hr
   refine ⟨E, h1, hB, h2, fun i k v hi => ?_⟩
   obtain ⟨e', a, b, c⟩ := h3 i k v hi
   obtain ⟨l1, l2⟩ := loEs_ok e (k, v) (List.mem_of_getElem? hi)
   exact ⟨e', a, (loV_conc g φ 4 k l1).trans b, (loV_conc g φ 4 v l2).trans c⟩
 | iter m since seen last => cases m <;> exact hr
theorem loH_at {t : T B} : ∀ {n : Nat}, (Nat.rec (motive := fun _ => Bool) true (fun b ih => match t.get b with | some x => bif loB K x then ih else false | none => ih) n) = true → ∀ b x, b < n → t.get b = some x → loB K x = true
 | 0, _, i, v, hi, _ => absurd hi (Nat.not_lt_zero _)
 | n + 1, e, i, v, hi, hv => by
   have e : (match t.get n with | some x => bif loB K x then (Nat.rec (motive := fun _ => Bool) true (fun b ih => match t.get b with | some x => bif loB K x then ih else false | none => ih) n) else false | none => (Nat.rec (motive := fun _ => Bool) true (fun b ih => match t.get b with | some x => bif loB K x then ih else false | none => ih) n)) = true := e
   cases hn : t.get n with
   | none =>
     rw [hn] at e
     by_cases hin : i = n
     · subst hin; rw [hn] at hv; cases hv
     · exact loH_at e i v (by omega) hv
   | some x =>
     rw [hn] at e
     dsimp only at e
     cases hx : loB K x with
     | false => rw [hx] at e; cases e
     | true =>
       rw [hx, cond_true] at e
       by_cases hin : i = n
       · subst hin; rw [hn] at hv; cases hv; exact hx
       · exact loH_at e i v (by omega) hv
theorem HRel.lo (g : GLe K G G') (e : loH K h = true) (r : HRel G φ h w) : HRel G' φ h w :=
 ⟨fun b x l hb hl => loB_ok g (loH_at e b x (by
  rcases Nat.lt_or_ge b h.next with hlt | hge
  · exact hlt
  · rw [r.fresh b hge] at hb; cases hb) hb) (r.blk b x l hb hl), r.inj, r.fresh⟩
theorem hasN_mem {t : Nat} : ∀ {l : List Nat}, hasN t l = true ↔ t ∈ l
 | [] => ⟨fun h => (by cases h), fun h => (by cases h)⟩
 | x :: l => by
   have e : hasN t (x :: l) = bif Nat.beq x t then true else hasN t l := rfl
   rw [e, List.mem_cons]
   cases hx : Nat.beq x t with
   | true =>
     rw [nbeq, decide_eq_true_eq] at hx
     simp [hx]
   | false =>
     rw [nbeq, decide_eq_false_iff_not] at hx
     rw [cond_false, hasN_mem (l := l)]
     exact ⟨.inr, fun h => h.resolve_left fun h => hx h.symm⟩
theorem loF_at {W : List Nat} {s : Fr} : ∀ {n : Nat}, (Nat.rec (motive := fun _ => Bool) true (fun t ih => bif hasN t W then ih else bif loV K 4 ((Fr.get t).v s) then ih else false) n) = true → ∀ t, t < n → t ∉ W → loV K 4 ((Fr.get t).v s) = true
 | 0, _, i, hi, _ => absurd hi (Nat.not_lt_zero _)
 | n + 1, e, i, hi, hv => by
   have e : (bif hasN n W then (Nat.rec (motive := fun _ => Bool) true (fun t ih => bif hasN t W then ih else bif loV K 4 ((Fr.get t).v s) then ih else false) n) else bif loV K 4 ((Fr.get n).v s) then (Nat.rec (motive := fun _ => Bool) true (fun t ih => bif hasN t W then ih else bif loV K 4 ((Fr.get t).v s) then ih else false) n) else false) = true := e
   cases hn : hasN n W with
   | true =>
     rw [hn, cond_true] at e
     by_cases hin : i = n
     · subst hin; exact absurd (hasN_mem.1 hn) hv
     · exact loF_at e i (by omega) hv
   | false =>
     rw [hn, cond_false] at e
     cases hx : loV K 4 ((Fr.get n).v s) with
     | false => rw [hx] at e; cases e
     | true =>
       rw [hx, cond_true] at e
       by_cases hin : i = n
       · subst hin; exact hx
       · exact loF_at e i (by omega) hv
theorem keepsD_ok {W : List Nat} {s s' : Fr} : ∀ {n : Nat}, keepsD s s' W n = true → ∀ t, t < n → t ∉ W → sameD 4 ((Fr.get t).v s) ((Fr.get t).v s') = true
 | 0, _, i, hi, _ => absurd hi (Nat.not_lt_zero _)
 | n + 1, e, i, hi, hv => by
   have e : (bif hasN n W then keepsD s s' W n else bif sameD 4 ((Fr.get n).v s) ((Fr.get n).v s') then keepsD s s' W n else false) = true := e
   cases hn : hasN n W with
   | true =>
     rw [hn, cond_true] at e
     by_cases hin : i = n
     · subst hin; exact absurd (hasN_mem.1 hn) hv
     · exact keepsD_ok e i (by omega) hv
   | false =>
     rw [hn, cond_false] at e
     cases hx : sameD 4 ((Fr.get n).v s) ((Fr.get n).v s') with
     | false => rw [hx] at e; cases e
     | true =>
       rw [hx, cond_true] at e
       by_cases hin : i = n
       · subst hin; exact hx
       · exact keepsD_ok e i (by omega) hv
theorem allP_ok {f : Nat × V → Bool} : ∀ {l : List (Nat × V)}, allP f l = true → ∀ p ∈ l, f p = true
 | [], _, p, hp => by cases hp
 | q :: l, e, p, hp => by
   have e : (bif f q then allP f l else false) = true := e
   cases h1 : f q with
   | false => rw [h1] at e; cases e
   | true =>
     rw [h1, cond_true] at e
     rcases List.mem_cons.1 hp with rfl | hp
     · exact h1
     · exact allP_ok e p hp
theorem lookN_mem {t : Nat} {d : V} : ∀ {l : List (Nat × V)}, lookN t d l = d ∨ (t, lookN t d l) ∈ l
 | [] => .inl rfl
 | p :: l => by
   have e : lookN t d (p :: l) = bif Nat.beq p.1 t then p.2 else lookN t d l := rfl
   rw [e]
   cases hp : Nat.beq p.1 t with
   | true =>
     rw [nbeq, decide_eq_true_eq] at hp
     subst hp
     exact .inr (by simp)
   | false =>
     rw [cond_false]
     exact lookN_mem.imp_right fun h => by simp [h]
theorem putAll_get {inv : List (Nat × V)} {s : Fr} : ∀ {W : List Nat}, (∀ t ∈ W, t < 4096) → ∀ t, t < 4096 → (Fr.get t).v (putAll (headL inv W) s) = if t ∈ W then lookN t (.opq (1000 + t)) inv else (Fr.get t).v s
 | [], _, t, _ => by rw [if_neg (by simp)]; rfl
 | x :: W, h4, t, ht => by
   have e : putAll (headL inv (x :: W)) s = (Fr.set x).v (lookN x (.opq (1000 + x)) inv) (putAll (headL inv W) s) := rfl
   rw [e, Fr.get_set _ _ (h4 x (by simp)) ht]
   by_cases hx : t = x
   · subst hx
     rw [if_pos rfl, if_pos (by simp)]
   · rw [if_neg hx, putAll_get (fun t ht => h4 t (by simp [ht])) t ht]
     simp [hx]
theorem allLo_ok {n : Nat} : ∀ {l : List Nat}, allLo n l = true → ∀ t ∈ l, t < n
 | [], _, p, hp => by cases hp
 | q :: l, e, p, hp => by
   have e : (bif Nat.blt q n then allLo n l else false) = true := e
   cases h1 : Nat.blt q n with
   | false => rw [h1] at e; cases e
   | true =>
     rw [h1, cond_true] at e
     rcases List.mem_cons.1 hp with rfl | hp
     · rw [nblt, decide_eq_true_eq] at h1; exact h1
     · exact allLo_ok e p hp
theorem allLoT_ok : ∀ {l : List LF}, allLoT K l = true → ∀ x ∈ l, loT K x.2 = true
 | [], _, p, hp => by cases hp
 | q :: l, e, p, hp => by
   have e : (bif loT K q.2 then allLoT K l else false) = true := e
   cases h1 : loT K q.2 with
   | false => rw [h1] at e; cases e
   | true =>
     rw [h1, cond_true] at e
     rcases List.mem_cons.1 hp with rfl | hp
     · exact h1
     · exact allLoT_ok e p hp
theorem subT_den {σ σ3 : Nat → Int} {sub : List LF} (hlo : ∀ i, i < K → σ3 i = σ i) (hsub : ∀ j x, sub[j]? = some x → σ3 (K + j) = LF.den σ x) :
 ∀ {l : List (Nat × Int)}, loT (K + sub.length) l = true → den σ3 l = LF.den σ (subT K sub l)
 | [], _ => rfl
 | p :: l, e => by
   have e : (bif Nat.blt p.1 (K + sub.length) then loT (K + sub.length) l else false) = true := e
   have ex : subT K sub (p :: l) = (bif Nat.blt p.1 K then LF.add (0, [p]) (subT K sub l) else match sub[p.1 - K]? with | some x => LF.add (p.2 * x.1, scale p.2 x.2) (subT K sub l) | none => LF.add (0, [p]) (subT K sub l)) := rfl
   cases h1 : Nat.blt p.1 (K + sub.length) with
   | false => rw [h1] at e; cases e
   | true =>
     rw [h1, cond_true] at e
     rw [nblt, decide_eq_true_eq] at h1
     have ih := subT_den hlo hsub e
     have hd : den σ3 (p :: l) = p.2 * σ3 p.1 + den σ3 l := rfl
     rw [ex, hd, ih]
     cases h2 : Nat.blt p.1 K with
     | true =>
       rw [nblt, decide_eq_true_eq] at h2
       rw [cond_true, LF.den_add, hlo _ h2]
       have : LF.den σ (0, [p]) = 0 + (p.2 * σ p.1 + 0) := rfl
       rw [this]; omega
     | false =>
       rw [nblt, decide_eq_false_iff_not] at h2
       rw [cond_false]
       have h3 : p.1 - K < sub.length := by omega
       have h4 := hsub (p.1 - K) sub[p.1 - K] (by simp [h3])
       rw [show K + (p.1 - K) = p.1 from by omega] at h4
       simp only [List.getElem?_eq_getElem h3]
       rw [LF.den_add, h4]
       have : LF.den σ (p.2 * sub[p.1 - K].1, scale p.2 sub[p.1 - K].2) = p.2 * sub[p.1 - K].1 + den σ (scale p.2 sub[p.1 - K].2) := rfl
       rw [this, den_scale]
       show p.2 * (sub[p.1 - K].1 + den σ sub[p.1 - K].2) + _ = _
       rw [Int.mul_add]
theorem isZ_ok {σ : Nat → Int} {x : LF} (e : isZ x = true) : LF.den σ x = 0 := by
 obtain ⟨c, ts⟩ := x
 cases ts with
 | nil =>
   have e : ieq c 0 = true := e
   rw [ieq_ok, decide_eq_true_eq] at e
   subst e
   rfl
 | cons p l => cases e
theorem matchV_ok {G1 G3 : Gh} {φ1 : Mp} {sub : List LF} (hlo : ∀ i, i < K → G3.σ i = G1.σ i) (hε : ∀ i, i < 1000 → G3.ε i = G1.ε i) (hm : G3.mono = G1.mono) (hsub : ∀ j x, sub[j]? = some x → G3.σ (K + j) = LF.den G1.σ x) {v1 v0 : V} (e : matchV K sub v1 v0 = true) :
 conc G3 φ1 v0 = conc G1 φ1 v1 := by
 have g : GLe K G1 G3 := ⟨hlo, hε, hm⟩
 have other : (sameD 4 v1 v0 && loV K 4 v0) = true → conc G3 φ1 v0 = conc G1 φ1 v1 := fun e => by
  rw [Bool.and_eq_true] at e
  have := sameD_eq _ _ _ e.1
  subst this
  exact loV_conc g φ1 4 _ e.2
 cases v0 with
 | sint k c ts =>
   have e : (match kOf v1, asLF v1 with
    | some k', some x => sameK k k' && (loT (K + sub.length) ts && isZ (LF.sub x (LF.add (c, []) (subT K sub ts))))
    | _, _ => false) = true := e
   split at e
   · rename_i k' x hk hx
     simp only [Bool.and_eq_true] at e
     obtain ⟨h1, h2, h3⟩ := e
     have := sameK_eq h1
     subst this
     have h4 := isZ_ok (σ := G1.σ) h3
     rw [LF.den_sub, LF.den_add] at h4
     have h5 := subT_den hlo hsub h2
     rw [int_conc hk hx, conc, h5]
     have h6 : LF.den G1.σ ((c, []) : LF) = c := by show c + 0 = c; omega
     rw [h6] at h4
     rw [show c + LF.den G1.σ (subT K sub ts) = LF.den G1.σ x from by omega]
   · cases e
 | _ => exact other e
theorem matchE_ok {P : Program} {E : Env} {G1 G3 : Gh} {φ1 : Mp} (ok : EnvOk E P G1) (g : GLe K G1 G3) {v1 v0 : V} (e : matchE E K v1 v0 = true) : conc G3 φ1 v0 = conc G1 φ1 v1 := by
 have other : (sameD 4 v1 v0 && (loV K 4 v0 && isPl v0)) = true → conc G3 φ1 v0 = conc G1 φ1 v1 := fun e => by
  rw [Bool.and_eq_true] at e
  have := sameD_eq _ _ _ e.1
  subst this
  exact loV_conc g φ1 4 _ (Bool.and_eq_true _ _ ▸ e.2).1
 cases v0 with
 | sint k c ts =>
   have e : (match kOf v1, asLF v1 with
    | some k', some x => sameK k k' && (loT K ts && (match symEq E x (c, ts) with | some true => true | _ => false))
    | _, _ => false) = true := e
   split at e
   · rename_i k' x hk hx
     simp only [Bool.and_eq_true] at e
     obtain ⟨h1, h2, h3⟩ := e
     have := sameK_eq h1
     subst this
     cases hq : symEq E x (c, ts) with
     | none => rw [hq] at h3; cases h3
     | some t =>
       cases t with
       | false => rw [hq] at h3; cases h3
       | true =>
         have h4 := symEq_ok ok hq
         have h5 : LF.den G1.σ x = LF.den G1.σ (c, ts) := of_decide_eq_true h4.symm
         rw [int_conc hk hx, conc, g.den h2, h5]
         rfl
   · cases e
 | _ => exact other e
end
end Go.Proofs.YtmfmjhklajmhoaaGreat.Gv
namespace Go.Proofs.YtmfmjhklajmhoaaGreat.Gv
open Go
structure LSem (P : Program) (S : LSpec) (G : Gh) (Good : (Nat → Int) → Prop) (μ : (Nat → Int) → Nat) : Prop where
 init : ∀ σ', (∀ i, i < S.K → σ' i = G.σ i) → (∀ j x, S.init[j]? = some x → σ' (S.K + j) = LF.den G.σ x) → Good σ'
 step : ∀ σ', (∀ i, i < S.K → σ' i = G.σ i) → Good σ' → ∃ c ∈ S.cases, ∃ σ2, (∀ i, i < S.K + S.init.length → σ2 i = σ' i) ∧
  (∀ G2 : Gh, G2.σ = σ2 → (∀ i, i < 1000 → G2.ε i = G.ε i) → G2.mono = G.mono → EnvOk c.E P G2 ∧ FnOk c.E P G2) ∧
  (c.back = true → ∀ σ3, (∀ i, i < S.K → σ3 i = G.σ i) → (∀ j x, c.sub[j]? = some x → σ3 (S.K + j) = LF.den σ2 x) → Good σ3 ∧ μ σ3 < μ σ')
def LeftX (K : Nat) (G : Gh) (φ : Mp) (h : H) (w : World) (a : Act) (s' : Fr) (h' : H) (a' : Act) (w' : World) : Prop :=
 ∃ G2, GLe K G G2 ∧ ∃ φ', TRel G2 φ' s' a'.tmps ∧ HRel G2 φ' h' w' ∧ Frame G φ h w w' ∧ Ext φ φ' h h' w ∧ a'.defers = a.defers ∧ a'.tmps.size = a.tmps.size
def PieceX (P : Program) (G : Gh) (K n : Nat) (c : Code) (g : Fr → H → RX) : Prop :=
 ∀ (s : Fr) (h : H) (e : Exit) (s' : Fr) (h' : H), Arr (g s h) e s' h' → h.next ≤ h'.next ∧
  ∀ G1, GLe K G G1 → ∀ (φ : Mp) (a : Act) (w : World), TRel G1 φ s a.tmps → HRel G1 φ h w → Free φ h.next h'.next → a.tmps.size = n →
   c.wp P (fun e' a' w' => e' = e ∧ LeftX K G1 φ h w a s' h' a' w') a w
section
variable {K : Nat} {G G' : Gh} {φ : Mp} {h h' : H} {w w' : World} {P : Program} {a : Act} {s : Fr}
theorem Frame.cast (f : Frame G φ h w w') (hm : G'.mono = G.mono) : Frame G' φ h w w' := ⟨fun h => f.drawn (hm ▸ h), f.os, f.tape, f.output, f.size, f.block⟩
theorem Frame.sub {bs : List Nat} (f : Frame G φ (subH h bs) w w') : Frame G φ h w w' := ⟨f.drawn, f.os, f.tape, f.output, f.size, fun k hk hn => f.block k hk fun hf => hn (sub_foot hf)⟩
theorem casesN_ok {f : LCase → Option Nat} {m : Nat} : ∀ {l : List LCase} {N : Nat}, casesN f m l = some N → m ≤ N ∧ ∀ c ∈ l, ∃ x, f c = some x ∧ x ≤ N
 | [], N, e => by cases e; exact ⟨Nat.le_refl _, fun c hc => by cases hc⟩
 | c :: l, N, e => by
   have e : (match f c with
    | some x => (match casesN f m l with | some y => some (bif Nat.ble x y then y else x) | none => none)
    | none => none) = some N := e
   cases hx : f c with
   | none => rw [hx] at e; cases e
   | some x =>
     rw [hx] at e
     dsimp only at e
     cases hy : casesN f m l with
     | none => rw [hy] at e; cases e
     | some y =>
       rw [hy] at e
       dsimp only at e
       obtain ⟨h1, h2⟩ := casesN_ok hy
       have hN : (if x ≤ y then y else x) = N := by
        have := Option.some.inj e
        rw [nble] at this
        by_cases hxy : x ≤ y
        · rw [decide_eq_true hxy, cond_true] at this; rw [if_pos hxy]; exact this
        · rw [decide_eq_false hxy, cond_false] at this; rw [if_neg hxy]; exact this
       refine ⟨by split at hN <;> omega, fun c' hc' => ?_⟩
       rcases List.mem_cons.1 hc' with rfl | hc'
       · exact ⟨x, hx, by split at hN <;> omega⟩
       · obtain ⟨z, hz, hle⟩ := h2 c' hc'
         exact ⟨z, hz, by split at hN <;> omega⟩
def ghOf (G : Gh) (σ : Nat → Int) (tm : Array Value) : Gh := ⟨fun i => if i < 1000 then G.ε i else tm.getD (i - 1000) undef, σ, fun i hi => by rw [if_pos hi]; exact G.cell i hi, G.mono⟩
theorem ghOf_lo {σ : Nat → Int} {tm : Array Value} {i : Nat} (hi : i < 1000) : (ghOf G σ tm).ε i = G.ε i := if_pos hi
theorem ghOf_hi {σ : Nat → Int} {tm : Array Value} (t : Nat) : (ghOf G σ tm).ε (1000 + t) = tm.getD t undef := by
 show (if 1000 + t < 1000 then _ else _) = _
 rw [if_neg (by omega), Nat.add_sub_cancel_left]
theorem matchV_lo {sub : List LF} {G1 G2 : Gh} (hσ : ∀ i, i < K + sub.length → G2.σ i = G1.σ i) (hε : ∀ i, i < 1000 → G2.ε i = G1.ε i) (hm : G2.mono = G1.mono) {v1 v0 : V} (e : matchV K sub v1 v0 = true) (φ : Mp) : conc G2 φ v0 = conc G1 φ v0 := by
 have other : (sameD 4 v1 v0 && loV K 4 v0) = true → conc G2 φ v0 = conc G1 φ v0 := fun e => by
  rw [Bool.and_eq_true] at e
  exact loV_conc (K := K) ⟨fun i hi => hσ i (by omega), hε, hm⟩ φ 4 _ e.2
 cases v0 with
 | sint k c ts =>
   have e : (match kOf v1, asLF v1 with
    | some k', some x => sameK k k' && (loT (K + sub.length) ts && isZ (LF.sub x (LF.add (c, []) (subT K sub ts))))
    | _, _ => false) = true := e
   split at e
   · simp only [Bool.and_eq_true] at e
     rw [conc, conc, den_congr fun p hp => hσ _ (loT_ok e.2.1 p hp)]
   · cases e
 | _ => exact other e
theorem matchV_some {sub : List LF} {G1 G2 : Gh} (hσ : ∀ i, i < K → G2.σ i = G1.σ i) (hε : ∀ i, i < 1000 → G2.ε i = G1.ε i) (hm : G2.mono = G1.mono) {v1 v0 : V} (e : matchV K sub v1 v0 = true) {φ : Mp} {u : Value} (hu : conc G1 φ v0 = some u) : ∃ u', conc G2 φ v0 = some u' := by
 have other : (sameD 4 v1 v0 && loV K 4 v0) = true → ∃ u', conc G2 φ v0 = some u' := fun e => by
  rw [Bool.and_eq_true] at e
  exact ⟨u, (loV_conc (K := K) ⟨hσ, hε, hm⟩ φ 4 _ e.2).trans hu⟩
 cases v0 with
 | sint k c ts => exact ⟨_, by rw [conc]⟩
 | _ => exact other e
theorem loop_piece {S : LSpec} {n : Nat} {Good : (Nat → Int) → Prop} {μ : (Nat → Int) → Nat} (hS : LSem P S G Good μ) : PieceX P G S.K n (.block S.id (.loop S.body)) (loopG S n) := by
 intro s h e s' h' A
 unfold loopG at A
 cases hc : (allLo n S.W && (allLo 4096 S.W && (allLoT S.K S.init && (allP (fun p => matchV S.K S.init ((Fr.get p.1).v s) p.2) S.inv && (loF S.K S.W s && loH S.K h))))) with
 | false => rw [hc] at A; exact (Arr.bad A).elim
 | true =>
   rw [hc, cond_true] at A
   simp only [Bool.and_eq_true] at hc
   obtain ⟨hWn, hW4, hlT, hentry, hF, hH⟩ := hc
   cases hN : casesN (caseN S n (putAll (headL S.inv S.W) s) (subH h (blksF s S.need)) (blksF s S.need)) h.next S.cases with
   | none => rw [hN] at A; exact (Arr.bad A).elim
   | some N =>
     rw [hN] at A
     obtain ⟨rfl, rfl, rfl⟩ := Arr.nx A
     obtain ⟨hNle, hcase⟩ := casesN_ok hN
     refine ⟨hNle, fun G1 g1 φ a w T r hf hn => ?_⟩
     have hW := allLo_ok hW4
     have hWn' := allLo_ok hWn
     have hent := allP_ok hentry
     have hget := fun inv t ht => putAll_get (inv := inv) (s := s) hW t ht
     have hoth : ∀ t, t < 4096 → t ∉ S.W → loV S.K 4 ((Fr.get t).v s) = true := fun t ht hn => loF_at hF t ht hn
     let Inv : (Nat → Int) → Act → World → Prop := fun σ' a' w' => (∀ i, i < S.K → σ' i = G.σ i) ∧ Good σ' ∧ TRel (ghOf G1 σ' a'.tmps) φ (putAll (headL S.inv S.W) s) a'.tmps ∧ HRel G1 φ h w' ∧ Frame G1 φ h w w' ∧ a'.defers = a.defers ∧ a'.tmps.size = n
     have key : ∀ (k : Nat) (σ' : Nat → Int) (a' : Act) (w' : World), Inv σ' a' w' → μ σ' < k →
      Code.rounds P S.body (fun e' a' w' => e' = .exit S.id ∧ LeftX S.K G1 φ h w a (putAll (headL S.fin S.W) s) { t := h.t, next := N } a' w') k a' w' := by
      intro k
      induction k with
      | zero => intro σ' a' w' _ hk; omega
      | succ k ih =>
        intro σ' a' w' hI hk
        obtain ⟨hσ, hG, T', r', f', hd', hz'⟩ := hI
        obtain ⟨c, hcm, σ2, h2, hok, hback⟩ := hS.step σ' hσ hG
        obtain ⟨x, hx, hxN⟩ := hcase c hcm
        obtain ⟨ok, fk⟩ := hok (ghOf G1 σ2 a'.tmps) rfl (fun i hi => (ghOf_lo hi).trans (g1.ε i hi)) g1.mono
        have T2 : TRel (ghOf G1 σ2 a'.tmps) φ (putAll (headL S.inv S.W) s) a'.tmps := by
         intro t ht
         rw [← T' t ht]
         have hε : ∀ i, i < 1000 → (ghOf G1 σ2 a'.tmps).ε i = (ghOf G1 σ' a'.tmps).ε i := fun i hi => by rw [ghOf_lo hi, ghOf_lo hi]
         rw [hget S.inv t ht]
         by_cases htW : t ∈ S.W
         · rw [if_pos htW]
           rcases lookN_mem (t := t) (d := .opq (1000 + t)) (l := S.inv) with hd | hm
           · rw [hd, conc, conc, ghOf_hi, ghOf_hi]
           · exact matchV_lo (fun i hi => h2 i hi) hε rfl (hent _ hm) φ
         · rw [if_neg htW]
           exact loV_conc (K := S.K) ⟨fun i hi => h2 i (by omega), hε, rfl⟩ φ 4 _ (hoth t ht htW)
        have g2 : GLe S.K G1 (ghOf G1 σ2 a'.tmps) := ⟨fun i hi => (h2 i (by omega)).trans ((hσ i hi).trans (g1.σ i hi).symm), fun i hi => ghOf_lo hi, rfl⟩
        have r2 : HRel (ghOf G1 σ2 a'.tmps) φ h w' := r'.lo g2 hH
        have hCode := code_ok ok (callN_ok ok fk c.fuel) fk.md (n := n) S.body
        rw [rounds_succ]
        have fin : ∀ (e1 : Exit) (s1 : Fr) (h1 : H), Arr ((codeF c.E n S.body).v (callN c.E c.fuel) (putAll (headL S.inv S.W) s) (subH h (blksF s S.need))) e1 s1 h1 → h1.next ≤ N →
         keepsD (putAll (headL S.inv S.W) s) s1 S.W n = true → sameOld (subH h (blksF s S.need)) h1 (blksF s S.need) = true →
         ∀ (Q : Exit → Act → World → Prop), (∀ (φ1 : Mp) (a1 : Act) (w1 : World), φ.le φ1 → TRel (ghOf G1 σ2 a'.tmps) φ1 s1 a1.tmps → HRel (ghOf G1 σ2 a'.tmps) φ h w1 → Frame G1 φ h w w1 → a1.defers = a.defers → a1.tmps.size = n →
          (∀ (G3 : Gh) (L : List (Nat × V)), GLe S.K G1 G3 → (∀ t, t < 4096 → G3.ε (1000 + t) = a1.tmps.getD t undef) → (∀ p ∈ L, p.1 ∈ S.W → ∃ u, conc G3 φ p.2 = some u ∧ conc G3 φ1 p.2 = conc (ghOf G1 σ2 a'.tmps) φ1 ((Fr.get p.1).v s1)) → TRel G3 φ (putAll (headL L S.W) s) a1.tmps) → Q e1 a1 w1) →
         S.body.wp P Q a' w' := by
         intro e1 s1 h1 A1 hle hkeep hsame Q hQ
         obtain ⟨n1, k1⟩ := hCode _ _ _ _ _ A1
         refine wp_mono (k1 φ a' w' T2 (r2.subB _) (fun b hb1 hb2 => hf b hb1 (by show b < N; omega)) hz') ?_
         rintro e2 a1 w1 ⟨rfl, φ1, T1, r1, f1, x1, hd1, hz1⟩
         have r3 : HRel (ghOf G1 σ2 a'.tmps) φ h w1 := r2.again r1 (f1.wild (Nat.le_refl _)) x1.le hsame fun k hk => r2.foot_lt hk
         have fr : Frame G1 φ h w w1 := f'.trans (Ext.refl _ _ _) (Frame.cast (G := ghOf G1 σ2 a'.tmps) (G' := G1) f1.sub rfl)
         refine hQ φ1 a1 w1 x1.le T1 r3 fr (hd1.trans hd') (hz1.trans hz') fun G3 L g3 hε hL t ht => ?_
         rw [hget L t ht]
         by_cases htW : t ∈ S.W
         · rw [if_pos htW]
           rcases lookN_mem (t := t) (d := .opq (1000 + t)) (l := L) with hd | hm
           · rw [hd, conc, hε t ht]
           · obtain ⟨u, h3, h4⟩ := hL _ hm htW
             have h5 := conc_mono x1.le h3
             rw [h4, T1 t ht] at h5
             rw [h3, h5]
         · rw [if_neg htW]
           have hlo := hoth t ht htW
           have hst := T t ht
           have hnow := T2 t ht
           rw [hget S.inv t ht, if_neg htW] at hnow
           have e23 : conc G3 φ ((Fr.get t).v s) = conc (ghOf G1 σ2 a'.tmps) φ ((Fr.get t).v s) := loV_conc (g2.symm.trans g3) φ 4 _ hlo
           rw [e23, hnow]
           by_cases htn : t < n
           · have hsd := sameD_eq _ _ _ (keepsD_ok hkeep t htn htW)
             rw [hget S.inv t ht, if_neg htW] at hsd
             have h6 := T1 t ht
             rw [← hsd, conc_mono x1.le hnow] at h6
             exact h6
           · have z1 : a'.tmps.getD t undef = undef := by rw [Array.getD_eq_getD_getElem?, Array.getElem?_eq_none (by omega)]; rfl
             have z2 : a1.tmps.getD t undef = undef := by rw [Array.getD_eq_getD_getElem?, Array.getElem?_eq_none (by omega)]; rfl
             rw [z1, z2]
        unfold caseN at hx
        split at hx
        · rename_i s1 h1 hrun
          cases hb : (c.back && (allP (fun p => matchV S.K c.sub ((Fr.get p.1).v s1) p.2) S.inv && (keepsD (putAll (headL S.inv S.W) s) s1 S.W n && sameOld (subH h (blksF s S.need)) h1 (blksF s S.need)))) with
          | false => rw [hb] at hx; cases hx
          | true =>
            rw [hb, cond_true] at hx
            cases hx
            simp only [Bool.and_eq_true] at hb
            obtain ⟨hbk, hm, hkeep, hsame⟩ := hb
            refine fin .normal s1 h1 (.inl ⟨hrun, rfl⟩) hxN hkeep hsame _ fun φ1 a1 w1 hle T1 r3 fr hd1 hz1 hT => ?_
            let σ3 : Nat → Int := fun i => if i < S.K then G.σ i else match c.sub[i - S.K]? with | some x => LF.den σ2 x | none => 0
            have hlo3 : ∀ i, i < S.K → σ3 i = G.σ i := fun i hi => if_pos hi
            have hsub3 : ∀ j x, c.sub[j]? = some x → σ3 (S.K + j) = LF.den σ2 x := fun j x hj => by
             show (if S.K + j < S.K then _ else _) = _
             rw [if_neg (by omega), Nat.add_sub_cancel_left, hj]
            obtain ⟨hG3, hμ⟩ := hback hbk σ3 hlo3 hsub3
            have g3 : GLe S.K G1 (ghOf G1 σ3 a1.tmps) := ⟨fun i hi => (hlo3 i hi).trans (g1.σ i hi).symm, fun i hi => ghOf_lo hi, rfl⟩
            refine ih σ3 a1 w1 ⟨hlo3, hG3, hT _ _ g3 (fun t _ => ghOf_hi t) fun p hp hpW => ?_, ?_, fr, hd1, hz1⟩ (by omega)
            · have hmp := allP_ok hm p hp
              have hlow : ∀ i, i < S.K → σ3 i = σ2 i := fun i hi => (hlo3 i hi).trans (((g2.σ i hi).trans (g1.σ i hi)).symm)
              have hε3 : ∀ i, i < 1000 → (ghOf G1 σ3 a1.tmps).ε i = (ghOf G1 σ2 a'.tmps).ε i := fun i hi => by rw [ghOf_lo hi, ghOf_lo hi]
              have hold : ∃ u, conc (ghOf G1 σ2 a'.tmps) φ p.2 = some u := by
               have he := hent p hp
               have he1 : conc (ghOf G1 σ2 a'.tmps) φ p.2 = conc (ghOf G1 σ2 a'.tmps) φ p.2 := rfl
               cases hv : p.2 with
               | sint k c' ts => exact ⟨_, by rw [conc]⟩
               | _ =>
                 have hp4 := hW p.1 hpW
                 have hst := T p.1 hp4
                 rw [hv] at he
                 have he' : (sameD 4 ((Fr.get p.1).v s) _ && loV S.K 4 _) = true := he
                 rw [Bool.and_eq_true] at he'
                 rw [sameD_eq _ _ _ he'.1] at hst
                 exact ⟨_, (loV_conc g2 φ 4 _ he'.2).trans hst⟩
              obtain ⟨u, hu⟩ := hold
              obtain ⟨u', hu'⟩ := matchV_some (G1 := ghOf G1 σ2 a'.tmps) (G2 := ghOf G1 σ3 a1.tmps) hlow hε3 rfl hmp hu
              exact ⟨u', hu', matchV_ok (G1 := ghOf G1 σ2 a'.tmps) (G3 := ghOf G1 σ3 a1.tmps) hlow hε3 rfl hsub3 hmp⟩
            · exact r3.lo g2.symm hH
        · rename_i j s1 h1 hrun
          cases hb : (not c.back && (Nat.beq j S.id && (allP (fun p => matchE c.E S.K ((Fr.get p.1).v s1) p.2) S.fin && (keepsD (putAll (headL S.inv S.W) s) s1 S.W n && sameOld (subH h (blksF s S.need)) h1 (blksF s S.need))))) with
          | false => rw [hb] at hx; cases hx
          | true =>
            rw [hb, cond_true] at hx
            cases hx
            simp only [Bool.and_eq_true] at hb
            obtain ⟨_, hj, hm, hkeep, hsame⟩ := hb
            rw [nbeq, decide_eq_true_eq] at hj
            subst hj
            refine fin (.exit S.id) s1 h1 (.inr (.inl ⟨_, hrun, rfl⟩)) hxN hkeep hsame _ fun φ1 a1 w1 hle T1 r3 fr hd1 hz1 hT => ?_
            have g3 : GLe S.K G1 (ghOf G1 G1.σ a1.tmps) := ⟨fun i hi => rfl, fun i hi => ghOf_lo hi, rfl⟩
            refine ⟨rfl, ghOf G1 G1.σ a1.tmps, g3, φ, hT _ _ g3 (fun t _ => ghOf_hi t) fun p hp hpW => ?_, ?_, fr, ⟨Mp.le_refl _, fun _ e _ => e, hNle, fun _ f _ => f⟩, hd1, hz1.trans hn.symm⟩
            · have hmp := allP_ok hm p hp
              have g23 := g2.symm.trans g3
              have e3 := matchE_ok (φ1 := φ1) ok g23 hmp
              have hold : ∃ u, conc (ghOf G1 G1.σ a1.tmps) φ p.2 = some u := by
               cases hv : p.2 with
               | sint k c' ts => exact ⟨_, by rw [conc]⟩
               | _ =>
                 rw [hv] at hmp
                 have hmp' : (sameD 4 ((Fr.get p.1).v s1) _ && (loV S.K 4 _ && isPl _)) = true := hmp
                 simp only [Bool.and_eq_true] at hmp'
                 exact ⟨_, isPl_conc hmp'.2.2 φ⟩
              obtain ⟨u, hu⟩ := hold
              exact ⟨u, hu, e3⟩
            · have r4 := r3.lo (g2.symm.trans g3) hH
              exact ⟨r4.blk, r4.inj, fun b hb => r4.fresh b (Nat.le_trans hNle hb)⟩
        · cases hx
     have hI0 : ∃ σ0, Inv σ0 a w := by
      let σ0 : Nat → Int := fun i => if i < S.K then G.σ i else match S.init[i - S.K]? with | some x => LF.den G.σ x | none => 0
      have hlo0 : ∀ i, i < S.K → σ0 i = G.σ i := fun i hi => if_pos hi
      have hsub0 : ∀ j x, S.init[j]? = some x → σ0 (S.K + j) = LF.den G.σ x := fun j x hj => by
       show (if S.K + j < S.K then _ else _) = _
       rw [if_neg (by omega), Nat.add_sub_cancel_left, hj]
      refine ⟨σ0, hlo0, hS.init σ0 hlo0 hsub0, fun t ht => ?_, r, Frame.refl _ _ _ _, rfl, hn⟩
      have hlo1 : ∀ i, i < S.K → σ0 i = G1.σ i := fun i hi => (hlo0 i hi).trans (g1.σ i hi).symm
      have hε : ∀ i, i < 1000 → (ghOf G1 σ0 a.tmps).ε i = G1.ε i := fun i hi => ghOf_lo hi
      rw [hget S.inv t ht]
      by_cases htW : t ∈ S.W
      · rw [if_pos htW]
        rcases lookN_mem (t := t) (d := .opq (1000 + t)) (l := S.inv) with hd | hm
        · rw [hd, conc, ghOf_hi]
        · refine (matchV_ok (G1 := G1) (G3 := ghOf G1 σ0 a.tmps) hlo1 hε rfl (fun j x hj => ?_) (hent _ hm)).trans (T t ht)
          show σ0 (S.K + j) = _
          rw [hsub0 j x hj]
          have := allLoT_ok hlT x (List.mem_of_getElem? hj)
          show x.1 + den G.σ x.2 = x.1 + den G1.σ x.2
          rw [g1.den this]
      · rw [if_neg htW]
        exact (loV_conc (K := S.K) ⟨hlo1, hε, rfl⟩ φ 4 _ (hoth t ht htW)).trans (T t ht)
     obtain ⟨σ0, hI0⟩ := hI0
     refine wp_block (wp_mono (wp_loop_rounds (μ σ0 + 1) (key _ σ0 a w hI0 (Nat.lt_succ_self _))) ?_)
     rintro e1 a1 w1 ⟨rfl, L⟩
     show if S.id = S.id then _ else _
     rw [if_pos rfl]
     exact ⟨rfl, L⟩
end
end Go.Proofs.YtmfmjhklajmhoaaGreat.Gv
namespace Go.Proofs.YtmfmjhklajmhoaaGreat.Gv
open Go
section
variable {K : Nat} {G : Gh} {φ : Mp} {h h' : H} {w : World} {P : Program} {a : Act} {s : Fr} {E : Env} {call : Call} {n : Nat} {lk : Nat → Option (Fr → H → RX)}
theorem LeftX.trans {G2 : Gh} {φ1 : Mp} {h1 : H} {w1 : World} {a1 a2 : Act} {s2 : Fr} {h2 : H} {w2 : World} (g : GLe K G G2) (f : Frame G φ h w w1) (x : Ext φ φ1 h h1 w) (hd : a1.defers = a.defers) (hz : a1.tmps.size = a.tmps.size)
 (l : LeftX K G2 φ1 h1 w1 a1 s2 h2 a2 w2) : LeftX K G φ h w a s2 h2 a2 w2 := by
 obtain ⟨G3, g3, φ2, T, r, f2, x2, hd2, hz2⟩ := l
 exact ⟨G3, g.trans g3, φ2, T, r, f.trans x (f2.cast g.mono.symm), x.trans f.size x2, hd2.trans hd, hz2.trans hz⟩
theorem LeftX.refl (T : TRel G φ s a.tmps) (r : HRel G φ h w) : LeftX K G φ h w a s h a w := ⟨G, GLe.refl _ _, φ, T, r, Frame.refl _ _ _ _, Ext.refl _ _ _, rfl, rfl⟩
theorem LeftX.of {s' : Fr} {a' : Act} {w' : World} (l : Left G φ h w a s' h' a' w') : LeftX K G φ h w a s' h' a' w' := by
 obtain ⟨φ', T, r, f, x, hd, hz⟩ := l
 exact ⟨G, GLe.refl _ _, φ', T, r, f, x, hd, hz⟩
theorem PieceX.of {c : Code} (hc : ∀ G1, GLe K G G1 → CodeOk E P G1 call n c) : PieceX P G K n c ((codeF E n c).v call) := by
 intro s h e s' h' A
 refine ⟨(hc G (GLe.refl _ _) s h e s' h' A).1, fun G1 g1 φ a w T r hf hn => ?_⟩
 refine wp_mono ((hc G1 g1 s h e s' h' A).2 φ a w T r hf hn) ?_
 rintro e1 a1 w1 ⟨rfl, L⟩
 exact ⟨rfl, .of L⟩
theorem seq_okX {x y : Code} (hx : PieceX P G K n x ((codeL E lk n x).v call)) (hy : PieceX P G K n y ((codeL E lk n y).v call)) : PieceX P G K n (.seq x y) ((codeL E lk n (.seq x y)).v call) := by
 intro s h e s' h' A
 have hA : Arr (match (codeL E lk n x).v call s h with
  | .nx s h => (codeL E lk n y).v call s h
  | r => r) e s' h' := by
  have : (codeL E lk n (.seq x y)) = (codeL E lk n x).use fun a => (codeL E lk n y).use fun b => ⟨fun call s h => match a call s h with
   | .nx s h => b call s h
   | r => r⟩ := rfl
  rw [this] at A
  simpa only [Box.use_v] using A
 clear A
 cases hr : (codeL E lk n x).v call s h with
 | nx s1 h1 =>
   rw [hr] at hA
   obtain ⟨n1, k1⟩ := hx s h .normal s1 h1 (.inl ⟨hr, rfl⟩)
   obtain ⟨n2, k2⟩ := hy s1 h1 e s' h' hA
   refine ⟨Nat.le_trans n1 n2, fun G1 g1 φ a w T r hf hn => wp_seq ?_⟩
   refine wp_mono (k1 G1 g1 φ a w T r (hf.left n2) hn) ?_
   rintro e1 a1 w1 ⟨rfl, G2, g2, φ1, T1, r1, f1, x1, hd, hz⟩
   refine wp_mono (k2 G2 (g1.trans g2) φ1 a1 w1 T1 r1 (hf.right x1) (hz.trans hn)) ?_
   rintro e2 a2 w2 ⟨rfl, L⟩
   exact ⟨rfl, L.trans g2 f1 x1 hd hz⟩
 | ex i s1 h1 =>
   rw [hr] at hA
   obtain ⟨n1, k1⟩ := hx s h e s' h' (by rw [hr]; exact hA)
   refine ⟨n1, fun G1 g1 φ a w T r hf hn => wp_seq ?_⟩
   refine wp_mono (k1 G1 g1 φ a w T r hf hn) ?_
   rintro e1 a1 w1 ⟨rfl, L⟩
   obtain ⟨_, _, rfl⟩ := Arr.ex hA
   exact ⟨rfl, L⟩
 | rt s1 h1 =>
   rw [hr] at hA
   obtain ⟨n1, k1⟩ := hx s h e s' h' (by rw [hr]; exact hA)
   refine ⟨n1, fun G1 g1 φ a w T r hf hn => wp_seq ?_⟩
   refine wp_mono (k1 G1 g1 φ a w T r hf hn) ?_
   rintro e1 a1 w1 ⟨rfl, L⟩
   obtain ⟨_, _, rfl⟩ := Arr.rt hA
   exact ⟨rfl, L⟩
 | bad m i => rw [hr] at hA; exact (Arr.bad hA).elim
theorem cond_okX {c : Operand} {x y : Code} (hx : PieceX P G K n x ((codeL E lk n x).v call)) (hy : PieceX P G K n y ((codeL E lk n y).v call)) : PieceX P G K n (.cond c x y) ((codeL E lk n (.cond c x y)).v call) := by
 intro s h e s' h' A
 have hc : okOpn c = true ∧ Arr (match (opn c).v s with
  | .bool true => (codeL E lk n x).v call s h
  | .bool false => (codeL E lk n y).v call s h
  | _ => .bad "cond" 0) e s' h' := by
  have : (codeL E lk n (.cond c x y)) = bif okOpn c then (opn c).use fun f => (codeL E lk n x).use fun a => (codeL E lk n y).use fun b => ⟨fun call s h => match f s with
   | .bool true => a call s h
   | .bool false => b call s h
   | _ => .bad "cond" 0⟩ else ⟨fun _ _ _ => .bad "cond" 1⟩ := rfl
  rw [this] at A
  cases hc : okOpn c with
  | false => rw [hc] at A; exact (Arr.bad A).elim
  | true =>
    rw [hc, cond_true] at A
    refine ⟨rfl, ?_⟩
    simpa only [Box.use_v] using A
 clear A
 obtain ⟨hc, hA⟩ := hc
 split at hA
 · rename_i hv
   obtain ⟨n1, k1⟩ := hx s h e s' h' hA
   refine ⟨n1, fun G1 g1 φ a w T r hf hn => wp_cond_true ?_ (k1 G1 g1 φ a w T r hf hn)⟩
   have := opn_ok T hc
   rw [hv, conc] at this
   exact (Option.some.inj this).symm
 · rename_i hv
   obtain ⟨n1, k1⟩ := hy s h e s' h' hA
   refine ⟨n1, fun G1 g1 φ a w T r hf hn => wp_cond_false ?_ (k1 G1 g1 φ a w T r hf hn)⟩
   have := opn_ok T hc
   rw [hv, conc] at this
   exact (Option.some.inj this).symm
 · exact (Arr.bad hA).elim
theorem block_okX {id : Nat} {x : Code} (hl : lk id = none) (hx : PieceX P G K n x ((codeL E lk n x).v call)) : PieceX P G K n (.block id x) ((codeL E lk n (.block id x)).v call) := by
 intro s h e s' h' A
 have hA : Arr (match (codeL E lk n x).v call s h with
  | .ex j s h => bif Nat.beq j id then .nx s h else .ex j s h
  | r => r) e s' h' := by
  have : (codeL E lk n (.block id x)) = match lk id with
   | some g => ⟨fun _ s h => g s h⟩
   | none => (codeL E lk n x).use fun b => ⟨fun call s h => match b call s h with
     | .ex j s h => bif Nat.beq j id then .nx s h else .ex j s h
     | r => r⟩ := rfl
  rw [this, hl] at A
  simpa only [Box.use_v] using A
 cases hr : (codeL E lk n x).v call s h with
 | nx s1 h1 =>
   rw [hr] at hA
   obtain ⟨rfl, rfl, rfl⟩ := Arr.nx hA
   obtain ⟨n1, k1⟩ := hx s h .normal s1 h1 (.inl ⟨hr, rfl⟩)
   refine ⟨n1, fun G1 g1 φ a w T r hf hn => wp_block (wp_mono (k1 G1 g1 φ a w T r hf hn) ?_)⟩
   rintro e1 a1 w1 ⟨rfl, L⟩
   exact ⟨rfl, L⟩
 | ex i s1 h1 =>
   rw [hr] at hA
   obtain ⟨n1, k1⟩ := hx s h (.exit i) s1 h1 (.inr (.inl ⟨i, hr, rfl⟩))
   simp only [nbeq] at hA
   by_cases hi : i = id
   · rw [decide_eq_true hi, cond_true] at hA
     obtain ⟨rfl, rfl, rfl⟩ := Arr.nx hA
     refine ⟨n1, fun G1 g1 φ a w T r hf hn => wp_block (wp_mono (k1 G1 g1 φ a w T r hf hn) ?_)⟩
     rintro e1 a1 w1 ⟨rfl, L⟩
     show if i = id then _ else _
     rw [if_pos hi]
     exact ⟨rfl, L⟩
   · rw [decide_eq_false hi, cond_false] at hA
     obtain ⟨rfl, rfl, rfl⟩ := Arr.ex hA
     refine ⟨n1, fun G1 g1 φ a w T r hf hn => wp_block (wp_mono (k1 G1 g1 φ a w T r hf hn) ?_)⟩
     rintro e1 a1 w1 ⟨rfl, L⟩
     show if i = id then _ else _
     rw [if_neg hi]
     exact ⟨rfl, L⟩
 | rt s1 h1 =>
   rw [hr] at hA
   obtain ⟨rfl, rfl, rfl⟩ := Arr.rt hA
   obtain ⟨n1, k1⟩ := hx s h .ret s1 h1 (.inr (.inr ⟨hr, rfl⟩))
   refine ⟨n1, fun G1 g1 φ a w T r hf hn => wp_block (wp_mono (k1 G1 g1 φ a w T r hf hn) ?_)⟩
   rintro e1 a1 w1 ⟨rfl, L⟩
   exact ⟨rfl, L⟩
 | bad m i => rw [hr] at hA; exact (Arr.bad hA).elim
theorem rounds_monoX {x : Code} : ∀ (k : Nat) (a : Act) (w : World) {Q Q' : Exit → Act → World → Prop}, (∀ e a w, Q e a w → Q' e a w) → Code.rounds P x Q k a w → Code.rounds P x Q' k a w := by
 intro k
 induction k with
 | zero => intro a w Q Q' _ hh; exact hh.elim
 | succ k ih =>
   intro a w Q Q' hq hh
   rw [rounds_succ] at hh ⊢
   refine wp_mono hh ?_
   intro e a w he
   cases e <;> first | exact ih _ _ hq he | exact hq _ _ _ he
theorem rounds_okX {x : Code} (hx : PieceX P G K n x ((codeL E lk n x).v call)) : ∀ (k : Nat) (s : Fr) (h : H) (e : Exit) (s' : Fr) (h' : H), Arr (loopR (codeL E lk n x).v call k s h) e s' h' → h.next ≤ h'.next ∧
 ∀ G1, GLe K G G1 → ∀ (φ : Mp) (a : Act) (w : World), TRel G1 φ s a.tmps → HRel G1 φ h w → Free φ h.next h'.next → a.tmps.size = n →
  Code.rounds P x (fun e' a' w' => e' = e ∧ LeftX K G1 φ h w a s' h' a' w') k a w
 | 0, s, h, e, s', h', A => (Arr.bad A).elim
 | k + 1, s, h, e, s', h', A => by
   rw [loopR_succ] at A
   cases hr : (codeL E lk n x).v call s h with
   | nx s1 h1 =>
     rw [hr] at A
     obtain ⟨n1, k1⟩ := hx s h .normal s1 h1 (.inl ⟨hr, rfl⟩)
     obtain ⟨n2, k2⟩ := rounds_okX hx k s1 h1 e s' h' A
     refine ⟨Nat.le_trans n1 n2, fun G1 g1 φ a w T r hf hn => ?_⟩
     rw [rounds_succ]
     refine wp_mono (k1 G1 g1 φ a w T r (hf.left n2) hn) ?_
     rintro e1 a1 w1 ⟨rfl, G2, g2, φ1, T1, r1, f1, x1, hd, hz⟩
     refine rounds_monoX k a1 w1 ?_ (k2 G2 (g1.trans g2) φ1 a1 w1 T1 r1 (hf.right x1) (hz.trans hn))
     rintro e2 a2 w2 ⟨rfl, L⟩
     exact ⟨rfl, L.trans g2 f1 x1 hd hz⟩
   | ex i s1 h1 =>
     rw [hr] at A
     obtain ⟨rfl, rfl, rfl⟩ := Arr.ex A
     obtain ⟨n1, k1⟩ := hx s h (.exit i) s1 h1 (.inr (.inl ⟨i, hr, rfl⟩))
     refine ⟨n1, fun G1 g1 φ a w T r hf hn => ?_⟩
     rw [rounds_succ]
     refine wp_mono (k1 G1 g1 φ a w T r hf hn) ?_
     rintro e1 a1 w1 ⟨rfl, L⟩
     exact ⟨rfl, L⟩
   | rt s1 h1 =>
     rw [hr] at A
     obtain ⟨rfl, rfl, rfl⟩ := Arr.rt A
     obtain ⟨n1, k1⟩ := hx s h .ret s1 h1 (.inr (.inr ⟨hr, rfl⟩))
     refine ⟨n1, fun G1 g1 φ a w T r hf hn => ?_⟩
     rw [rounds_succ]
     refine wp_mono (k1 G1 g1 φ a w T r hf hn) ?_
     rintro e1 a1 w1 ⟨rfl, L⟩
     exact ⟨rfl, L⟩
   | bad m i => rw [hr] at A; exact (Arr.bad A).elim
theorem loop_okX {x : Code} (hx : PieceX P G K n x ((codeL E lk n x).v call)) : PieceX P G K n (.loop x) ((codeL E lk n (.loop x)).v call) := by
 intro s h e s' h' A
 have hA : Arr (loopR (codeL E lk n x).v call 1000000 s h) e s' h' := by
  have : (codeL E lk n (.loop x)) = (codeL E lk n x).use fun b => ⟨fun call => loopR b call 1000000⟩ := rfl
  rw [this] at A
  simpa only [Box.use_v] using A
 obtain ⟨n1, k1⟩ := rounds_okX hx 1000000 s h e s' h' hA
 exact ⟨n1, fun G1 g1 φ a w T r hf hn => wp_loop_rounds 1000000 (k1 G1 g1 φ a w T r hf hn)⟩
def LkOk (P : Program) (G : Gh) (K n : Nat) (lk : Nat → Option (Fr → H → RX)) (l : List (Nat × Code)) : Prop := ∀ p ∈ l, ∀ g, lk p.1 = some g → PieceX P G K n (.block p.1 p.2) g
theorem codeL_ok (ok : ∀ G1, GLe K G G1 → EnvOk E P G1) (ck : ∀ G1, GLe K G G1 → CallOk P G1 call) (hm : P.follows .mixedOrders = true) : ∀ c : Code, LkOk P G K n lk (blocksC c) → PieceX P G K n c ((codeL E lk n c).v call)
 | .skip, _ => PieceX.of fun G1 g1 => code_ok (ok G1 g1) (ck G1 g1) hm .skip
 | .region id ops draw, _ => PieceX.of fun G1 g1 => region_ok (ok G1 g1) (ck G1 g1) hm
 | .seq x y, hl => seq_okX (codeL_ok ok ck hm x fun p hp => hl p (List.mem_append_left _ hp)) (codeL_ok ok ck hm y fun p hp => hl p (List.mem_append_right _ hp))
 | .cond c x y, hl => cond_okX (codeL_ok ok ck hm x fun p hp => hl p (List.mem_append_left _ hp)) (codeL_ok ok ck hm y fun p hp => hl p (List.mem_append_right _ hp))
 | .block id x, hl => by
   cases hg : lk id with
   | some g =>
     have : (codeL E lk n (.block id x)).v call = fun s h => g s h := by
      have : (codeL E lk n (.block id x)) = match lk id with
       | some g => ⟨fun _ s h => g s h⟩
       | none => (codeL E lk n x).use fun b => ⟨fun call s h => match b call s h with
         | .ex j s h => bif Nat.beq j id then .nx s h else .ex j s h
         | r => r⟩ := rfl
      rw [this, hg]
     rw [this]
     exact hl (id, x) (by simp [blocksC]) g hg
   | none => exact block_okX hg (codeL_ok ok ck hm x fun p hp => hl p (List.mem_cons_of_mem _ hp))
 | .loop x, hl => loop_okX (codeL_ok ok ck hm x hl)
 | .exit id, _ => PieceX.of fun G1 g1 => code_ok (ok G1 g1) (ck G1 g1) hm (.exit id)
 | .label l, _ => PieceX.of fun G1 g1 => code_ok (ok G1 g1) (ck G1 g1) hm (.label l)
 | .ret, _ => PieceX.of fun G1 g1 => code_ok (ok G1 g1) (ck G1 g1) hm .ret
 | .rangeFunc .., _ => fun s h e s' h' A => (Arr.bad (show Arr (.bad "rangeFunc" 0) e s' h' from A)).elim
 | .scope .., _ => fun s h e s' h' A => (Arr.bad (show Arr (.bad "scope" 0) e s' h' from A)).elim
 | .goto _, _ => fun s h e s' h' A => (Arr.bad (show Arr (.bad "goto" 0) e s' h' from A)).elim
 | .refuse _, _ => fun s h e s' h' A => (Arr.bad (show Arr (.bad "refuse" 0) e s' h' from A)).elim
theorem runL_ok (ok : ∀ G1, GLe K G G1 → EnvOk E P G1) (fk : ∀ G1, GLe K G G1 → FnOk E P G1) {f fuel : Nat} {fn : Func} (hP : P.funcs[f]? = some fn) {c : Code} (hb : fn.body = some c) (hl : LkOk P G K fn.ntmps lk (blocksC c))
 {l : List V} {v : V} (e : runL E lk fuel fn l h = .ok v h') {ul : List Value} (hul : concL G φ l = some ul) (r : HRel G φ h w) (hf : Free φ h.next h'.next) :
 Calls P f ul.toArray w fun e w' => ∃ u, e = .returned u ∧ ∃ G2, GLe K G G2 ∧ Post G2 φ h w v h' u w' := by
 unfold runL at e
 rw [hb] at e
 dsimp only at e
 cases hlen : (Nat.ble l.length fn.ntmps && Nat.ble l.length 4096) with
 | false => rw [hlen] at e; cases e
 | true =>
   rw [hlen, cond_true] at e
   rw [Bool.and_eq_true, nble, nble, decide_eq_true_eq, decide_eq_true_eq] at hlen
   have hulen := concL_length hul
   refine calls_of_wp hP hb ?_
   have T0 := start_ok (n := fn.ntmps) hul hlen.2
   have hsz : (ul.toArray ++ Array.replicate (fn.ntmps - ul.toArray.size) undef).size = fn.ntmps := by simp; omega
   have fin : ∀ (x : Exit) (s1 : Fr) (h1 : H), Arr ((codeL E lk fn.ntmps c).v (callN E fuel) (Fr.ofL l 0 Fr.new) h) x s1 h1 → (x = .normal ∨ x = .ret) →
    (match (resF E fn.results.toList).v s1 h1 with | .ok v h2 => bif Nat.ble h1.next h2.next then RV.ok v h2 else .bad "next" 1 | .bad w n => .bad w n) = .ok v h' →
    c.wp P (bodyPost P fn fun e w'' => ∃ u, e = .returned u ∧ ∃ G2, GLe K G G2 ∧ Post G2 φ h w v h' u w'') { tmps := ul.toArray ++ Array.replicate (fn.ntmps - ul.toArray.size) undef, defers := [] } w := by
    intro x s1 h1 A hx hr
    obtain ⟨n1, k1⟩ := codeL_ok ok (fun G1 g1 => callN_ok (ok G1 g1) (fk G1 g1) fuel) (fk G (GLe.refl _ _)).md c hl _ _ _ _ _ A
    cases hres : (resF E fn.results.toList).v s1 h1 with
    | bad m i => rw [hres] at hr; cases hr
    | ok v2 h2 =>
      rw [hres] at hr
      dsimp only at hr
      cases hnx : Nat.ble h1.next h2.next with
      | false => rw [hnx] at hr; cases hr
      | true =>
        rw [hnx, cond_true] at hr
        cases hr
        rw [nble, decide_eq_true_eq] at hnx
        refine wp_mono (k1 G (GLe.refl _ _) φ _ w T0 r (hf.left hnx) hsz) ?_
        rintro e1 a1 w1 ⟨rfl, G2, g2, φ1, T1, r1, f1, x1, hd, hz⟩
        obtain ⟨rfl, u, hu, hc⟩ := res_ok (ok G2 g2) (h' := h') T1 r1 hres
        rcases hx with rfl | rfl
        · exact ⟨hd, u, hu, u, rfl, G2, g2, φ1, hc, r1, f1.cast g2.mono, x1⟩
        · exact ⟨hd, u, hu, u, rfl, G2, g2, φ1, hc, r1, f1.cast g2.mono, x1⟩
   cases hx : (codeL E lk fn.ntmps c).v (callN E fuel) (Fr.ofL l 0 Fr.new) h with
   | nx s1 h1 => rw [hx] at e; exact fin .normal s1 h1 (.inl ⟨hx, rfl⟩) (.inl rfl) e
   | rt s1 h1 => rw [hx] at e; exact fin .ret s1 h1 (.inr (.inr ⟨hx, rfl⟩)) (.inr rfl) e
   | ex i s1 h1 => rw [hx] at e; cases e
   | bad m i => rw [hx] at e; cases e
end
end Go.Proofs.YtmfmjhklajmhoaaGreat.Gv
