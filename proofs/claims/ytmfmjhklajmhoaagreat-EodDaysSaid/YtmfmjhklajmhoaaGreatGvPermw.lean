/- Functions that go over a map: code is run for every order of the entries, and all ends are one but for the names of new blocks. -/
import Derived.Test.YtmfmjhklajmhoaaGreatGvLoopk
import Derived.Test.YtmfmjhklajmhoaaGreatGvMul
namespace Go.Proofs.YtmfmjhklajmhoaaGreat.Gv
open Go
noncomputable def nextL (v : V) (h : H) : Option (List (V × H)) :=
 match v with
 | .ptr b o => bif Nat.beq o 0 then (match h.t.get b with
   | some (.iter none _ _ _) => some [(.tuple [.bool false], h)]
   | some (.iter (some m) since seen last) => (match h.t.get m with
     | some (.map es bs clk) => bif Nat.ble since last && allLt since bs then (match leftB seen es bs with
       | [] => some [(.tuple [.bool false], h)]
       | l => some (l.map fun x => (.tuple [.bool true, x.1.1, x.1.2], h.put b (.iter (some m) since (seen ++ [x.2]) clk)))) else none
     | _ => none)
   | _ => none) else none
 | _ => none
noncomputable def allX {α : Type} (f : α → Bool) (l : List α) : Bool := List.rec (motive := fun _ => Bool) true (fun x _ ih => bif f x then ih else false) l
noncomputable def fstX {α β : Type} (f : α → Option β) (l : List α) : Option β := match l with | x :: _ => f x | [] => none
noncomputable def regP {A : Type} (bad : A) (comb : ∀ {α : Type}, (α → A) → List α → A) (E : Env) (N n : Nat) (ops : List Oper) : Box (Call → Fr → H → (RX → A) → A) :=
 match ops with
 | o :: rest => match o.op, o.guard with
   | .next it false, none => bif okOpn it then (opsF E n ops rest).use fun f => (opn it).use fun g => match putD n o.dst with
     | some p => p.use fun p => ⟨fun call s h k => match nextL (g s) h with
       | some outs => comb (fun (x : V × H) => match f call (p x.1 s) x.2 with
         | .ok s1 h1 => bif Nat.ble h1.next N then k (.nx s1 h1) else bad
         | .bad _ _ => bad) outs
       | none => bad⟩
     | none => ⟨fun _ _ _ _ => bad⟩ else ⟨fun _ _ _ _ => bad⟩
   | _, _ => (opsF E n ops ops).use fun f => ⟨fun call s h k => match f call s h with
     | .ok s1 h1 => bif Nat.ble h1.next N then k (.nx s1 h1) else bad
     | .bad _ _ => bad⟩
 | [] => ⟨fun _ s h k => k (.nx s h)⟩
noncomputable def loopP {A : Type} (bad : A) (f : Fr → H → (RX → A) → A) (k : RX → A) (fuel : Nat) : Fr → H → A :=
 Nat.rec (motive := fun _ => Fr → H → A) (fun _ _ => bad) (fun _ ih s h => f s h fun r => match r with | .nx s h => ih s h | r => k r) fuel
noncomputable def codeP {A : Type} (bad : A) (comb : ∀ {α : Type}, (α → A) → List α → A) (E : Env) (N n : Nat) (c : Code) : Box (Call → Fr → H → (RX → A) → A) :=
 Code.rec (motive := fun _ => Box (Call → Fr → H → (RX → A) → A))
  ⟨fun _ s h k => k (.nx s h)⟩
  (fun _ ops draw => match draw with
   | true => (drawF E n ops.toList).use fun f => ⟨fun call s h k => match f call s h with
     | .ok s1 h1 => bif Nat.ble h1.next N then k (.nx s1 h1) else bad
     | .bad _ _ => bad⟩
   | false => regP bad (fun {_} => comb) E N n ops.toList)
  (fun _ _ ia ib => ia.use fun a => ib.use fun b => ⟨fun call s h k => a call s h fun r => match r with
   | .nx s h => b call s h k
   | r => k r⟩)
  (fun c _ _ ia ib => bif okOpn c then (opn c).use fun f => ia.use fun a => ib.use fun b => ⟨fun call s h k => match f s with
   | .bool true => a call s h k
   | .bool false => b call s h k
   | _ => bad⟩ else ⟨fun _ _ _ _ => bad⟩)
  (fun id _ ib => ib.use fun b => ⟨fun call s h k => b call s h fun r => match r with
   | .ex j s h => bif Nat.beq j id then k (.nx s h) else k (.ex j s h)
   | r => k r⟩)
  (fun _ ib => ib.use fun b => ⟨fun call s h k => loopP bad (b call) k 1000000 s h⟩)
  (fun _ _ _ _ _ _ => ⟨fun _ _ _ _ => bad⟩)
  (fun id => ⟨fun _ s h k => k (.ex id s h)⟩)
  (fun _ _ => ⟨fun _ _ _ _ => bad⟩)
  (fun _ => ⟨fun _ s h k => k (.nx s h)⟩)
  (fun _ => ⟨fun _ _ _ _ => bad⟩)
  ⟨fun _ s h k => k (.rt s h)⟩
  (fun _ => ⟨fun _ _ _ _ => bad⟩) c
noncomputable def rn (ρ : List (Nat × Nat)) (b : Nat) : Nat := List.rec (motive := fun _ => Nat) b (fun p _ ih => bif Nat.beq p.1 b then p.2 else ih) ρ
noncomputable def mapVs (f : V → V) (l : List V) : List V := List.rec (motive := fun _ => List V) [] (fun v _ ih => f v :: ih) l
noncomputable def renV (ρ : List (Nat × Nat)) (n : Nat) : V → V := Nat.rec (motive := fun _ => V → V) (fun _ => .emp 0) (fun _ ih v => match v with
 | .ptr b o => .ptr (rn ρ b) o
 | .slice b o n c x => .slice (rn ρ b) o n c x
 | .map b => .map (rn ρ b)
 | .agg l => .agg (mapVs ih l)
 | .tuple l => .tuple (mapVs ih l)
 | .func _ _ _ => .emp 0
 | .iface _ _ => .emp 0
 | .yld _ => .emp 0
 | .emp _ => .emp 0
 | v => v) n
noncomputable def noEmp (n : Nat) : V → Bool := Nat.rec (motive := fun _ => V → Bool) (fun _ => false) (fun _ ih v => match v with
 | .emp _ => false
 | .agg l => allVs ih l
 | .tuple l => allVs ih l
 | _ => true) n
noncomputable def sameR (ρ : List (Nat × Nat)) (v1 v2 : V) : Bool := bif noEmp 4 (renV ρ 4 v1) then sameD 4 (renV ρ 4 v1) v2 else false
noncomputable def sameRs (ρ : List (Nat × Nat)) (cs cs' : T V) (n : Nat) : Bool := Nat.rec (motive := fun _ => Bool) true (fun i ih => match cs.get i with
 | some v => (match cs'.get i with | some v' => bif sameR ρ v v' then ih else false | none => false)
 | none => ih) n
noncomputable def sameRb (ρ : List (Nat × Nat)) (x y : B) : Bool := match x, y with
 | .cells cs n sz ex, .cells cs' n' sz' ex' => Nat.beq n n' && (Nat.beq sz sz' && (sameBool ex ex' && sameRs ρ cs cs' n))
 | _, _ => false
noncomputable def okR (base N : Nat) (h1 h2 : H) (ρ : List (Nat × Nat)) (l : List (Nat × Nat)) : Bool :=
 List.rec (motive := fun _ => Bool) true (fun p t ih => bif Nat.ble base p.1 && (Nat.blt p.1 N && (Nat.ble base p.2 && (allX (fun (q : Nat × Nat) => not (Nat.beq q.1 p.1) && not (Nat.beq q.2 p.2)) t &&
  (match h1.t.get p.1 with | some x => (match h2.t.get p.2 with | some y => sameRb ρ x y | none => false) | none => false)))) then ih else false) l
noncomputable def cellsOf (cs : T V) (n : Nat) : List V := Nat.rec (motive := fun _ => List V) [] (fun i ih => match cs.get i with | some v => v :: ih | none => ih) n
noncomputable def entsOf (es : List (V × V)) : List V := List.rec (motive := fun _ => List V) [] (fun p _ ih => p.1 :: p.2 :: ih) es
noncomputable def reachF (h : H) (fuel : Nat) : List V → List Nat → List Nat := Nat.rec (motive := fun _ => List V → List Nat → List Nat) (fun _ bs => bs) (fun _ ih w bs =>
 (fun (go : Nat → List V → List Nat) => match w with
  | [] => bs
  | v :: w => match v with
    | .ptr b _ => go b w
    | .slice b _ _ _ _ => go b w
    | .map b => go b w
    | .agg l => ih (l ++ w) bs
    | .tuple l => ih (l ++ w) bs
    | .iface _ v => ih (v :: w) bs
    | .func _ a c => ih (a ++ (c ++ w)) bs
    | _ => ih w bs)
 fun b w => bif hasN b bs then ih w bs else match h.t.get b with
  | some (.cells cs n _ _) => ih (cellsOf cs n ++ w) (b :: bs)
  | some (.map es _ _) => ih (entsOf es ++ w) (b :: bs)
  | _ => ih w bs) fuel
noncomputable def pairF (base : Nat) (h1 h2 : H) (fuel : Nat) : List (V × V) → List (Nat × Nat) → List (Nat × Nat) := Nat.rec (motive := fun _ => List (V × V) → List (Nat × Nat) → List (Nat × Nat)) (fun _ ρ => ρ) (fun _ ih w ρ =>
 (fun (go : Nat → Nat → List (V × V) → List (Nat × Nat)) => match w with
  | [] => ρ
  | p :: w => match p.1, p.2 with
    | .ptr b _, .ptr c _ => go b c w
    | .slice b _ _ _ _, .slice c _ _ _ _ => go b c w
    | .agg l, .agg m => ih (l.zip m ++ w) ρ
    | .tuple l, .tuple m => ih (l.zip m ++ w) ρ
    | _, _ => ih w ρ)
 fun b c w => bif Nat.blt b base then ih w ρ else bif allX (fun (q : Nat × Nat) => not (Nat.beq q.1 b)) ρ then (match h1.t.get b, h2.t.get c with
  | some (.cells cs n _ _), some (.cells cs' _ _ _) => ih ((cellsOf cs n).zip (cellsOf cs' n) ++ w) ((b, c) :: ρ)
  | _, _ => ih w ρ) else ih w ρ) fuel
noncomputable def addB (h1 : H) (ρ : List (Nat × Nat)) (t : T B) : T B := List.rec (motive := fun _ => T B) t (fun p _ ih => match h1.t.get p.1 with | some x => ih.set p.1 x | none => ih) ρ
noncomputable def endP {A : Type} (bad : A) (E : Env) (fn : Func) (k : V → H → A) (r : RX) : A :=
 match r with
 | .nx s h => (match (resF E fn.results.toList).v s h with | .ok v h => k v h | .bad _ _ => bad)
 | .rt s h => (match (resF E fn.results.toList).v s h with | .ok v h => k v h | .bad _ _ => bad)
 | _ => bad
noncomputable def likeP (hs : H) (bs : List Nat) (N : Nat) (v1 : V) (h1 : H) (ks : List Nat) (v2 : V) (h2 : H) : Bool :=
 (fun ρ => bif Nat.ble h2.next N && (sameOld hs h2 bs && (sameR ρ v1 v2 && (okR hs.next N h1 h2 ρ ρ && sameNs (ρ.map (·.1)) ks))) then true else false) (pairF hs.next h1 h2 5000 [(v1, v2)] [])
noncomputable def permG (E : Env) (fn : Func) (call : Call) (args : List V) (h : H) : RV :=
 match fn.body with
 | none => .bad "perm: body" 0
 | some c => bif Nat.ble args.length fn.ntmps && Nat.ble args.length 4096 then
   (fun (bs : List Nat) => (fun (hs : H) (N : Nat) =>
    match (codeP (A := Option (V × H)) none (fun {_} => fstX) E N fn.ntmps c).v call (Fr.ofL args 0 Fr.new) hs (endP none E fn fun v h => some (v, h)) with
    | none => .bad "perm: first" 0
    | some (v1, h1) => (fun (ks : List (Nat × Nat)) =>
      bif (codeP (A := Bool) false (fun {_} => allX) E N fn.ntmps c).v call (Fr.ofL args 0 Fr.new) hs (endP false E fn (likeP hs bs N v1 h1 (ks.map (·.1)))) then
       .ok v1 { t := addB h1 ks h.t, next := N } else .bad "perm: ends" 0) (pairF hs.next h1 h1 5000 [(v1, v1)] []))
    (subH h bs) (h.next + 1000)) (reachF h 5000 args [])
 else .bad "perm: args" 0
end Go.Proofs.YtmfmjhklajmhoaaGreat.Gv
namespace Go.Proofs.YtmfmjhklajmhoaaGreat.Gv
open Go
section
variable {E : Env} {P : Program} {G : Gh} {φ : Mp} {h h' : H} {w w' : World} {s : Fr} {a : Act} {v : V} {o : Oper} {call : Call} {N n : Nat}
theorem allX_ok {α : Type} {f : α → Bool} : ∀ {l : List α}, allX f l = true → ∀ x ∈ l, f x = true
 | [], _, p, hp => by cases hp
 | q :: l, e, p, hp => by
   have e : (bif f q then allX f l else false) = true := e
   cases h1 : f q with
   | false => rw [h1] at e; cases e
   | true =>
     rw [h1, cond_true] at e
     rcases List.mem_cons.1 hp with rfl | hp
     · exact h1
     · exact allX_ok e p hp
theorem nextL_ok {it : Operand} (ho : o.op = .next it false) (hx : okOpn it = true) (T : TRel G φ s a.tmps) (r : HRel G φ h w) {outs : List (V × H)}
 (e : nextL ((opn it).v s) h = some outs) : ∃ x ∈ outs, Did G φ h w x.1 x.2 ((execOp a.eval o).run P w) := by
 have h1 := opn_ok T hx
 unfold nextL at e
 split at e
 · rename_i b off hy
   rw [hy] at h1
   obtain ⟨l, hl, h2⟩ := conc_ptr h1
   cases h0 : Nat.beq off 0 with
   | false => rw [h0] at e; cases e
   | true =>
     rw [h0, cond_true] at e
     rw [nbeq, decide_eq_true_eq] at h0
     subst h0
     have hc : conc G φ (.tuple [.bool false]) = some (.tuple #[.bool false]) := by
      rw [conc, concL_cons.2 ⟨_, _, by rw [conc], concL_nil, rfl⟩]
     split at e
     · rename_i hb
       cases e
       have hB := r.blk b _ l hb hl
       refine ⟨_, List.mem_singleton.2 rfl, φ, _, w, .inl ?_, hc, r, Frame.refl _ _ _ _, Ext.refl _ _ _⟩
       rw [show execOp a.eval o = (do pure (.value (← Instr.next (a.eval it) false o.type))) by simp [execOp, ho], h2]
       simp [Instr.next, getObj_iter hB]
     · rename_i m since seen last hb
       split at e
       · rename_i es bs clk hm
         cases hg : (Nat.ble since last && allLt since bs) with
         | false => rw [hg] at e; cases e
         | true =>
           rw [hg, cond_true] at e
           rw [Bool.and_eq_true, nble, decide_eq_true_eq] at hg
           obtain ⟨lm, hlm, hw⟩ := r.blk b _ l hb hl
           obtain ⟨El, hw2, hE, hBo, hbs⟩ := r.ents2 hm hlm
           have hold : ∀ x ∈ El.toList, x.born < since := fun x hx => allLt_ok hg.2 _ (by rw [← hbs]; exact List.mem_map.2 ⟨x, hx, rfl⟩)
           have hrn := run_next_at (P := P) w o.type l.blk lm.blk since last seen.toArray El clk hw hw2 hold hg.1
           have hlf : (leftOf El seen.toArray).toList = El.toList.filter fun e => !seen.contains e.born := by
            unfold leftOf
            rw [Array.toList_filter]
            congr 1
            funext e
            simp
           obtain ⟨g1, g2⟩ := leftB_ok (seen := seen) hE hbs
           split at e
           · rename_i hL
             cases e
             rw [hL] at g1
             have hnil : (leftOf El seen.toArray).toList = [] := by rw [hlf]; exact List.eq_nil_of_length_eq_zero g1.symm
             rcases hrn with ⟨_, hrun⟩ | ⟨en, hen, _⟩
             · refine ⟨_, List.mem_singleton.2 rfl, φ, _, w, .inl ?_, hc, r, Frame.refl _ _ _ _, Ext.refl _ _ _⟩
               rw [show execOp a.eval o = (do pure (.value (← Instr.next (a.eval it) false o.type))) by simp [execOp, ho], h2]
               simp [hrun]
             · rw [hnil] at hen; cases hen
           · rename_i hne
             cases e
             rcases hrn with ⟨h3, hrun⟩ | ⟨en, hen, w1, hw1, hrun⟩
             · exfalso
               have h4 : (leftOf El seen.toArray).toList.length = 0 := by simpa using h3
               rw [hlf, ← g1] at h4
               exact hne (List.eq_nil_of_length_eq_zero h4)
             · have hen2 : en ∈ El.toList.filter fun e => !seen.contains e.born := by rw [← hlf]; simpa using hen
               obtain ⟨i, hi⟩ := List.mem_iff_getElem?.1 hen2
               have hil : i < (leftB seen es bs).length := by
                rw [g1]
                exact (List.getElem?_eq_some_iff.1 hi).1
               obtain ⟨en', hen', hk, hv, hbn⟩ := g2 i (leftB seen es bs)[i] (by simp [hil])
               rw [hi] at hen'
               cases hen'
               have hheap : w1.heap = w.heap := by rcases hw1 with rfl | rfl <;> rfl
               have hlt := (r.blk b _ l hb hl).lt
               refine ⟨_, List.mem_map.2 ⟨(leftB seen es bs)[i], List.getElem_mem _, rfl⟩, φ, _, ChangeMaps.setBlock w1 l.blk (.mapIter (some lm.blk) since (seen.toArray.push en.born) clk), .inl ?_, tuple3 hk hv, ?_, ?_, Ext.put ⟨_, hb⟩⟩
               · rw [show execOp a.eval o = (do pure (.value (← Instr.next (a.eval it) false o.type))) by simp [execOp, ho], h2]
                 simp [hrun]
               · refine r.put hb hl ⟨lm, hlm, ?_⟩ fun k hk => ?_
                 · simp [ChangeMaps.setBlock, hheap, hlt, hbn]
                 · simp [ChangeMaps.setBlock, hheap, Array.getElem?_setIfInBounds_ne (Ne.symm hk)]
               · refine ⟨fun _ => ?_, ?_, ?_, ?_, ?_, fun k hk hn => ?_⟩
                 · rcases hw1 with rfl | rfl
                   · exact Nat.le_refl _
                   · exact Nat.le_succ _
                 · rcases hw1 with rfl | rfl <;> rfl
                 · rcases hw1 with rfl | rfl <;> rfl
                 · rcases hw1 with rfl | rfl <;> rfl
                 · simp [ChangeMaps.setBlock, hheap]
                 · have : l.blk ≠ k := fun e => hn ⟨b, _, l, hb, hl, e⟩
                   simp [ChangeMaps.setBlock, hheap, Array.getElem?_setIfInBounds_ne this]
       · cases e
     · cases e
 · cases e
def PieceP (P : Program) (G : Gh) (N n : Nat) (c : Code) (g : Fr → H → (RX → Bool) → Bool) : Prop :=
 ∀ (s : Fr) (h : H) (k : RX → Bool), g s h k = true → h.next ≤ N → ∀ (φ : Mp) (a : Act) (w : World), TRel G φ s a.tmps → HRel G φ h w → Free φ h.next N → a.tmps.size = n →
  c.wp P (fun e' a' w' => ∃ r s' h', Arr r e' s' h' ∧ k r = true ∧ h'.next ≤ N ∧ Left G φ h w a s' h' a' w') a w
noncomputable abbrev codeB (E : Env) (N n : Nat) (c : Code) : Box (Call → Fr → H → (RX → Bool) → Bool) := codeP (A := Bool) false (fun {_} => allX) E N n c
theorem regB_ok (ok : EnvOk E P G) (ck : CallOk P G call) (hm : P.follows .mixedOrders = true) {id : Nat} {ops : Array Oper} {draw : Bool} : PieceP P G N n (.region id ops draw) ((codeB E N n (.region id ops draw)).v call) := by
 intro s h k e hN φ a w T r hf hn
 have plain : ∀ (R : RS), (match R with
  | .ok s1 h1 => bif Nat.ble h1.next N then k (.nx s1 h1) else false
  | .bad _ _ => false) = true → ∃ s1 h1, R = .ok s1 h1 ∧ h1.next ≤ N ∧ k (.nx s1 h1) = true := by
  intro R e
  cases R with
  | ok s1 h1 =>
    dsimp only at e
    cases hb : Nat.ble h1.next N with
    | false => rw [hb] at e; cases e
    | true => rw [hb, cond_true] at e; rw [nble, decide_eq_true_eq] at hb; exact ⟨s1, h1, rfl, hb, e⟩
  | bad m i => cases e
 subst hn
 cases draw with
 | true =>
   have : (codeB E N a.tmps.size (.region id ops true)).v call s h k = (match (drawF E a.tmps.size ops.toList).v call s h with
    | .ok s1 h1 => bif Nat.ble h1.next N then k (.nx s1 h1) else false
    | .bad _ _ => false) := by
    show (Box.use (drawF E a.tmps.size ops.toList) (fun f => (⟨fun call s h k => match f call s h with
     | .ok s1 h1 => bif Nat.ble h1.next N then k (.nx s1 h1) else false
     | .bad _ _ => false⟩ : Box (Call → Fr → H → (RX → Bool) → Bool)))).v call s h k = _
    rw [Box.use_v]
   rw [this] at e
   obtain ⟨s1, h1, hr, hle, hk⟩ := plain _ e
   exact draw_ok ok ck hm hr T r (hf.left hle) fun a' w' L => ⟨_, s1, h1, .inl ⟨rfl, rfl⟩, hk, hle, L⟩
 | false =>
   have hwhole : ∀ s1 h1, (opsF E a.tmps.size ops.toList ops.toList).v call s h = .ok s1 h1 → h1.next ≤ N → k (.nx s1 h1) = true →
    (Code.region id ops false).wp P (fun e' a' w' => ∃ r s' h', Arr r e' s' h' ∧ k r = true ∧ h'.next ≤ N ∧ Left G φ h w a s' h' a' w') a w := fun s1 h1 hr hle hk =>
    regT_ok ok ck hr T r (hf.left hle) fun a' w' L => ⟨_, s1, h1, .inl ⟨rfl, rfl⟩, hk, hle, L⟩
   have e : (regP (A := Bool) false (fun {_} => allX) E N a.tmps.size ops.toList).v call s h k = true := e
   cases hops : ops.toList with
   | nil =>
     rw [hops] at e
     refine hwhole s h ?_ hN e
     rw [hops]
     rfl
   | cons o rest =>
     rw [hops] at e
     have simple : ((opsF E a.tmps.size (o :: rest) (o :: rest)).use fun f => (⟨fun call s h k => match f call s h with
      | .ok s1 h1 => bif Nat.ble h1.next N then k (.nx s1 h1) else false
      | .bad _ _ => false⟩ : Box (Call → Fr → H → (RX → Bool) → Bool))).v call s h k = true → (Code.region id ops false).wp P (fun e' a' w' => ∃ r s' h', Arr r e' s' h' ∧ k r = true ∧ h'.next ≤ N ∧ Left G φ h w a s' h' a' w') a w := fun e => by
      rw [Box.use_v] at e
      obtain ⟨s1, h1, hr, hle, hk⟩ := plain _ e
      exact hwhole s1 h1 (by rw [hops]; exact hr) hle hk
     unfold regP at e
     dsimp only at e
     split at e
     · rename_i it ho hg
       cases hx : okOpn it with
       | false => rw [hx] at e; cases e
       | true =>
         rw [hx, cond_true, Box.use_v, Box.use_v] at e
         cases hp : putD a.tmps.size o.dst with
         | none => rw [hp] at e; cases e
         | some p =>
           rw [hp] at e
           dsimp only at e
           rw [Box.use_v] at e
           dsimp only at e
           cases hL : nextL ((opn it).v s) h with
           | none => rw [hL] at e; cases e
           | some outs =>
             rw [hL] at e
             dsimp only at e
             obtain ⟨x, hxm, hdid⟩ := nextL_ok (P := P) (a := a) ho hx T r hL
             have e1 := allX_ok e x hxm
             obtain ⟨s1, h1, hr, hle, hk⟩ := plain _ e1
             have hnx := opsF_next _ _ _ _ _ hr
             refine wp_region ?_
             have hlen : ops.size = rest.length + 1 := by rw [← Array.length_toList, hops]; rfl
             rw [List.range_eq_range', hlen, List.range'_succ, wpOps_cons]
             unfold wpOp
             have ho0 : ops[0]? = some o := by rw [← Array.getElem?_toList, hops]; rfl
             simp only [ho0]
             have hw : Region.wanted o (yielded ops a.tmps) = true := by unfold Region.wanted; simp only [hg]
             rw [hw, if_pos rfl]
             refine .inl (hdid.gives.wp fun u w1 ⟨φ1, hv, r1, f1, x1⟩ => ?_)
             obtain ⟨T1, hd, hz⟩ := putD_ok hp (T.mono x1.le) hv
             have hnn : x.2.next ≤ N := Nat.le_trans hnx hle
             have hl1 : ∀ i, rest[i]? = (o :: rest)[0 + 1 + i]? := fun i => by rw [Nat.zero_add, Nat.add_comm, List.getElem?_cons_succ]
             have hfin := opsF_ok (Q := fun e' a' w' => ∃ r s' h', Arr r e' s' h' ∧ k r = true ∧ h'.next ≤ N ∧ Left G φ h w a s' h' a' w') ok ck (all := o :: rest) rest (0 + 1) hl1 _ _ _ _ hr φ1 _ _ T1 r1 ((hf.right x1).left hle) hz fun a' w' L => ⟨_, s1, h1, .inl ⟨rfl, rfl⟩, hk, hle, L.trans f1 x1 hd hz⟩
             have hta : (o :: rest).toArray = ops := by rw [← hops, Array.toArray_toList]
             rw [hta] at hfin
             exact hfin
     · exact simple e
theorem codeB_ok (ok : EnvOk E P G) (ck : CallOk P G call) (hm : P.follows .mixedOrders = true) : ∀ c : Code, PieceP P G N n c ((codeB E N n c).v call)
 | .skip => fun s h k e hN φ a w T r hf hn => wp_skip ⟨_, s, h, .inl ⟨rfl, rfl⟩, e, hN, Left.refl T r⟩
 | .region id ops draw => regB_ok ok ck hm
 | .seq x y => fun s h k e hN φ a w T r hf hn => by
   have e : (codeB E N n x).v call s h (fun r => match r with
    | .nx s h => (codeB E N n y).v call s h k
    | r => k r) = true := by
    have : (codeB E N n (.seq x y)) = (codeB E N n x).use fun a => (codeB E N n y).use fun b => (⟨fun call s h k => a call s h fun r => match r with
     | .nx s h => b call s h k
     | r => k r⟩ : Box (Call → Fr → H → (RX → Bool) → Bool)) := rfl
    rw [this] at e
    simpa only [Box.use_v] using e
   refine wp_seq (wp_mono (codeB_ok ok ck hm x s h _ e hN φ a w T r hf hn) ?_)
   rintro e1 a1 w1 ⟨r1, s1, h1, A, hk, hle, L⟩
   rcases A with ⟨rfl, rfl⟩ | ⟨i, rfl, rfl⟩ | ⟨rfl, rfl⟩
   · obtain ⟨φ1, T1, r1, f1, x1, hd, hz⟩ := L
     refine wp_mono (codeB_ok ok ck hm y s1 h1 k hk hle φ1 a1 w1 T1 r1 (hf.right x1) (hz.trans hn)) ?_
     rintro e2 a2 w2 ⟨r2, s2, h2, A2, hk2, hle2, L2⟩
     exact ⟨r2, s2, h2, A2, hk2, hle2, L2.trans f1 x1 hd hz⟩
   · exact ⟨_, s1, h1, .inr (.inl ⟨i, rfl, rfl⟩), hk, hle, L⟩
   · exact ⟨_, s1, h1, .inr (.inr ⟨rfl, rfl⟩), hk, hle, L⟩
 | .cond c x y => fun s h k e hN φ a w T r hf hn => by
   have hc : okOpn c = true ∧ (match (opn c).v s with
    | .bool true => (codeB E N n x).v call s h k
    | .bool false => (codeB E N n y).v call s h k
    | _ => false) = true := by
    have : (codeB E N n (.cond c x y)) = bif okOpn c then (opn c).use fun f => (codeB E N n x).use fun a => (codeB E N n y).use fun b => (⟨fun call s h k => match f s with
     | .bool true => a call s h k
     | .bool false => b call s h k
     | _ => false⟩ : Box (Call → Fr → H → (RX → Bool) → Bool)) else ⟨fun _ _ _ _ => false⟩ := rfl
    rw [this] at e
    cases hc : okOpn c with
    | false => rw [hc] at e; cases e
    | true =>
      rw [hc, cond_true] at e
      refine ⟨rfl, ?_⟩
      simpa only [Box.use_v] using e
   obtain ⟨hc, hA⟩ := hc
   split at hA
   · rename_i hv
     refine wp_cond_true ?_ (codeB_ok ok ck hm x s h k hA hN φ a w T r hf hn)
     have := opn_ok T hc
     rw [hv, conc] at this
     exact (Option.some.inj this).symm
   · rename_i hv
     refine wp_cond_false ?_ (codeB_ok ok ck hm y s h k hA hN φ a w T r hf hn)
     have := opn_ok T hc
     rw [hv, conc] at this
     exact (Option.some.inj this).symm
   · cases hA
 | .block id x => fun s h k e hN φ a w T r hf hn => by
   have e : (codeB E N n x).v call s h (fun r => match r with
    | .ex j s h => bif Nat.beq j id then k (.nx s h) else k (.ex j s h)
    | r => k r) = true := by
    have : (codeB E N n (.block id x)) = (codeB E N n x).use fun b => (⟨fun call s h k => b call s h fun r => match r with
     | .ex j s h => bif Nat.beq j id then k (.nx s h) else k (.ex j s h)
     | r => k r⟩ : Box (Call → Fr → H → (RX → Bool) → Bool)) := rfl
    rw [this] at e
    simpa only [Box.use_v] using e
   refine wp_block (wp_mono (codeB_ok ok ck hm x s h _ e hN φ a w T r hf hn) ?_)
   rintro e1 a1 w1 ⟨r1, s1, h1, A, hk, hle, L⟩
   rcases A with ⟨rfl, rfl⟩ | ⟨i, rfl, rfl⟩ | ⟨rfl, rfl⟩
   · exact ⟨_, s1, h1, .inl ⟨rfl, rfl⟩, hk, hle, L⟩
   · have hk : (bif Nat.beq i id then k (.nx s1 h1) else k (.ex i s1 h1)) = true := hk
     rw [nbeq] at hk
     show if i = id then _ else _
     by_cases hi : i = id
     · rw [decide_eq_true hi, cond_true] at hk
       rw [if_pos hi]
       exact ⟨_, s1, h1, .inl ⟨rfl, rfl⟩, hk, hle, L⟩
     · rw [decide_eq_false hi, cond_false] at hk
       rw [if_neg hi]
       exact ⟨_, s1, h1, .inr (.inl ⟨i, rfl, rfl⟩), hk, hle, L⟩
   · exact ⟨_, s1, h1, .inr (.inr ⟨rfl, rfl⟩), hk, hle, L⟩
 | .loop x => fun s h k e hN φ a w T r hf hn => by
   have e : loopP false ((codeB E N n x).v call) k 1000000 s h = true := by
    have : (codeB E N n (.loop x)) = (codeB E N n x).use fun b => (⟨fun call s h k => loopP false (b call) k 1000000 s h⟩ : Box (Call → Fr → H → (RX → Bool) → Bool)) := rfl
    rw [this] at e
    simpa only [Box.use_v] using e
   have hx := codeB_ok ok ck hm x
   have key : ∀ (m : Nat) (s : Fr) (h : H), loopP false ((codeB E N n x).v call) k m s h = true → h.next ≤ N → ∀ (φ : Mp) (a : Act) (w : World), TRel G φ s a.tmps → HRel G φ h w → Free φ h.next N → a.tmps.size = n →
    Code.rounds P x (fun e' a' w' => ∃ r s' h', Arr r e' s' h' ∧ k r = true ∧ h'.next ≤ N ∧ Left G φ h w a s' h' a' w') m a w := by
    intro m
    induction m with
    | zero => intro s h e; cases e
    | succ m ih =>
      intro s h e hN φ a w T r hf hn
      have e : (codeB E N n x).v call s h (fun r => match r with | .nx s h => loopP false ((codeB E N n x).v call) k m s h | r => k r) = true := e
      rw [rounds_succ]
      refine wp_mono (hx s h _ e hN φ a w T r hf hn) ?_
      rintro e1 a1 w1 ⟨r1, s1, h1, A, hk, hle, L⟩
      rcases A with ⟨rfl, rfl⟩ | ⟨i, rfl, rfl⟩ | ⟨rfl, rfl⟩
      · obtain ⟨φ1, T1, r1, f1, x1, hd, hz⟩ := L
        refine rounds_monoX m a1 w1 ?_ (ih s1 h1 hk hle φ1 a1 w1 T1 r1 (hf.right x1) (hz.trans hn))
        rintro e2 a2 w2 ⟨r2, s2, h2, A2, hk2, hle2, L2⟩
        exact ⟨r2, s2, h2, A2, hk2, hle2, L2.trans f1 x1 hd hz⟩
      · exact ⟨_, s1, h1, .inr (.inl ⟨i, rfl, rfl⟩), hk, hle, L⟩
      · exact ⟨_, s1, h1, .inr (.inr ⟨rfl, rfl⟩), hk, hle, L⟩
   exact wp_loop_rounds 1000000 (key _ s h e hN φ a w T r hf hn)
 | .exit id => fun s h k e hN φ a w T r hf hn => wp_exit ⟨_, s, h, .inr (.inl ⟨id, rfl, rfl⟩), e, hN, Left.refl T r⟩
 | .label l => fun s h k e hN φ a w T r hf hn => wp_label ⟨_, s, h, .inl ⟨rfl, rfl⟩, e, hN, Left.refl T r⟩
 | .ret => fun s h k e hN φ a w T r hf hn => wp_ret ⟨_, s, h, .inr (.inr ⟨rfl, rfl⟩), e, hN, Left.refl T r⟩
 | .rangeFunc .. => fun s h k e => by cases e
 | .scope .. => fun s h k e => by cases e
 | .goto _ => fun s h k e => by cases e
 | .refuse _ => fun s h k e => by cases e
end
end Go.Proofs.YtmfmjhklajmhoaaGreat.Gv
namespace Go.Proofs.YtmfmjhklajmhoaaGreat.Gv
open Go
section
variable {E : Env} {P : Program} {G : Gh} {φ φ' : Mp} {h h' h1 h2 : H} {w w' : World} {v : V} {ρ : List (Nat × Nat)} {base N : Nat}
theorem rn_cons (p : Nat × Nat) (b : Nat) : rn (p :: ρ) b = bif Nat.beq p.1 b then p.2 else rn ρ b := rfl
theorem rn_other {b : Nat} : ∀ {ρ : List (Nat × Nat)}, (∀ p ∈ ρ, p.1 ≠ b) → rn ρ b = b
 | [], _ => rfl
 | p :: ρ, h => by
   rw [rn_cons, nbeq, decide_eq_false (h p (by simp)), cond_false]
   exact rn_other fun q hq => h q (List.mem_cons_of_mem _ hq)
theorem renV_conc (hφ : ∀ b, φ' b = φ (rn ρ b)) : ∀ (n : Nat) (v : V), noEmp n (renV ρ n v) = true → conc G φ' v = conc G φ (renV ρ n v)
 | 0, v, e => by cases e
 | n + 1, v, e => by
   have list : ∀ l : List V, allVs (noEmp n) (mapVs (renV ρ n) l) = true → concL G φ' l = concL G φ (mapVs (renV ρ n) l) := by
    intro l
    induction l with
    | nil => intro _; show concL G φ' [] = concL G φ []; rw [concL_nil, concL_nil]
    | cons x l ih =>
      intro e
      have e : (bif noEmp n (renV ρ n x) then allVs (noEmp n) (mapVs (renV ρ n) l) else false) = true := e
      cases hx : noEmp n (renV ρ n x) with
      | false => rw [hx] at e; cases e
      | true =>
        rw [hx, cond_true] at e
        show concL G φ' (x :: l) = concL G φ (renV ρ n x :: mapVs (renV ρ n) l)
        rw [concL, concL, renV_conc hφ n x hx, ih e]
   cases v with
   | ptr b o => show conc G φ' (.ptr b o) = conc G φ (.ptr (rn ρ b) o); rw [conc, conc, hφ]
   | slice b o m c x => show conc G φ' (.slice b o m c x) = conc G φ (.slice (rn ρ b) o m c x); rw [conc, conc, hφ]
   | map b => show conc G φ' (.map b) = conc G φ (.map (rn ρ b)); rw [conc, conc, hφ]
   | agg l =>
     have e : allVs (noEmp n) (mapVs (renV ρ n) l) = true := e
     show conc G φ' (.agg l) = conc G φ (.agg (mapVs (renV ρ n) l))
     rw [conc, conc, list l e]
   | tuple l =>
     have e : allVs (noEmp n) (mapVs (renV ρ n) l) = true := e
     show conc G φ' (.tuple l) = conc G φ (.tuple (mapVs (renV ρ n) l))
     rw [conc, conc, list l e]
   | func _ _ _ => cases e
   | iface _ _ => cases e
   | yld _ => cases e
   | emp _ => cases e
   | undef => show conc G φ' .undef = conc G φ .undef; rw [conc, conc]
   | bool b => show conc G φ' (.bool b) = conc G φ (.bool b); rw [conc, conc]
   | int k i => show conc G φ' (.int k i) = conc G φ (.int k i); rw [conc, conc]
   | sint k c ts => show conc G φ' (.sint k c ts) = conc G φ (.sint k c ts); rw [conc, conc]
   | str m x => show conc G φ' (.str m x) = conc G φ (.str m x); rw [conc, conc]
   | nilptr => show conc G φ' .nilptr = conc G φ .nilptr; rw [conc, conc]
   | nilslice => show conc G φ' .nilslice = conc G φ .nilslice; rw [conc, conc]
   | nilmap => show conc G φ' .nilmap = conc G φ .nilmap; rw [conc, conc]
   | nilfunc => show conc G φ' .nilfunc = conc G φ .nilfunc; rw [conc, conc]
   | nilif => show conc G φ' .nilif = conc G φ .nilif; rw [conc, conc]
   | opq i => show conc G φ' (.opq i) = conc G φ (.opq i); rw [conc, conc]
theorem sameR_ok (hφ : ∀ b, φ' b = φ (rn ρ b)) {v1 v2 : V} (e : sameR ρ v1 v2 = true) : conc G φ' v1 = conc G φ v2 := by
 unfold sameR at e
 cases hx : noEmp 4 (renV ρ 4 v1) with
 | false => rw [hx] at e; cases e
 | true =>
   rw [hx, cond_true] at e
   rw [renV_conc hφ 4 v1 hx, sameD_eq _ _ _ e]
theorem sameRs_ok {cs cs' : T V} : ∀ {n : Nat}, sameRs ρ cs cs' n = true → ∀ i v, i < n → cs.get i = some v → ∃ v', cs'.get i = some v' ∧ sameR ρ v v' = true
 | 0, _, i, v, hi, _ => absurd hi (Nat.not_lt_zero _)
 | n + 1, e, i, v, hi, hv => by
   have e : (match cs.get n with
    | some v => (match cs'.get n with | some v' => bif sameR ρ v v' then sameRs ρ cs cs' n else false | none => false)
    | none => sameRs ρ cs cs' n) = true := e
   by_cases hin : i = n
   · subst hin
     rw [hv] at e
     dsimp only at e
     split at e
     · rename_i v' hv'
       cases hs : sameR ρ v v' with
       | false => rw [hs] at e; cases e
       | true => exact ⟨v', hv', hs⟩
     · cases e
   · have hlt : i < n := by omega
     cases h1 : cs.get n with
     | none => rw [h1] at e; exact sameRs_ok e i v hlt hv
     | some v1 =>
       rw [h1] at e
       dsimp only at e
       cases h2 : cs'.get n with
       | none => rw [h2] at e; cases e
       | some v' =>
         rw [h2] at e
         dsimp only at e
         cases hs : sameR ρ v1 v' with
         | false => rw [hs] at e; cases e
         | true => rw [hs] at e; exact sameRs_ok e i v hlt hv
theorem sameRb_ok (hφ : ∀ b, φ' b = φ (rn ρ b)) {x y : B} {l : Loc} (e : sameRb ρ x y = true) (hy : BRel G φ y l w) : BRel G φ' x l w := by
 cases x with
 | cells cs n sz ex =>
   cases y with
   | cells cs' n' sz' ex' =>
     have e : (Nat.beq n n' && (Nat.beq sz sz' && (sameBool ex ex' && sameRs ρ cs cs' n))) = true := e
     simp only [Bool.and_eq_true, nbeq, decide_eq_true_eq] at e
     obtain ⟨rfl, rfl, he, hc⟩ := e
     obtain rfl := sameBool_eq' he
     obtain ⟨C, t, g1, g2, g3, g5⟩ := hy
     refine ⟨C, t, g1, g2, g3, fun i v hi hv => ?_⟩
     obtain ⟨v', hv', hs⟩ := sameRs_ok hc i v hi hv
     obtain ⟨u, hu, hcu⟩ := g5 i v' hi hv'
     exact ⟨u, (sameR_ok hφ hs).trans hu, hcu⟩
   | _ => cases e
 | _ => cases y <;> cases e
structure PairOk (base N : Nat) (h1 h2 : H) (ρ : List (Nat × Nat)) (p : Nat × Nat) : Prop where
 b1 : base ≤ p.1
 n1 : p.1 < N
 b2 : base ≤ p.2
 blk : ∃ x y, h1.t.get p.1 = some x ∧ h2.t.get p.2 = some y ∧ sameRb ρ x y = true
theorem okR_ok : ∀ {l : List (Nat × Nat)}, okR base N h1 h2 ρ l = true → (∀ p ∈ l, PairOk base N h1 h2 ρ p) ∧ (l.map (·.1)).Nodup ∧ (l.map (·.2)).Nodup
 | [], _ => ⟨fun p hp => (by cases hp), by simp, by simp⟩
 | p :: l, e => by
   have e : (bif Nat.ble base p.1 && (Nat.blt p.1 N && (Nat.ble base p.2 && (allX (fun (q : Nat × Nat) => not (Nat.beq q.1 p.1) && not (Nat.beq q.2 p.2)) l &&
    (match h1.t.get p.1 with | some x => (match h2.t.get p.2 with | some y => sameRb ρ x y | none => false) | none => false)))) then okR base N h1 h2 ρ l else false) = true := e
   obtain ⟨hc, e⟩ : (Nat.ble base p.1 && (Nat.blt p.1 N && (Nat.ble base p.2 && (allX (fun (q : Nat × Nat) => not (Nat.beq q.1 p.1) && not (Nat.beq q.2 p.2)) l &&
    (match h1.t.get p.1 with | some x => (match h2.t.get p.2 with | some y => sameRb ρ x y | none => false) | none => false))))) = true ∧ okR base N h1 h2 ρ l = true := by
    generalize (Nat.ble base p.1 && (Nat.blt p.1 N && (Nat.ble base p.2 && (allX (fun (q : Nat × Nat) => not (Nat.beq q.1 p.1) && not (Nat.beq q.2 p.2)) l &&
     (match h1.t.get p.1 with | some x => (match h2.t.get p.2 with | some y => sameRb ρ x y | none => false) | none => false))))) = c at e
    cases c with
    | false => cases e
    | true => exact ⟨rfl, e⟩
   obtain ⟨i1, i2, i3⟩ := okR_ok e
   simp only [Bool.and_eq_true, nble, nblt, decide_eq_true_eq] at hc
   obtain ⟨c1, c2, c3, c4, c5⟩ := hc
   have hd := allX_ok c4
   refine ⟨fun q hq => ?_, ?_, ?_⟩
   · rcases List.mem_cons.1 hq with rfl | hq
     · refine ⟨c1, c2, c3, ?_⟩
       split at c5
       · rename_i x hx
         split at c5
         · rename_i y hy
           exact ⟨x, y, hx, hy, c5⟩
         · cases c5
       · cases c5
     · exact i1 q hq
   · rw [List.map_cons, List.nodup_cons]
     refine ⟨fun hm => ?_, i2⟩
     obtain ⟨q, hq, he⟩ := List.mem_map.1 hm
     have := hd q hq
     simp only [Bool.and_eq_true, Bool.not_eq_true', nbeq, decide_eq_false_iff_not] at this
     exact this.1 he
   · rw [List.map_cons, List.nodup_cons]
     refine ⟨fun hm => ?_, i3⟩
     obtain ⟨q, hq, he⟩ := List.mem_map.1 hm
     have := hd q hq
     simp only [Bool.and_eq_true, Bool.not_eq_true', nbeq, decide_eq_false_iff_not] at this
     exact this.2 he
theorem rn_mem : ∀ {ρ : List (Nat × Nat)}, (ρ.map (·.1)).Nodup → ∀ p ∈ ρ, rn ρ p.1 = p.2
 | [], _, p, hp => by cases hp
 | q :: ρ, hn, p, hp => by
   rw [List.map_cons, List.nodup_cons] at hn
   rw [rn_cons, nbeq]
   rcases List.mem_cons.1 hp with rfl | hp
   · rw [decide_eq_true rfl, cond_true]
   · have : q.1 ≠ p.1 := fun e => hn.1 (by rw [e]; exact List.mem_map.2 ⟨p, hp, rfl⟩)
     rw [decide_eq_false this, cond_false]
     exact rn_mem hn.2 p hp
theorem addB_get {ks : List (Nat × Nat)} {t : T B} (hk : ∀ p ∈ ks, ∃ x, h1.t.get p.1 = some x) : ∀ {b : Nat} {x : B}, (addB h1 ks t).get b = some x → (b ∈ ks.map (·.1) ∧ h1.t.get b = some x) ∨ (b ∉ ks.map (·.1) ∧ t.get b = some x) := by
 induction ks with
 | nil => intro b x e; exact .inr ⟨by simp, e⟩
 | cons p ks ih =>
   intro b x e
   obtain ⟨y, hy⟩ := hk p (by simp)
   have e : (match h1.t.get p.1 with | some x => (addB h1 ks t).set p.1 x | none => addB h1 ks t).get b = some x := e
   rw [hy] at e
   dsimp only at e
   rcases Gv.T.get_set e with ⟨rfl, rfl⟩ | ⟨hne, e⟩
   · exact .inl ⟨by simp, hy⟩
   · rcases ih (fun q hq => hk q (List.mem_cons_of_mem _ hq)) e with ⟨h1, h2⟩ | ⟨h1, h2⟩
     · exact .inl ⟨by simp [h1], h2⟩
     · refine .inr ⟨?_, h2⟩
       rw [List.map_cons, List.mem_cons, not_or]
       exact ⟨hne, h1⟩
theorem iso_post {bs : List Nat} {ks : List (Nat × Nat)} {v1 v2 : V} {u : Value} {φ2 : Mp} (r : HRel G φ h w) (hf : Free φ h.next N) (hN : h.next ≤ N) (hc : conc G φ2 v2 = some u) (r2 : HRel G φ2 h2 w') (f : Frame G φ (subH h bs) w w') (x : Ext φ φ2 (subH h bs) h2 w)
 (hle : h2.next ≤ N) (hso : sameOld (subH h bs) h2 bs = true) (hv : sameR ρ v1 v2 = true) (hρ : okR h.next N h1 h2 ρ ρ = true) (hks : ks.map (·.1) = ρ.map (·.1)) (hk1 : ∀ p ∈ ks, ∃ x, h1.t.get p.1 = some x) :
 Post G φ h w v1 { t := addB h1 ks h.t, next := N } u w' := by
 obtain ⟨hp, hn1, hn2⟩ := okR_ok hρ
 have key : ∀ b, b ∈ ρ.map (·.1) → ∃ c, (b, c) ∈ ρ ∧ rn ρ b = c ∧ PairOk h.next N h1 h2 ρ (b, c) := fun b hb => by
  obtain ⟨p, hp1, rfl⟩ := List.mem_map.1 hb
  exact ⟨p.2, hp1, rn_mem hn1 p hp1, hp p hp1⟩
 have rlow : ∀ b, b < h.next → rn ρ b = b := fun b hb => rn_other fun p hpp e => by have := (hp p hpp).b1; omega
 have rhigh : ∀ b, N ≤ b → rn ρ b = b := fun b hb => rn_other fun p hpp e => by have := (hp p hpp).n1; omega
 have rout : ∀ b, b ∉ ρ.map (·.1) → rn ρ b = b := fun b hb => rn_other fun p hpp e => hb (by rw [← e]; exact List.mem_map.2 ⟨p, hpp, rfl⟩)
 let φ' : Mp := fun b => φ2 (rn ρ b)
 have hφ : ∀ b, φ' b = φ2 (rn ρ b) := fun b => rfl
 have hle1 : φ.le φ' := fun b l e => by
  show φ2 (rn ρ b) = some l
  by_cases hb : b < h.next
  · rw [rlow b hb]; exact x.le b l e
  · by_cases hb2 : b < N
    · rw [hf b (by omega) hb2] at e; cases e
    · rw [rhigh b (by omega)]; exact x.le b l e
 have rOld : HRel G φ h w' := r.again r2 (f.wild (Nat.le_refl _)) x.le hso fun k hk => r.foot_lt hk
 have hnew : ∀ b c l, (b, c) ∈ ρ → φ2 c = some l → w.heap.size ≤ l.blk := fun b c l hbc hl => by
  rcases Nat.lt_or_ge l.blk w.heap.size with hlt | hge
  · exfalso
    have P := hp _ hbc
    obtain ⟨y1, y, _, hy, _⟩ := P.blk
    obtain ⟨b0, x0, l0, g1, g2, g3⟩ := x.foot l.blk ⟨c, y, l, hy, hl, rfl⟩ hlt
    obtain ⟨m1, m2⟩ := sub_get g1
    obtain ⟨y0, hy0, hs0⟩ := sameOld_ok hso b0 m1 x0 g1
    have hb0 : b0 < h.next := by
     rcases Nat.lt_or_ge b0 h.next with h | h
     · exact h
     · rw [r.fresh b0 h] at m2; cases m2
    rcases r2.inj b0 c y0 y l0 l hy0 hy (x.le _ _ g2) hl g3 with e | ⟨e, _⟩
    · have := P.b2; omega
    · cases x0 <;> cases y0 <;> first | (cases hs0; done) | (cases e; done) | (have := sub_ro g1; cases this)
  · exact hge
 have hget : ∀ {b : Nat} {y : B}, (addB h1 ks h.t).get b = some y → (∃ c z, (b, c) ∈ ρ ∧ rn ρ b = c ∧ h2.t.get c = some z ∧ sameRb ρ y z = true ∧ PairOk h.next N h1 h2 ρ (b, c)) ∨ (b < h.next ∧ h.t.get b = some y) := by
  intro b y e
  rcases addB_get hk1 e with ⟨g1, g2⟩ | ⟨g1, g2⟩
  · rw [hks] at g1
    obtain ⟨c, k1, k2, k3⟩ := key b g1
    obtain ⟨y1, z, q1, q2, q3⟩ := k3.blk
    dsimp only at q1 q2
    rw [g2] at q1
    cases q1
    exact .inl ⟨c, z, k1, k2, q2, q3, k3⟩
  · refine .inr ⟨?_, g2⟩
    rcases Nat.lt_or_ge b h.next with h | h
    · exact h
    · rw [r.fresh b h] at g2; cases g2
 have hold : ∀ b l, b < h.next → φ' b = some l → φ b = some l := fun b l hb e => by
  have e : φ2 (rn ρ b) = some l := e
  rw [rlow b hb] at e
  cases hx : φ b with
  | none => rw [x.new b hx (.inl hb)] at e; cases e
  | some l' => rw [x.le b l' hx] at e; exact e
 refine ⟨φ', (sameR_ok hφ hv).trans hc, ⟨fun b y l hb hl => ?_, fun b b' y y' l l' hb hb' hl hl' he => ?_, fun b hb => ?_⟩, f.sub, ⟨hle1, fun b e hb => ?_, hN, fun k hk hlt => ?_⟩⟩
 · rcases hget hb with ⟨c, z, k1, k2, k3, k4, _⟩ | ⟨k1, k2⟩
   · have hl : φ2 (rn ρ b) = some l := hl
     rw [k2] at hl
     exact sameRb_ok hφ k4 (r2.blk c z l k3 hl)
   · exact (rOld.blk b y l k2 (hold b l k1 hl)).mono hle1 rfl
 · rcases hget hb with ⟨c, z, k1, k2, k3, k4, _⟩ | ⟨k1, k2⟩
   · have hl1 : φ2 (rn ρ b) = some l := hl
     rw [k2] at hl1
     rcases hget hb' with ⟨c', z', k1', k2', k3', k4', _⟩ | ⟨k1', k2'⟩
     · have hl1' : φ2 (rn ρ b') = some l' := hl'
       rw [k2'] at hl1'
       rcases r2.inj c c' z z' l l' k3 k3' hl1 hl1' he with e | ⟨e, _⟩
       · subst e
         refine .inl ?_
         have inj2 : ∀ {ρ : List (Nat × Nat)}, (ρ.map (·.2)).Nodup → ∀ {b b' c : Nat}, (b, c) ∈ ρ → (b', c) ∈ ρ → b = b' := by
          intro ρ
          induction ρ with
          | nil => intro _ b b' c h; cases h
          | cons p ρ ih =>
            intro hn b b' c h h'
            rw [List.map_cons, List.nodup_cons] at hn
            rcases List.mem_cons.1 h with e1 | h3
            · rcases List.mem_cons.1 h' with e2 | h4
              · rw [← e2] at e1; cases e1; rfl
              · exact (hn.1 (List.mem_map.2 ⟨(b', c), h4, by rw [← e1]⟩)).elim
            · rcases List.mem_cons.1 h' with e2 | h4
              · exact (hn.1 (List.mem_map.2 ⟨(b, c), h3, by rw [← e2]⟩)).elim
              · exact ih hn.2 h3 h4
         exact inj2 hn2 k1 k1'
       · cases y <;> cases z <;> first | (cases k4; done) | (cases e; done)
     · have hw := hnew b c l k1 hl1
       have := r.foot_lt ⟨b', y', l', k2', hold b' l' k1' hl', rfl⟩
       omega
   · rcases hget hb' with ⟨c', z', k1', k2', k3', k4', _⟩ | ⟨k1', k2'⟩
     · have hl1' : φ2 (rn ρ b') = some l' := hl'
       rw [k2'] at hl1'
       have hw := hnew b' c' l' k1' hl1'
       have := r.foot_lt ⟨b, y, l, k2, hold b l k1 hl, rfl⟩
       omega
     · exact r.inj b b' y y' l l' k2 k2' (hold b l k1 hl) (hold b' l' k1' hl') he
 · have hb : N ≤ b := hb
   cases hx : (addB h1 ks h.t).get b with
   | none => rfl
   | some y =>
     rcases hget hx with ⟨c, z, _, _, _, _, P⟩ | ⟨k1, _⟩
     · have : b < N := P.n1
       omega
     · omega
 · show φ2 (rn ρ b) = none
   have hb : b < h.next ∨ N ≤ b := hb
   rcases hb with hb | hb
   · rw [rlow b hb]; exact x.new b e (.inl hb)
   · rw [rhigh b hb]; exact x.new b e (.inr (by omega))
 · obtain ⟨b, y, l, g1, g2, g3⟩ := hk
   rcases hget g1 with ⟨c, z, k1, k2, _, _, _⟩ | ⟨k1, k2⟩
   · have g2 : φ2 (rn ρ b) = some l := g2
     rw [k2] at g2
     have := hnew b c l k1 g2
     omega
   · exact ⟨b, y, l, k2, hold b l k1 g2, g3⟩
theorem permG_ok (ok : EnvOk E P G) (hP : ProgOk P) {f : Nat} {fn : Func} (hfn : P.funcs[f]? = some fn) {c : Code} (hb : fn.body = some c) : HookOk P G f (permG E fn) := by
 intro call ck l h v h' e φ w ul hul r hf
 unfold permG at e
 rw [hb] at e
 dsimp only at e
 cases hlen : (Nat.ble l.length fn.ntmps && Nat.ble l.length 4096) with
 | false => rw [hlen] at e; cases e
 | true =>
   rw [hlen, cond_true] at e
   rw [Bool.and_eq_true, nble, nble, decide_eq_true_eq, decide_eq_true_eq] at hlen
   generalize hbs : reachF h 5000 l [] = bs at e
   split at e
   · cases e
   · rename_i v1 h1 _
     generalize hks : pairF (subH h bs).next h1 h1 5000 [(v1, v1)] [] = ks at e
     cases hall : (codeP (A := Bool) false (fun {_} => allX) E (h.next + 1000) fn.ntmps c).v call (Fr.ofL l 0 Fr.new) (subH h bs) (endP false E fn (likeP (subH h bs) bs (h.next + 1000) v1 h1 (ks.map (·.1)))) with
     | false => rw [hall] at e; cases e
     | true =>
       rw [hall, cond_true] at e
       obtain ⟨hv1, hh1⟩ := RV.ok.inj e
       subst hv1
       subst hh1
       rw [run_enter hfn (prog_name hP hfn) hb]
       show Calls P f ul.toArray w _
       have hulen := concL_length hul
       refine calls_of_wp hfn hb ?_
       have T0 := start_ok (n := fn.ntmps) hul hlen.2
       have hsz : (ul.toArray ++ Array.replicate (fn.ntmps - ul.toArray.size) undef).size = fn.ntmps := by simp; omega
       refine wp_mono (codeB_ok ok ck hP.md c _ _ _ hall (Nat.le_add_right _ _) φ _ w T0 (r.subB bs) hf hsz) ?_
       rintro e1 a1 w1 ⟨r1, s2, h2, A, hk, hle, φ2, T2, r2, f2, x2, hd, hz⟩
       have fin : ∀ v2 h3, (resF E fn.results.toList).v s2 h2 = .ok v2 h3 → likeP (subH h bs) bs (h.next + 1000) v1 h1 (ks.map (·.1)) v2 h3 = true →
        ∃ u, (results fn a1.tmps).run P w1 = .ok u w1 ∧ Post G φ h w v1 { t := addB h1 ks h.t, next := h.next + 1000 } u w1 := by
        intro v2 h3 hres hlike
        obtain ⟨rfl, u, hu, hc⟩ := res_ok ok T2 r2 hres
        refine ⟨u, hu, ?_⟩
        unfold likeP at hlike
        dsimp only at hlike
        generalize pairF (subH h bs).next h1 h3 5000 [(v1, v2)] [] = ρ at hlike
        cases hc1 : (Nat.ble h3.next (h.next + 1000) && (sameOld (subH h bs) h3 bs && (sameR ρ v1 v2 && (okR (subH h bs).next (h.next + 1000) h1 h3 ρ ρ && sameNs (ρ.map (·.1)) (ks.map (·.1)))))) with
        | false => rw [hc1] at hlike; cases hlike
        | true =>
          simp only [Bool.and_eq_true] at hc1
          obtain ⟨c1, c2, c3, c4, c5⟩ := hc1
          have hks2 := (sameNs_eq c5).symm
          refine iso_post r hf (Nat.le_add_right _ _) hc r2 f2 x2 hle c2 c3 c4 hks2 fun p hp => ?_
          have : p.1 ∈ ρ.map (·.1) := by rw [← hks2]; exact List.mem_map.2 ⟨p, hp, rfl⟩
          obtain ⟨q, hq, he⟩ := List.mem_map.1 this
          obtain ⟨y, _, hy, _⟩ := ((okR_ok c4).1 q hq).blk
          exact ⟨y, by rw [← he]; exact hy⟩
       have fin2 : ∀ r, endP false E fn (likeP (subH h bs) bs (h.next + 1000) v1 h1 (ks.map (·.1))) r = true → (r = .nx s2 h2 ∨ r = .rt s2 h2) → ∃ u, (results fn a1.tmps).run P w1 = .ok u w1 ∧ Post G φ h w v1 { t := addB h1 ks h.t, next := h.next + 1000 } u w1 := by
        intro r hk hr
        have hk2 : (match (resF E fn.results.toList).v s2 h2 with | .ok v h' => likeP (subH h bs) bs (h.next + 1000) v1 h1 (ks.map (·.1)) v h' | .bad _ _ => false) = true := by
         rcases hr with rfl | rfl <;> exact hk
        cases hres : (resF E fn.results.toList).v s2 h2 with
        | bad m i => rw [hres] at hk2; cases hk2
        | ok v2 h3 =>
          rw [hres] at hk2
          exact fin v2 h3 hres hk2
       rcases A with ⟨rfl, rfl⟩ | ⟨i, rfl, rfl⟩ | ⟨rfl, rfl⟩
       · obtain ⟨u, hu, p⟩ := fin2 _ hk (.inl rfl)
         exact ⟨hd, u, hu, u, rfl, p⟩
       · cases hk
       · obtain ⟨u, hu, p⟩ := fin2 _ hk (.inr rfl)
         exact ⟨hd, u, hu, u, rfl, p⟩
end
end Go.Proofs.YtmfmjhklajmhoaaGreat.Gv
