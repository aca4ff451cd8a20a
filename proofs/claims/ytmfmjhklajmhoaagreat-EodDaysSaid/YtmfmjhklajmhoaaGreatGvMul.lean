/- Code's run, and calls. -/
import Derived.Test.YtmfmjhklajmhoaaGreatGvDraw
import Derived.LoopN
import Derived.KernelRfl
import Derived.Carry
import Derived.OpenShut
import Derived.ProofKit
import Derived.ChangeSame
import Derived.Laws.Externs
namespace Go.Proofs.YtmfmjhklajmhoaaGreat.Gv
open Go
def Arr (x : RX) (e : Exit) (s' : Fr) (h' : H) : Prop :=
 (x = .nx s' h' ∧ e = .normal) ∨ (∃ i, x = .ex i s' h' ∧ e = .exit i) ∨ (x = .rt s' h' ∧ e = .ret)
section
variable {E : Env} {P : Program} {G : Gh} {φ : Mp} {h h' : H} {w : World} {s : Fr} {a : Act} {v : V} {o : Oper}
theorem Arr.nx {s1 : Fr} {h1 : H} {e : Exit} {s' : Fr} (x : Arr (.nx s1 h1) e s' h') : s1 = s' ∧ h1 = h' ∧ e = .normal := by
 rcases x with ⟨x, rfl⟩ | ⟨i, x, rfl⟩ | ⟨x, rfl⟩ <;> cases x
 exact ⟨rfl, rfl, rfl⟩
theorem Arr.ex {i : Nat} {s1 : Fr} {h1 : H} {e : Exit} {s' : Fr} (x : Arr (.ex i s1 h1) e s' h') : s1 = s' ∧ h1 = h' ∧ e = .exit i := by
 rcases x with ⟨x, rfl⟩ | ⟨j, x, rfl⟩ | ⟨x, rfl⟩ <;> cases x
 exact ⟨rfl, rfl, rfl⟩
theorem Arr.rt {s1 : Fr} {h1 : H} {e : Exit} {s' : Fr} (x : Arr (.rt s1 h1) e s' h') : s1 = s' ∧ h1 = h' ∧ e = .ret := by
 rcases x with ⟨x, rfl⟩ | ⟨j, x, rfl⟩ | ⟨x, rfl⟩ <;> cases x
 exact ⟨rfl, rfl, rfl⟩
theorem Arr.bad {m : String} {i : Nat} {e : Exit} {s' : Fr} (x : Arr (.bad m i) e s' h') : False := by
 rcases x with ⟨x, rfl⟩ | ⟨j, x, rfl⟩ | ⟨x, rfl⟩ <;> cases x
def CodeOk (E : Env) (P : Program) (G : Gh) (call : Call) (n : Nat) (c : Code) : Prop :=
 ∀ (s : Fr) (h : H) (e : Exit) (s' : Fr) (h' : H), Arr ((codeF E n c).v call s h) e s' h' → h.next ≤ h'.next ∧
  ∀ (φ : Mp) (a : Act) (w : World), TRel G φ s a.tmps → HRel G φ h w → Free φ h.next h'.next → a.tmps.size = n →
   c.wp P (fun e' a' w' => e' = e ∧ Left G φ h w a s' h' a' w') a w
theorem loopR_succ (f : Call → Fr → H → RX) (call : Call) (k : Nat) (s : Fr) (h : H) : loopR f call (k + 1) s h = (match f call s h with
 | .nx s h => loopR f call k s h
 | r => r) := rfl
theorem seq_ok {call : Call} {n : Nat} {x y : Code} (hx : CodeOk E P G call n x) (hy : CodeOk E P G call n y) : CodeOk E P G call n (.seq x y) := by
 intro s h e s' h' A
 have hA : Arr (match (codeF E n x).v call s h with
  | .nx s h => (codeF E n y).v call s h
  | r => r) e s' h' := by
  have : (codeF E n (.seq x y)) = (codeF E n x).use fun a => ⟨fun call s h => match a call s h with
   | .nx s h => (codeF E n y).go fun b => b call s h
   | r => r⟩ := rfl
  rw [this] at A
  simpa only [Box.use_v, Box.go_v] using A
 clear A
 cases hr : (codeF E n x).v call s h with
 | nx s1 h1 =>
   rw [hr] at hA
   obtain ⟨n1, k1⟩ := hx s h .normal s1 h1 (.inl ⟨hr, rfl⟩)
   obtain ⟨n2, k2⟩ := hy s1 h1 e s' h' hA
   refine ⟨Nat.le_trans n1 n2, fun φ a w T r hf hn => wp_seq ?_⟩
   refine wp_mono (k1 φ a w T r (hf.left n2) hn) ?_
   rintro e1 a1 w1 ⟨rfl, φ1, T1, r1, f1, x1, hd, hz⟩
   refine wp_mono (k2 φ1 a1 w1 T1 r1 (hf.right x1) (hz.trans hn)) ?_
   rintro e2 a2 w2 ⟨rfl, L⟩
   exact ⟨rfl, L.trans f1 x1 hd hz⟩
 | ex i s1 h1 =>
   rw [hr] at hA
   obtain ⟨n1, k1⟩ := hx s h e s' h' (by rw [hr]; exact hA)
   refine ⟨n1, fun φ a w T r hf hn => wp_seq ?_⟩
   refine wp_mono (k1 φ a w T r hf hn) ?_
   rintro e1 a1 w1 ⟨rfl, L⟩
   obtain ⟨_, _, rfl⟩ := Arr.ex hA
   exact ⟨rfl, L⟩
 | rt s1 h1 =>
   rw [hr] at hA
   obtain ⟨n1, k1⟩ := hx s h e s' h' (by rw [hr]; exact hA)
   refine ⟨n1, fun φ a w T r hf hn => wp_seq ?_⟩
   refine wp_mono (k1 φ a w T r hf hn) ?_
   rintro e1 a1 w1 ⟨rfl, L⟩
   obtain ⟨_, _, rfl⟩ := Arr.rt hA
   exact ⟨rfl, L⟩
 | bad m i => rw [hr] at hA; exact (Arr.bad hA).elim
theorem cond_ok {call : Call} {n : Nat} {c : Operand} {x y : Code} (hx : CodeOk E P G call n x) (hy : CodeOk E P G call n y) : CodeOk E P G call n (.cond c x y) := by
 intro s h e s' h' A
 have hc : okOpn c = true ∧ Arr (match (opn c).v s with
  | .bool true => (codeF E n x).v call s h
  | .bool false => (codeF E n y).v call s h
  | _ => .bad "cond" 0) e s' h' := by
  have : (codeF E n (.cond c x y)) = bif okOpn c then (opn c).use fun f => ⟨fun call s h => match f s with
   | .bool true => (codeF E n x).go fun a => a call s h
   | .bool false => (codeF E n y).go fun b => b call s h
   | _ => .bad "cond" 0⟩ else ⟨fun _ _ _ => .bad "cond" 1⟩ := rfl
  rw [this] at A
  cases hc : okOpn c with
  | false => rw [hc] at A; exact (Arr.bad A).elim
  | true =>
    rw [hc, cond_true] at A
    refine ⟨rfl, ?_⟩
    simpa only [Box.use_v, Box.go_v] using A
 clear A
 obtain ⟨hc, hA⟩ := hc
 split at hA
 · rename_i hv
   obtain ⟨n1, k1⟩ := hx s h e s' h' hA
   refine ⟨n1, fun φ a w T r hf hn => wp_cond_true ?_ (k1 φ a w T r hf hn)⟩
   have := opn_ok T hc
   rw [hv, conc] at this
   exact (Option.some.inj this).symm
 · rename_i hv
   obtain ⟨n1, k1⟩ := hy s h e s' h' hA
   refine ⟨n1, fun φ a w T r hf hn => wp_cond_false ?_ (k1 φ a w T r hf hn)⟩
   have := opn_ok T hc
   rw [hv, conc] at this
   exact (Option.some.inj this).symm
 · exact (Arr.bad hA).elim
theorem block_ok {call : Call} {n id : Nat} {x : Code} (hx : CodeOk E P G call n x) : CodeOk E P G call n (.block id x) := by
 intro s h e s' h' A
 have hA : Arr (match (codeF E n x).v call s h with
  | .ex j s h => bif Nat.beq j id then .nx s h else .ex j s h
  | r => r) e s' h' := by
  have : (codeF E n (.block id x)) = (codeF E n x).use fun b => ⟨fun call s h => match b call s h with
   | .ex j s h => bif Nat.beq j id then .nx s h else .ex j s h
   | r => r⟩ := rfl
  rw [this] at A
  simpa only [Box.use_v] using A
 clear A
 cases hr : (codeF E n x).v call s h with
 | nx s1 h1 =>
   rw [hr] at hA
   obtain ⟨rfl, rfl, rfl⟩ := Arr.nx hA
   obtain ⟨n1, k1⟩ := hx s h .normal s1 h1 (.inl ⟨hr, rfl⟩)
   refine ⟨n1, fun φ a w T r hf hn => wp_block (wp_mono (k1 φ a w T r hf hn) ?_)⟩
   rintro e1 a1 w1 ⟨rfl, L⟩
   exact ⟨rfl, L⟩
 | ex i s1 h1 =>
   rw [hr] at hA
   obtain ⟨n1, k1⟩ := hx s h (.exit i) s1 h1 (.inr (.inl ⟨i, hr, rfl⟩))
   simp only [nbeq] at hA
   by_cases hi : i = id
   · rw [decide_eq_true hi, cond_true] at hA
     obtain ⟨rfl, rfl, rfl⟩ := Arr.nx hA
     refine ⟨n1, fun φ a w T r hf hn => wp_block (wp_mono (k1 φ a w T r hf hn) ?_)⟩
     rintro e1 a1 w1 ⟨rfl, L⟩
     show if i = id then _ else _
     rw [if_pos hi]
     exact ⟨rfl, L⟩
   · rw [decide_eq_false hi, cond_false] at hA
     obtain ⟨rfl, rfl, rfl⟩ := Arr.ex hA
     refine ⟨n1, fun φ a w T r hf hn => wp_block (wp_mono (k1 φ a w T r hf hn) ?_)⟩
     rintro e1 a1 w1 ⟨rfl, L⟩
     show if i = id then _ else _
     rw [if_neg hi]
     exact ⟨rfl, L⟩
 | rt s1 h1 =>
   rw [hr] at hA
   obtain ⟨rfl, rfl, rfl⟩ := Arr.rt hA
   obtain ⟨n1, k1⟩ := hx s h .ret s1 h1 (.inr (.inr ⟨hr, rfl⟩))
   refine ⟨n1, fun φ a w T r hf hn => wp_block (wp_mono (k1 φ a w T r hf hn) ?_)⟩
   rintro e1 a1 w1 ⟨rfl, L⟩
   exact ⟨rfl, L⟩
 | bad m i => rw [hr] at hA; exact (Arr.bad hA).elim
theorem rounds_ok {call : Call} {n : Nat} {x : Code} (hx : CodeOk E P G call n x) : ∀ (k : Nat) (s : Fr) (h : H) (e : Exit) (s' : Fr) (h' : H), Arr (loopR (codeF E n x).v call k s h) e s' h' → h.next ≤ h'.next ∧
 ∀ (φ : Mp) (a : Act) (w : World), TRel G φ s a.tmps → HRel G φ h w → Free φ h.next h'.next → a.tmps.size = n →
  Code.rounds P x (fun e' a' w' => e' = e ∧ Left G φ h w a s' h' a' w') k a w
 | 0, s, h, e, s', h', A => (Arr.bad A).elim
 | k + 1, s, h, e, s', h', A => by
   rw [loopR_succ] at A
   cases hr : (codeF E n x).v call s h with
   | nx s1 h1 =>
     rw [hr] at A
     obtain ⟨n1, k1⟩ := hx s h .normal s1 h1 (.inl ⟨hr, rfl⟩)
     obtain ⟨n2, k2⟩ := rounds_ok hx k s1 h1 e s' h' A
     refine ⟨Nat.le_trans n1 n2, fun φ a w T r hf hn => ?_⟩
     rw [rounds_succ]
     refine wp_mono (k1 φ a w T r (hf.left n2) hn) ?_
     rintro e1 a1 w1 ⟨rfl, φ1, T1, r1, f1, x1, hd, hz⟩
     have hk := k2 φ1 a1 w1 T1 r1 (hf.right x1) (hz.trans hn)
     have hmono : ∀ (k : Nat) (a w) {Q Q' : Exit → Act → World → Prop}, (∀ e a w, Q e a w → Q' e a w) → Code.rounds P x Q k a w → Code.rounds P x Q' k a w := by
      intro k
      induction k with
      | zero => intro a w Q Q' _ hh; exact hh.elim
      | succ k ih =>
        intro a w Q Q' hq hh
        rw [rounds_succ] at hh ⊢
        refine wp_mono hh ?_
        intro e a w he
        cases e <;> first | exact ih _ _ hq he | exact hq _ _ _ he
     refine hmono k a1 w1 ?_ hk
     rintro e2 a2 w2 ⟨rfl, L⟩
     exact ⟨rfl, L.trans f1 x1 hd hz⟩
   | ex i s1 h1 =>
     rw [hr] at A
     obtain ⟨rfl, rfl, rfl⟩ := Arr.ex A
     obtain ⟨n1, k1⟩ := hx s h (.exit i) s1 h1 (.inr (.inl ⟨i, hr, rfl⟩))
     refine ⟨n1, fun φ a w T r hf hn => ?_⟩
     rw [rounds_succ]
     refine wp_mono (k1 φ a w T r hf hn) ?_
     rintro e1 a1 w1 ⟨rfl, L⟩
     exact ⟨rfl, L⟩
   | rt s1 h1 =>
     rw [hr] at A
     obtain ⟨rfl, rfl, rfl⟩ := Arr.rt A
     obtain ⟨n1, k1⟩ := hx s h .ret s1 h1 (.inr (.inr ⟨hr, rfl⟩))
     refine ⟨n1, fun φ a w T r hf hn => ?_⟩
     rw [rounds_succ]
     refine wp_mono (k1 φ a w T r hf hn) ?_
     rintro e1 a1 w1 ⟨rfl, L⟩
     exact ⟨rfl, L⟩
   | bad m i => rw [hr] at A; exact (Arr.bad A).elim
theorem loop_ok {call : Call} {n : Nat} {x : Code} (hx : CodeOk E P G call n x) : CodeOk E P G call n (.loop x) := by
 intro s h e s' h' A
 have hA : Arr (loopR (codeF E n x).v call 1000000 s h) e s' h' := by
  have : (codeF E n (.loop x)) = (codeF E n x).use fun b => ⟨fun call => loopR b call 1000000⟩ := rfl
  rw [this] at A
  simpa only [Box.use_v] using A
 obtain ⟨n1, k1⟩ := rounds_ok hx 1000000 s h e s' h' hA
 exact ⟨n1, fun φ a w T r hf hn => wp_loop_rounds 1000000 (k1 φ a w T r hf hn)⟩
end
end Go.Proofs.YtmfmjhklajmhoaaGreat.Gv
namespace Go.Proofs.YtmfmjhklajmhoaaGreat.Gv
open Go
structure FnOk (E : Env) (P : Program) (G : Gh) : Prop where
 fn : ∀ (f : Nat) fn, E.fn.get f = some fn → P.funcs[f]? = some fn ∧ (fn.name == "runtime.NumGoroutine") = false
 hk : ∀ (f : Nat) g, E.hk f = some g → ∀ call, CallOk P G call → ∀ (l : List V) (h : H) (v : V) (h' : H), g call l h = .ok v h' → ∀ (φ : Mp) (w : World) (ul : List Value), concL G φ l = some ul → HRel G φ h w → Free φ h.next h'.next →
  Gives P (Post G φ h w v h') ((callFunc f ul.toArray).run P w)
 md : P.follows .mixedOrders = true
section
variable {E : Env} {P : Program} {G : Gh} {φ : Mp} {h h' : H} {w : World} {s : Fr} {a : Act} {v : V} {o : Oper}
theorem region_ok (ok : EnvOk E P G) {call : Call} (ck : CallOk P G call) (hm : P.follows .mixedOrders = true) {n id : Nat} {ops : Array Oper} {draw : Bool} : CodeOk E P G call n (.region id ops draw) := by
 intro s h e s' h' A
 cases draw with
 | false =>
   have hA : Arr (match (opsF E n ops.toList ops.toList).v call s h with
    | .ok s h => .nx s h
    | .bad w n => .bad w n) e s' h' := by
    have : (codeF E n (.region id ops false)) = (opsF E n ops.toList ops.toList).use fun f => ⟨fun call s h => match f call s h with
     | .ok s h => .nx s h
     | .bad w n => .bad w n⟩ := rfl
    rw [this] at A
    simpa only [Box.use_v] using A
   split at hA
   · rename_i s1 h1 hr
     obtain ⟨rfl, rfl, rfl⟩ := Arr.nx hA
     refine ⟨opsF_next _ _ _ _ _ hr, fun φ a w T r hf hn => ?_⟩
     subst hn
     exact regT_ok ok ck hr T r hf fun a' w' L => ⟨rfl, L⟩
   · exact (Arr.bad hA).elim
 | true =>
   have hA : Arr (match (drawF E n ops.toList).v call s h with
    | .ok s h => .nx s h
    | .bad w n => .bad w n) e s' h' := by
    have : (codeF E n (.region id ops true)) = (drawF E n ops.toList).use fun f => ⟨fun call s h => match f call s h with
     | .ok s h => .nx s h
     | .bad w n => .bad w n⟩ := rfl
    rw [this] at A
    simpa only [Box.use_v] using A
   split at hA
   · rename_i s1 h1 hr
     obtain ⟨rfl, rfl, rfl⟩ := Arr.nx hA
     refine ⟨drawF_next hr, fun φ a w T r hf hn => ?_⟩
     subst hn
     exact draw_ok ok ck hm hr T r hf fun a' w' L => ⟨rfl, L⟩
   · exact (Arr.bad hA).elim
theorem code_ok (ok : EnvOk E P G) {call : Call} (ck : CallOk P G call) (hm : P.follows .mixedOrders = true) {n : Nat} : ∀ c : Code, CodeOk E P G call n c
 | .skip => fun s h e s' h' A => by
   obtain ⟨rfl, rfl, rfl⟩ := Arr.nx (show Arr (.nx s h) e s' h' from A)
   exact ⟨Nat.le_refl _, fun φ a w T r hf hn => wp_skip ⟨rfl, Left.refl T r⟩⟩
 | .region id ops draw => region_ok ok ck hm
 | .seq x y => seq_ok (code_ok ok ck hm x) (code_ok ok ck hm y)
 | .cond c x y => cond_ok (code_ok ok ck hm x) (code_ok ok ck hm y)
 | .block id x => block_ok (code_ok ok ck hm x)
 | .loop x => loop_ok (code_ok ok ck hm x)
 | .exit id => fun s h e s' h' A => by
   obtain ⟨rfl, rfl, rfl⟩ := Arr.ex (show Arr (.ex id s h) e s' h' from A)
   exact ⟨Nat.le_refl _, fun φ a w T r hf hn => wp_exit ⟨rfl, Left.refl T r⟩⟩
 | .label l => fun s h e s' h' A => by
   obtain ⟨rfl, rfl, rfl⟩ := Arr.nx (show Arr (.nx s h) e s' h' from A)
   exact ⟨Nat.le_refl _, fun φ a w T r hf hn => wp_label ⟨rfl, Left.refl T r⟩⟩
 | .ret => fun s h e s' h' A => by
   obtain ⟨rfl, rfl, rfl⟩ := Arr.rt (show Arr (.rt s h) e s' h' from A)
   exact ⟨Nat.le_refl _, fun φ a w T r hf hn => wp_ret ⟨rfl, Left.refl T r⟩⟩
 | .rangeFunc .. => fun s h e s' h' A => (Arr.bad (show Arr (.bad "rangeFunc" 0) e s' h' from A)).elim
 | .scope .. => fun s h e s' h' A => (Arr.bad (show Arr (.bad "scope" 0) e s' h' from A)).elim
 | .goto _ => fun s h e s' h' A => (Arr.bad (show Arr (.bad "goto" 0) e s' h' from A)).elim
 | .refuse _ => fun s h e s' h' A => (Arr.bad (show Arr (.bad "refuse" 0) e s' h' from A)).elim
def getRes (tmps : Array Value) : ResultVar → Sem Value
 | .tmp t => pure (tmps.getD t undef)
 | .cell a t => do loadVar t (← asAddr (tmps.getD a undef))
theorem resOne_ok (ok : EnvOk E P G) {x : ResultVar} (T : TRel G φ s a.tmps) (r : HRel G φ h w) (e : (resOne E x).v s h = .ok v h') : h' = h ∧ ∃ u, (getRes a.tmps x).run P w = .ok u w ∧ conc G φ v = some u := by
 cases x with
 | tmp t =>
   unfold resOne at e
   simp only at e
   cases ht : Nat.blt t 4096 with
   | false => rw [ht] at e; cases e
   | true =>
     rw [ht, cond_true, Box.use_v] at e
     rw [nblt, decide_eq_true_eq] at ht
     cases e
     exact ⟨rfl, _, by simp [getRes], T t ht⟩
 | cell x t =>
   unfold resOne at e
   simp only [ok.ty] at e
   cases ht : (Nat.blt x 4096 && (mkTI P t).has) with
   | false => rw [ht] at e; cases e
   | true =>
     rw [ht, cond_true, Box.use_v, Box.use_v] at e
     rw [Bool.and_eq_true, nblt, decide_eq_true_eq] at ht
     obtain ⟨b, o, hb, e1⟩ := onPtr_ok e
     clear e
     have hT := T x ht.1
     rw [hb] at hT
     obtain ⟨l, hl, hu⟩ := conc_ptr hT
     obtain ⟨rfl, u, hrun, hc⟩ := loadF_ok r ht.2 hl e1
     refine ⟨rfl, u, ?_, hc⟩
     simp only [getRes, hu]
     simpa [asAddr] using hrun
theorem resL_cons (x : ResultVar) (l : List ResultVar) : resL E (x :: l) = (resL E l).use (fun g => (resOne E x).use fun f => ⟨fun s h k => match f s h with
 | .ok v _ => g s h fun l => k (v :: l)
 | .bad w n => .bad w n⟩ : (Fr → H → (List V → RV) → RV) → Box (Fr → H → (List V → RV) → RV)) := rfl
theorem resL_ok (ok : EnvOk E P G) (T : TRel G φ s a.tmps) (r : HRel G φ h w) : ∀ (l : List ResultVar) (k : List V → RV), (resL E l).v s h k = .ok v h' →
 ∃ vs us, k vs = .ok v h' ∧ concL G φ vs = some us ∧ us.length = l.length ∧ (l.mapM (getRes a.tmps)).run P w = .ok us w
 | [], k, e => ⟨[], [], e, concL_nil, rfl, by simp⟩
 | x :: l, k, e => by
   rw [resL_cons, Box.use_v, Box.use_v] at e
   dsimp only at e
   split at e
   · rename_i v1 h1 hr
     obtain ⟨_, u, hu, hc⟩ := resOne_ok ok T r hr
     obtain ⟨vs, us, h1, h2, h3, h4⟩ := resL_ok ok T r l _ e
     refine ⟨v1 :: vs, u :: us, h1, concL_cons.2 ⟨u, us, hc, h2, rfl⟩, by simp [h3], ?_⟩
     rw [List.mapM_cons]
     simp [hu, h4]
   · cases e
theorem res_ok (ok : EnvOk E P G) {fn : Func} (T : TRel G φ s a.tmps) (r : HRel G φ h w) (e : (resF E fn.results.toList).v s h = .ok v h') :
 h' = h ∧ ∃ u, (results fn a.tmps).run P w = .ok u w ∧ conc G φ v = some u := by
 have hres : results fn a.tmps = (do
  let vs ← fn.results.mapM (getRes a.tmps)
  pure (if h : vs.size = 1 then vs[0] else .tuple vs)) := by
  unfold results
  congr 1
 rw [hres, Array.mapM_eq_mapM_toList]
 unfold resF at e
 split at e
 · rename_i x hx
   obtain ⟨rfl, u, hu, hc⟩ := resOne_ok ok T r e
   refine ⟨rfl, u, ?_, hc⟩
   rw [hx]
   simp [hu]
 · rename_i l hl
   rw [Box.use_v] at e
   dsimp only at e
   obtain ⟨vs, us, h1, h2, h3, h4⟩ := resL_ok ok T r _ _ e
   cases h1
   refine ⟨rfl, .tuple us.toArray, ?_, by rw [conc, h2]⟩
   have hlen : us.length ≠ 1 := by
    intro hh
    rw [hh] at h3
    cases hL : fn.results.toList with
    | nil => rw [hL] at h3; cases h3
    | cons x t =>
      rw [hL] at h3
      simp at h3
      have : t = [] := List.eq_nil_of_length_eq_zero (by simpa using h3)
      subst this
      exact hl x hL
   simp [h4, hlen]
end
end Go.Proofs.YtmfmjhklajmhoaaGreat.Gv
namespace Go.Proofs.YtmfmjhklajmhoaaGreat.Gv
open Go
theorem Fr.ofL_cons (v : V) (l : List V) (i : Nat) (s : Fr) : Fr.ofL (v :: l) i s = Fr.ofL l (i + 1) ((Fr.set i).v v s) := rfl
theorem Fr.get_ofL : ∀ (l : List V) (i : Nat) (s : Fr) (t : Nat), i + l.length ≤ 4096 → t < 4096 →
 (Fr.get t).v (Fr.ofL l i s) = if i ≤ t ∧ t < i + l.length then (l[t - i]?).getD .undef else (Fr.get t).v s
 | [], i, s, t, _, _ => by rw [if_neg (by simp)]; rfl
 | v :: l, i, s, t, hl, ht => by
   simp only [List.length_cons] at hl
   rw [Fr.ofL_cons, Fr.get_ofL l (i + 1) _ t (by omega) ht, Fr.get_set _ _ (by omega) ht]
   by_cases h1 : t = i
   · subst h1
     rw [if_neg (by omega), if_pos rfl, if_pos (by simp)]
     simp
   · rw [if_neg h1]
     by_cases h2 : i ≤ t ∧ t < i + (v :: l).length
     · simp only [List.length_cons] at h2
       rw [if_pos (by omega), if_pos (by simp; omega)]
       rw [show t - i = (t - (i + 1)) + 1 from by omega, List.getElem?_cons_succ]
     · simp only [List.length_cons] at h2
       rw [if_neg (by omega), if_neg (by simp; omega)]
section
variable {E : Env} {P : Program} {G : Gh} {φ : Mp} {h h' : H} {w : World} {s : Fr} {a : Act} {v : V} {o : Oper}
theorem start_ok {l : List V} {ul : List Value} {n : Nat} (hl : concL G φ l = some ul) (hn : l.length ≤ 4096) :
 TRel G φ (Fr.ofL l 0 Fr.new) (ul.toArray ++ Array.replicate (n - ul.toArray.size) undef) := by
 intro t ht
 rw [Fr.get_ofL _ _ _ _ (by omega) ht]
 have hlen := concL_length hl
 have hun : conc G φ .undef = some undef := by rw [conc]; rfl
 by_cases hc : 0 ≤ t ∧ t < 0 + l.length
 · rw [if_pos hc, Nat.sub_zero]
   have hlt : t < l.length := by omega
   obtain ⟨u, hu, hcu⟩ := concL_get hl t l[t] (by simp [hlt])
   simp only [List.getElem?_eq_getElem hlt, Option.getD_some]
   rw [hcu]
   have : (ul.toArray ++ Array.replicate (n - ul.toArray.size) undef)[t]? = some u := by
    rw [Array.getElem?_append_left (by simp; omega)]
    simpa using hu
   rw [Array.getD_eq_getD_getElem?, this]
   rfl
 · rw [if_neg hc, Fr.get_new _ ht, hun]
   have : (ul.toArray ++ Array.replicate (n - ul.toArray.size) undef).getD t undef = undef := by
    rw [Array.getD_eq_getD_getElem?, Array.getElem?_append_right (by simp; omega)]
    simp only [Array.getElem?_replicate]
    split <;> rfl
   rw [this]
theorem run_enter {f : Nat} {fn : Func} {c : Code} (hf : P.funcs[f]? = some fn) (hn : (fn.name == "runtime.NumGoroutine") = false) (hb : fn.body = some c) (args : Array Value) :
 (callFunc f args).run P w = .ok (.enter f args) w := by
 have hn' : ¬ fn.name = "runtime.NumGoroutine" := by simpa using hn
 simp [callFunc, hf, hn', hb]
theorem fn_ok (ok : EnvOk E P G) (fk : FnOk E P G) {call : Call} (ck : CallOk P G call) {f : Nat} {l : List V} (e : (fnF E f).v call l h = .ok v h') {ul : List Value} (hl : concL G φ l = some ul) (r : HRel G φ h w) (hf : Free φ h.next h'.next) :
 Gives P (Post G φ h w v h') ((callFunc f ul.toArray).run P w) := by
 unfold fnF at e
 split at e
 · rename_i g hg
   exact fk.hk f g hg call ck l h v h' e φ w ul hl r hf
 · split at e
   · rename_i fn hfn
     obtain ⟨hP, hname⟩ := fk.fn f fn hfn
     split at e
     · rename_i c hb
       rw [Box.use_v, Box.use_v, Box.use_v] at e
       dsimp only at e
       cases hlen : (Nat.ble l.length fn.ntmps && Nat.ble l.length 4096) with
       | false => rw [hlen] at e; cases e
       | true =>
         rw [hlen, cond_true] at e
         rw [Bool.and_eq_true, nble, nble, decide_eq_true_eq, decide_eq_true_eq] at hlen
         have hul := concL_length hl
         rw [run_enter hP hname hb]
         show Calls P f ul.toArray w _
         refine calls_of_wp hP hb ?_
         have T0 := start_ok (n := fn.ntmps) hl hlen.2
         have hsz : (ul.toArray ++ Array.replicate (fn.ntmps - ul.toArray.size) undef).size = fn.ntmps := by simp; omega
         have fin : ∀ (x : Exit) (s1 : Fr) (h1 : H), Arr ((codeF E fn.ntmps c).v call (Fr.ofL l 0 Fr.new) h) x s1 h1 → (x = .normal ∨ x = .ret) → (resF E fn.results.toList).v s1 h1 = .ok v h' →
          c.wp P (bodyPost P fn fun e w'' => ∃ u, e = .returned u ∧ Post G φ h w v h' u w'') { tmps := ul.toArray ++ Array.replicate (fn.ntmps - ul.toArray.size) undef, defers := [] } w := by
          intro x s1 h1 A hx hr
          obtain ⟨n1, k1⟩ := code_ok ok ck fk.md c _ _ _ _ _ A
          have hh1 : ∀ (φ' : Mp) (a' : Act) (w' : World), TRel G φ' s1 a'.tmps → HRel G φ' h1 w' → h' = h1 ∧ ∃ u, (results fn a'.tmps).run P w' = .ok u w' ∧ conc G φ' v = some u :=
           fun φ' a' w' T r => res_ok ok T r hr
          have hnext : h1.next ≤ h'.next := by
           have key : ∀ (rs : List ResultVar) (s1 : Fr) (h1 : H) (v : V) (h' : H), (resF E rs).v s1 h1 = .ok v h' → h' = h1 := by
            have one : ∀ (x : ResultVar) (s1 : Fr) (h1 : H) (v : V) (h' : H), (resOne E x).v s1 h1 = .ok v h' → h' = h1 := by
             intro x s1 h1 v h' e
             unfold resOne at e
             cases x with
             | tmp t =>
               dsimp only at e
               cases ht : Nat.blt t 4096 with
               | false => rw [ht] at e; cases e
               | true => rw [ht, cond_true, Box.use_v] at e; cases e; rfl
             | cell x t =>
               dsimp only at e
               cases ht : (Nat.blt x 4096 && (E.tyOf t).has) with
               | false => rw [ht] at e; cases e
               | true =>
                 rw [ht, cond_true, Box.use_v, Box.use_v] at e
                 obtain ⟨b, o, _, e⟩ := onPtr_ok e
                 unfold loadF at e
                 split at e
                 · obtain ⟨_, _, _, _, _, e⟩ := onRead_ok e
                   obtain ⟨_, e⟩ := bif_ok e
                   obtain ⟨_, _, e⟩ := onSome_ok e
                   cases e; rfl
                 · rw [Box.use_v] at e
                   obtain ⟨_, _, _, _, _, e⟩ := onRead_ok e
                   obtain ⟨_, e⟩ := bif_ok e
                   obtain ⟨_, _, e⟩ := onSome_ok e
                   cases e; rfl
            have many : ∀ (rs : List ResultVar) (s1 : Fr) (h1 : H) (k : List V → RV) (v : V) (h' : H), (∀ l, k l = .ok v h' → h' = h1) → (resL E rs).v s1 h1 k = .ok v h' → h' = h1 := by
             intro rs
             induction rs with
             | nil => intro s1 h1 k v h' hk e; exact hk [] e
             | cons x l ih =>
               intro s1 h1 k v h' hk e
               rw [resL_cons, Box.use_v, Box.use_v] at e
               dsimp only at e
               split at e
               · exact ih s1 h1 _ v h' (fun l hl => hk _ hl) e
               · cases e
            intro rs s1 h1 v h' e
            unfold resF at e
            split at e
            · exact one _ _ _ _ _ e
            · rw [Box.use_v] at e
              exact many _ _ _ _ _ _ (fun l hl => by cases hl; rfl) e
           rw [key _ _ _ _ _ hr]; exact Nat.le_refl _
          refine wp_mono (k1 φ _ w T0 r (hf.left hnext) hsz) ?_
          rintro e1 a1 w1 ⟨rfl, φ1, T1, r1, f1, x1, hd, hz⟩
          obtain ⟨rfl, u, hu, hc⟩ := hh1 φ1 a1 w1 T1 r1
          rcases hx with rfl | rfl
          · exact ⟨hd, u, hu, u, rfl, φ1, hc, r1, f1, x1⟩
          · exact ⟨hd, u, hu, u, rfl, φ1, hc, r1, f1, x1⟩
         cases hx : (codeF E fn.ntmps c).v call (Fr.ofL l 0 Fr.new) h with
         | nx s1 h1 => rw [hx] at e; exact fin .normal s1 h1 (.inl ⟨hx, rfl⟩) (.inl rfl) e
         | rt s1 h1 => rw [hx] at e; exact fin .ret s1 h1 (.inr (.inr ⟨hx, rfl⟩)) (.inr rfl) e
         | ex i s1 h1 => rw [hx] at e; cases e
         | bad m i => rw [hx] at e; cases e
     · cases e
   · cases e
theorem callN_ok (ok : EnvOk E P G) (fk : FnOk E P G) : ∀ n, CallOk P G (callN E n)
 | 0 => fun f l h v h' e => by cases e
 | n + 1 => fun f l h v h' e φ w ul hl r hf => fn_ok ok fk (callN_ok ok fk n) (f := f) e hl r hf
theorem run_ok (ok : EnvOk E P G) (fk : FnOk E P G) {n f : Nat} {fn : Func} (hP : P.funcs[f]? = some fn) (hn : (fn.name == "runtime.NumGoroutine") = false) {c : Code} (hb : fn.body = some c) {l : List V}
 (e : callN E n f l h = .ok v h') {ul : List Value} (hl : concL G φ l = some ul) (r : HRel G φ h w) (hf : Free φ h.next h'.next) :
 Calls P f ul.toArray w fun e w' => ∃ u, e = .returned u ∧ Post G φ h w v h' u w' := by
 have := callN_ok ok fk n f l h v h' e φ w ul hl r hf
 rw [run_enter hP hn hb] at this
 exact this
end
end Go.Proofs.YtmfmjhklajmhoaaGreat.Gv
namespace Go.Proofs.YtmfmjhklajmhoaaGreat.Gv
open Go Go.RowKit
section
variable {α : Type}
theorem T0.mk1_get (x : Option α) : ∀ (f i : Nat), i + 2 ≤ 2 ^ f → (T0.mk1 x f i).get i = x
 | 0, i, h => by simp at h
 | f + 1, 0, _ => rfl
 | f + 1, j + 1, h => by
   have h2 : j / 2 + 2 ≤ 2 ^ f := by rw [Nat.pow_succ] at h; omega
   rw [T0.mk1_succ]
   split
   · rename_i hj; rw [T0.get_nd, if_pos hj]; exact T0.mk1_get x f _ h2
   · rename_i hj; rw [T0.get_nd, if_neg hj]; exact T0.mk1_get x f _ h2
theorem T0.setO_get (x : Option α) : ∀ (t : T0 α) (i : Nat), i + 2 ≤ 2 ^ 40 → (T0.setO t x i).get i = x := by
 intro t
 induction t with
 | lf => intro i h; rw [T0.setO_lf]; exact T0.mk1_get x 40 i h
 | nd l v r il ir =>
   intro i h
   cases i with
   | zero => rfl
   | succ j =>
     rw [T0.setO_nd]
     split
     · rename_i hj; rw [T0.get_nd, if_pos hj]; exact il _ (by omega)
     · rename_i hj; rw [T0.get_nd, if_neg hj]; exact ir _ (by omega)
theorem T.setO_get (x : Option α) : ∀ (t : T α) (i : Nat), i + 2 ≤ 2 ^ 40 → (T.setO t x i).get i = x
 | .lf, i, h => by
   rw [T.setO_lf, sel_self]
   split
   · rfl
   · exact T0.setO_get _ _ _ h
 | .nd lo hi far, i, h => by
   rw [T.setO_nd, sel_self]
   split
   · rfl
   · exact T0.setO_get _ _ _ h
theorem T.setRow_get : ∀ (l : List α) (i : Nat) (t : T α) (k : Nat), k + 2 ≤ 2 ^ 40 → (T.setRow l i t).get k = if i ≤ k ∧ k < i + l.length then l[k - i]? else t.get k
 | [], i, t, k, _ => by rw [if_neg (by simp)]; rfl
 | x :: l, i, t, k, h => by
   rw [T.setRow_cons, T.setRow_get l (i + 1) _ k h]
   by_cases h1 : k = i
   · subst h1
     rw [if_neg (by omega), if_pos (by simp)]
     rw [T.set, T.setO_get _ _ _ h]
     simp
   · rw [T.set, T.setO_other _ _ _ _ h1]
     by_cases h2 : i ≤ k ∧ k < i + (x :: l).length
     · simp only [List.length_cons] at h2
       rw [if_pos (by omega), if_pos (by simp; omega), show k - i = (k - (i + 1)) + 1 from by omega, List.getElem?_cons_succ]
     · simp only [List.length_cons] at h2
       rw [if_neg (by omega), if_neg (by simp; omega)]
theorem T.ofList_get (l : List α) (k : Nat) (h : k + 2 ≤ 2 ^ 40) : (T.ofList l).get k = l[k]? := by
 rw [T.ofList, T.setRow_get l 0 _ k h]
 by_cases hk : k < l.length
 · rw [if_pos (by omega)]; simp
 · rw [if_neg (by omega), T.get_lf]; simp; omega
theorem T.get_none : ∀ (t : T α) (l : List α) (k : Nat), t = T.ofList l → l.length ≤ k → t.get k = none := by
 intro t l k ht hk
 subst ht
 cases hx : (T.ofList l).get k with
 | none => rfl
 | some x =>
   have := T.get_ofList hx
   have := (List.getElem?_eq_some_iff.1 this).1
   omega
end
noncomputable def evE (P : Program) (hk : Nat → Option (Call → List V → H → RV)) (bd : List (Int × Int)) (ge : List (Int × List (Nat × Int))) (nl : List NL) : Env :=
 { ty := T.ofList ((List.range P.types.size).map (mkTI P)), df := mkTI P, fn := T.ofList P.funcs.toList, hk, bd, ge, nl, ro := false }
noncomputable def evR (P : Program) (bd : List (Int × Int)) (ge : List (Int × List (Nat × Int))) (nl : List NL) : Env := { evE P (fun _ => none) bd ge nl with ro := true }
structure ProgOk (P : Program) : Prop where
 types : P.types.size ≤ 1000000
 names : P.funcs.toList.all (fun fn => !(fn.name == "runtime.NumGoroutine")) = true
 md : P.follows .mixedOrders = true
section
variable {P : Program} {G : Gh} {hk : Nat → Option (Call → List V → H → RV)} {bd : List (Int × Int)} {ge : List (Int × List (Nat × Int))} {nl : List NL}
theorem evE_ty (hP : ProgOk P) (t : Nat) : (evE P hk bd ge nl).tyOf t = mkTI P t := by
 have hs := hP.types
 unfold Env.tyOf
 show (match (T.ofList ((List.range P.types.size).map (mkTI P))).get t with | some ti => ti | none => mkTI P t) = _
 by_cases ht : t < P.types.size
 · rw [T.ofList_get _ _ (by omega)]
   simp [ht]
 · rw [T.get_none _ _ t rfl (by simp; omega)]
theorem evE_ok (hP : ProgOk P) (hbd : ∀ (i : Nat) lo hi, bd[i]? = some (lo, hi) → lo ≤ G.σ i ∧ G.σ i ≤ hi) (hge : ∀ f ∈ ge, 0 ≤ f.1 + den G.σ f.2) (hnl : ∀ n ∈ nl, NLOk G n) : EnvOk (evE P hk bd ge nl) P G :=
 ⟨evE_ty hP, hbd, hge, hnl⟩
def HooksOk (P : Program) (G : Gh) (hk : Nat → Option (Call → List V → H → RV)) : Prop :=
 ∀ (f : Nat) g, hk f = some g → ∀ call, CallOk P G call → ∀ (l : List V) (h : H) (v : V) (h' : H), g call l h = .ok v h' → ∀ (φ : Mp) (w : World) (ul : List Value), concL G φ l = some ul → HRel G φ h w → Free φ h.next h'.next →
  Gives P (Post G φ h w v h') ((callFunc f ul.toArray).run P w)
theorem evE_fn (hP : ProgOk P) (hh : HooksOk P G hk) : FnOk (evE P hk bd ge nl) P G := by
 refine ⟨fun f fn e => ?_, hh, hP.md⟩
 have h1 := T.get_ofList (show (T.ofList P.funcs.toList).get f = some fn from e)
 refine ⟨by simpa using h1, ?_⟩
 have := List.all_eq_true.1 hP.names fn (List.mem_of_getElem? h1)
 simpa using this
def TrueBelow (w : World) (e : Ending) (w' : World) : Prop := e = .returned (.bool true) ∧ Below w.heap.size w w'
theorem isTrue_ok {r : RV} (e : r.isTrue = true) : ∃ h', r = .ok (.bool true) h' := by
 unfold RV.isTrue at e
 cases r with
 | ok v h =>
   cases v with
   | bool b => exact ⟨h, by have e : b = true := e; rw [e]⟩
   | _ => cases e
 | bad m i => cases e
theorem law_run (hP : ProgOk P) (hbd : ∀ (i : Nat) lo hi, bd[i]? = some (lo, hi) → lo ≤ G.σ i ∧ G.σ i ≤ hi) (hge : ∀ f ∈ ge, 0 ≤ f.1 + den G.σ f.2) (hnl : ∀ n ∈ nl, NLOk G n) (hh : HooksOk P G hk) {n f : Nat} {fn : Func} (hf : P.funcs[f]? = some fn) {c : Code} (hb : fn.body = some c)
 {l : List V} {ul : List Value} (hl : concL G (fun _ => none) l = some ul) (e : (callN (evE P hk bd ge nl) n f l H0).isTrue = true) (w : World) : Calls P f ul.toArray w (TrueBelow w) := by
 obtain ⟨h', e⟩ := isTrue_ok e
 have hn : (fn.name == "runtime.NumGoroutine") = false := by
  have := List.all_eq_true.1 hP.names fn (List.mem_of_getElem? (i := f) (by simpa using hf))
  simpa using this
 have r0 : HRel G (fun _ => none) H0 w := ⟨fun b x l hb => (nomatch hb), fun b b' x x' l l' hb => (nomatch hb), fun b _ => rfl⟩
 refine (run_ok (evE_ok hP hbd hge hnl) (evE_fn hP hh) hf hn hb e hl r0 (fun _ _ _ => rfl)).mono ?_
 rintro e w' ⟨u, rfl, φ', hu, r, f', x⟩
 rw [conc] at hu
 cases hu
 refine ⟨rfl, f'.os, f'.tape, f'.output, f'.size, fun k hk => f'.block k hk ?_⟩
 rintro ⟨b, y, l, hb, _⟩
 exact (nomatch hb)
end
end Go.Proofs.YtmfmjhklajmhoaaGreat.Gv
namespace Go.Proofs.YtmfmjhklajmhoaaGreat.Gv
open Go Go.RowKit
structure HT where
 f : Nat
 args : List V
 v : V
noncomputable def hkT : List HT → Nat → Option (Call → List V → H → RV)
 | [], _ => none
 | t :: l, n => bif Nat.beq n t.f then some (fun call a h => bif allB sameV t.args a then .ok t.v h else (match hkT l n with | some g => g call a h | none => .bad "hook" n)) else hkT l n
noncomputable def orHk (a b : Nat → Option (Call → List V → H → RV)) (n : Nat) : Option (Call → List V → H → RV) := match a n with | some g => some g | none => b n
section
variable {P : Program} {G : Gh} {φ : Mp} {h : H} {w w' : World} {v : V} {u : Value}
theorem below_post (hm : ¬ G.mono) (r : HRel G φ h w) (hb : Below w.heap.size w w') (hv : conc G φ v = some u) : Post G φ h w v h u w' :=
 ⟨φ, hv, r.frame (Mp.le_refl _) (fun _ _ _ _ e => e) (fun k hk => hb.block k (r.foot_lt hk)), ⟨fun h => (hm h).elim, hb.os, hb.tape, hb.output, hb.size, fun k hk _ => hb.block k hk⟩, Ext.refl _ _ _⟩
structure HTOk (P : Program) (G : Gh) (t : HT) : Prop where
 enter : ∃ fn c, P.funcs[t.f]? = some fn ∧ fn.body = some c
 run : ∀ (φ : Mp) (ul : List Value), concL G φ t.args = some ul → ∀ w, Calls P t.f ul.toArray w fun e w' => ∃ u, (∀ ψ, conc G ψ t.v = some u) ∧ e = .returned u ∧ Below w.heap.size w w'
theorem prog_name (hP : ProgOk P) {f : Nat} {fn : Func} (hf : P.funcs[f]? = some fn) : (fn.name == "runtime.NumGoroutine") = false := by
 have := List.all_eq_true.1 hP.names fn (List.mem_of_getElem? (i := f) (by simpa using hf))
 simpa using this
theorem hkT_ok' (hP : ProgOk P) (hm : ¬ G.mono) : ∀ (T : List HT), (∀ t ∈ T, HTOk P G t) → HooksOk P G (hkT T)
 | [], _ => fun f g e => (nomatch e)
 | t :: l, ht => fun f g e call ck a h v h' eg φ w ul hl r hf => by
   unfold hkT at e
   rw [nbeq] at e
   by_cases hft : f = t.f
   · rw [decide_eq_true hft, cond_true] at e
     cases e
     dsimp only at eg
     cases hs : allB sameV t.args a with
     | true =>
       rw [hs, cond_true] at eg
       cases eg
       have hta := allB_same (fun _ _ => sameV_eq) hs
       subst hft
       obtain ⟨fn, c, h1, h2⟩ := (ht t (by simp)).enter
       rw [run_enter h1 (prog_name hP h1) h2]
       refine ((ht t (by simp)).run φ ul (by rw [hta]; exact hl) w).mono ?_
       rintro e w' ⟨u, hu, rfl, hb⟩
       exact ⟨u, rfl, below_post hm r hb (hu φ)⟩
     | false =>
       rw [hs, cond_false] at eg
       cases hx : hkT l f with
       | none => rw [hx] at eg; cases eg
       | some g' =>
         rw [hx] at eg
         exact hkT_ok' hP hm l (fun t' h' => ht t' (by simp [h'])) f g' hx call ck a h v h' eg φ w ul hl r hf
   · rw [decide_eq_false hft, cond_false] at e
     exact hkT_ok' hP hm l (fun t' h' => ht t' (by simp [h'])) f g e call ck a h v h' eg φ w ul hl r hf
theorem hkT_ok (hP : ProgOk P) (T : List HT) (h : ∀ t ∈ T, HTOk P G t) (hm : ¬ G.mono := by exact fun h => h) : HooksOk P G (hkT T) := hkT_ok' hP hm T h
theorem orHk_ok {a b : Nat → Option (Call → List V → H → RV)} (ha : HooksOk P G a) (hb : HooksOk P G b) : HooksOk P G (orHk a b) := by
 intro f g e
 unfold orHk at e
 cases hx : a f with
 | some g' => rw [hx] at e; cases e; exact ha f _ hx
 | none => rw [hx] at e; exact hb f g e
noncomputable def RV.isV (v : V) (r : RV) : Bool := match r with | .ok u _ => sameV v u | .bad _ _ => false
theorem val_run {hk : Nat → Option (Call → List V → H → RV)} {bd : List (Int × Int)} {ge : List (Int × List (Nat × Int))} {nl : List NL}
 (hP : ProgOk P) (hbd : ∀ (i : Nat) lo hi, bd[i]? = some (lo, hi) → lo ≤ G.σ i ∧ G.σ i ≤ hi) (hge : ∀ f ∈ ge, 0 ≤ f.1 + den G.σ f.2) (hnl : ∀ n ∈ nl, NLOk G n) (hh : HooksOk P G hk) {n f : Nat} {fn : Func} (hf : P.funcs[f]? = some fn) {c : Code} (hb : fn.body = some c)
 {l : List V} {ul : List Value} (hl : concL G (fun _ => none) l = some ul) (e : ((callN (evE P hk bd ge nl) n f l H0).isV v) = true) (hv : ∀ φ, conc G φ v = some u) (w : World) :
 Calls P f ul.toArray w fun e w' => e = .returned u ∧ Below w.heap.size w w' := by
 unfold RV.isV at e
 cases hr : callN (evE P hk bd ge nl) n f l H0 with
 | bad m i => rw [hr] at e; cases e
 | ok x h' =>
   rw [hr] at e
   have := sameV_eq e
   subst this
   have r0 : HRel G (fun _ => none) H0 w := ⟨fun b x l hb => (nomatch hb), fun b b' x x' l l' hb => (nomatch hb), fun b _ => rfl⟩
   refine (run_ok (evE_ok hP hbd hge hnl) (evE_fn hP hh) hf (prog_name hP hf) hb hr hl r0 (fun _ _ _ => rfl)).mono ?_
   rintro e w' ⟨u', rfl, φ', hu, r, f', x⟩
   rw [hv] at hu
   cases hu
   refine ⟨rfl, f'.os, f'.tape, f'.output, f'.size, fun k hk => f'.block k hk ?_⟩
   rintro ⟨b, y, l, hb, _⟩
   exact (nomatch hb)
end
def bdOk (σ : Nat → Int) : List (Int × Int) → Nat → Prop
 | [], _ => True
 | p :: l, k => (p.1 ≤ σ k ∧ σ k ≤ p.2) ∧ bdOk σ l (k + 1)
theorem bdOk_at {σ : Nat → Int} : ∀ {l : List (Int × Int)} {k : Nat}, bdOk σ l k → ∀ (i : Nat) lo hi, l[i]? = some (lo, hi) → lo ≤ σ (k + i) ∧ σ (k + i) ≤ hi
 | [], k, _, i, lo, hi, e => by simp at e
 | p :: l, k, h, i, lo, hi, e => by
   cases i with
   | zero => simp at e; subst e; exact h.1
   | succ i =>
     have := bdOk_at h.2 i lo hi (by simpa using e)
     rw [show k + (i + 1) = k + 1 + i from by omega]
     exact this
def geOk (σ : Nat → Int) : List (Int × List (Nat × Int)) → Prop
 | [] => True
 | f :: l => 0 ≤ f.1 + den σ f.2 ∧ geOk σ l
theorem geOk_at {σ : Nat → Int} : ∀ {l : List (Int × List (Nat × Int))}, geOk σ l → ∀ f ∈ l, 0 ≤ f.1 + den σ f.2
 | [], _, f, hf => by cases hf
 | p :: l, h, f, hf => by
   rcases List.mem_cons.1 hf with rfl | hf
   · exact h.1
   · exact geOk_at h.2 f hf
def nlOk (G : Gh) : List NL → Prop
 | [] => True
 | n :: l => NLOk G n ∧ nlOk G l
theorem nlOk_at {G : Gh} : ∀ {l : List NL}, nlOk G l → ∀ n ∈ l, NLOk G n
 | [], _, n, hn => by cases hn
 | p :: l, h, n, hn => by
   rcases List.mem_cons.1 hn with rfl | hn
   · exact h.1
   · exact nlOk_at h.2 n hn
def mkGh (e : List Value) (s : List Int) (he : e.all (·.oneCell') = true) : Gh := ⟨fun i => e.getD i (.bool false), fun i => s.getD i 0, fun i _ => by
 rw [List.getD_eq_getElem?_getD]
 cases hi : e[i]? with
 | none => rfl
 | some v => exact List.all_eq_true.1 he v (List.mem_of_getElem? hi), False⟩
structure Facts (G : Gh) (bd : List (Int × Int)) (ge : List (Int × List (Nat × Int))) (nl : List NL) : Prop where
 bd : bdOk G.σ bd 0
 ge : geOk G.σ ge
 nl : nlOk G nl
section
variable {P : Program} {G : Gh} {w : World} {v : V} {u : Value} {hk : Nat → Option (Call → List V → H → RV)} {bd : List (Int × Int)} {ge : List (Int × List (Nat × Int))} {nl : List NL}
theorem Facts.ends (F : Facts G bd ge nl) : ∀ (i : Nat) lo hi, bd[i]? = some (lo, hi) → lo ≤ G.σ i ∧ G.σ i ≤ hi := fun i lo hi e => by
 have := bdOk_at F.bd i lo hi e
 rwa [Nat.zero_add] at this
theorem run_val (hP : ProgOk P) (F : Facts G bd ge nl) (hh : HooksOk P G hk) {n f : Nat} {fn : Func} (hf : P.funcs[f]? = some fn) {c : Code} (hb : fn.body = some c)
 {l : List V} {ul : List Value} (hl : concL G (fun _ => none) l = some ul) (e : ((callN (evE P hk bd ge nl) n f l H0).isV v) = true) (hv : ∀ φ, conc G φ v = some u) (w : World) :
 Calls P f ul.toArray w fun e w' => e = .returned u ∧ Below w.heap.size w w' :=
 val_run hP F.ends (geOk_at F.ge) (nlOk_at F.nl) hh hf hb hl e hv w
theorem run_true (hP : ProgOk P) (F : Facts G bd ge nl) (hh : HooksOk P G hk) {n f : Nat} {fn : Func} (hf : P.funcs[f]? = some fn) {c : Code} (hb : fn.body = some c)
 {l : List V} {ul : List Value} (hl : concL G (fun _ => none) l = some ul) (e : (callN (evE P hk bd ge nl) n f l H0).isTrue = true) (w : World) : Calls P f ul.toArray w (TrueBelow w) :=
 law_run hP F.ends (geOk_at F.ge) (nlOk_at F.nl) hh hf hb hl e w
theorem noHooks : HooksOk P G (fun _ => none) := fun _ _ h => (nomatch h)
theorem noFacts : Facts G [] [] [] := ⟨trivial, trivial, trivial⟩
end
end Go.Proofs.YtmfmjhklajmhoaaGreat.Gv
namespace Go.Proofs.YtmfmjhklajmhoaaGreat.Gv
open Go Go.RowKit
def LF.neg (x : LF) : LF := (-1 - x.1, scale (-1) x.2)
def comb : List Nat → List LF → LF
 | c :: cs, f :: fs => LF.add (Int.ofNat c * f.1, scale (Int.ofNat c) f.2) (comb cs fs)
 | _, _ => (0, [])
end Go.Proofs.YtmfmjhklajmhoaaGreat.Gv
namespace Go.Proofs.YtmfmjhklajmhoaaGreat.Gv
open Go Go.RowKit Go.WideShapes Go.ChangeShapes
section
variable {P : Program} {w : World} {base : Nat}
theorem cell_int {u : TypeId} {x : Value} (hu : P.underlying u = some (.int .i64)) (h : Cell.okWide P w .any base u x) : ∃ n, x = .int .i64 n ∧ -9223372036854775808 ≤ n ∧ n ≤ 9223372036854775807 := by
 unfold Cell.okWide at h
 rw [hu] at h
 cases x <;> simp [Cell.ok, hu] at h
 obtain ⟨rfl, h1, h2⟩ := h
 exact ⟨_, rfl, h1, h2⟩
variable {H : Type} {enc : TypeId × Value → H}
theorem stays {t : TypeId} (hl : laidOutB P = true) (hr : P.readableRec t = true) (hrow : t < P.types.size) {W W' : World} {before ps : List MemPlace} {sp : Nat → Bool} {v : Value} {d : DataW H} (hb : Below W.heap.size W W') (hlt : ∀ x ∈ before, x.block < W.heap.size)
 (hsp : ∀ x ∈ before, sp x.block = true) (hsub : ∀ x ∈ ps, x ∈ before) (h : DataW.Trod enc P W 0 (fun _ => true) true t v d ps) : DataW.Trod enc P W' 0 sp true t v d ps :=
 WideElems.Trod_stays hl hr hrow h (fun x hx => hb.same (hlt x (hsub x hx))) (fun x hx => hsp x (hsub x hx))
theorem post_of_below {f : Func} {s : ChangeSpec} {apart fresh handsOn again : Bool} {W W' : World} {args : Array Value} {v : Value} {ds gs : List (DataW H)} {before pa pv : List MemPlace}
 (hW : DataW.Whole enc P f.params.toList s.vars apart W args.toList ds gs before)
 (hres : ∀ (b : Nat) (sp : Nat → Bool) (hd : Bool), DataW.TrodAll enc P W' b sp hd f.resultTypes.toList (v.resultList f.resultTypes.size) (s.fn H (ds ++ gs)).results [])
 (hargs : ∀ sp : Nat → Bool, (∀ p ∈ before, sp p.block = true) → DataW.TrodAll enc P W' 0 sp true f.params.toList args.toList (s.fn H (ds ++ gs)).args pa)
 (hvars : ∀ sp : Nat → Bool, (∀ p ∈ before, sp p.block = true) → DataW.TrodVars enc P W' sp s.vars (s.fn H (ds ++ gs)).vars pv)
 (hps : before = pa ++ pv) (hb : Below W.heap.size W W')
 (hok : ∀ (j : Nat) (t : TypeId) (r : Value), f.resultTypes[j]? = some t → (v.resultList f.resultTypes.size)[j]? = some r → Value.okWide P W' .any 0 t r) :
 s.post enc P f apart fresh handsOn again W args v W' := by
 have hlt : ∀ p ∈ before, p.block < W.heap.size := fun p hp => hW.lt p hp
 have hold : ∀ p ∈ before, (fun b => decide (b < W.heap.size)) p.block = true := fun p hp => by simpa using hlt p hp
 refine ⟨ds, gs, before, [], pa, pv, hW, hres _ _ _, hargs _ hold, hvars _ hold, World.keptBut_mono (fun p hp => ⟨hp, ?_⟩) (hb.frame (· ∈ before)), fun _ => ?_⟩
 · rw [hps, List.mem_append] at hp
   exact Or.inr hp
 · obtain ⟨_, _, _, _, _, hz, hn⟩ := hW
   refine ⟨hok, _, _, ([] ++ pa) ++ pv, ⟨[] ++ pa, pv, trodAll_append (hargs _ (fun _ _ => rfl)) (hres _ _ _), hvars _ (fun _ _ => rfl), rfl, ?_, ?_⟩, ?_⟩
   · intro b off hp
     have hin : MemPlace.cell b off ∈ before := by rw [hps]; simpa using hp
     rw [hb.frozen (hlt _ hin)]
     exact hz b off hin
   · intro ha
     have := hn ha
     rw [hps] at this
     simpa using this
   · intro p hp _
     rw [hps]
     simpa using hp
end
end Go.Proofs.YtmfmjhklajmhoaaGreat.Gv
namespace Go.Proofs.YtmfmjhklajmhoaaGreat.Gv
open Go Go.RowKit
structure ExtOk (P : Program) (f : Nat) (x : Array Value → Sem Value) : Prop where
 run : ∀ (args : Array Value) (w : World), (callFunc f args).run P w = ((x args).run P w).andThen fun v w' => .ok (.value v) w'
theorem ExtOk.mk' {P : Program} {f : Nat} {x : Array Value → Sem Value} {fn : Func} (hP : ProgOk P) (hf : P.funcs[f]? = some fn) (hb : fn.body.isNone = true) (hn : Extern.findNext fn = none) (he : Extern.find fn = some x) : ExtOk P f x :=
 ⟨fun args w => run_callFunc_extern hf (prog_name hP hf) hb hn he args w⟩
noncomputable def addH (_ : Call) (l : List V) (h : H) : RV :=
 match l with
 | [.int .u64 (.ofNat a), .int .u64 (.ofNat b), .int .u64 (.ofNat c)] => bif Nat.ble c 1 then .ok (.tuple [.int .u64 (.ofNat ((a + b + c) % 18446744073709551616)), .int .u64 (.ofNat ((a + b + c) / 18446744073709551616))]) h else .bad "add64" 1
 | _ => .bad "add64" 0
noncomputable def addS (E : Env) (l : List V) (h : H) : RV :=
 match l with
 | [x, y, .int .u64 (.ofNat c)] => (match kOf x, asLF x, kOf y, asLF y with
   | some k1, some z1, some k2, some z2 =>
     bif sameK k1 .u64 && (sameK k2 .u64 && (Nat.ble c 1 && (known E z1 && known E z2))) then
      (bif known E (LF.sub (18446744073709551615 - Int.ofNat c, []) (LF.add z1 z2)) then .ok (.tuple [ofLF .u64 (LF.add (LF.add z1 z2) (Int.ofNat c, [])), .int .u64 0]) h
      else bif known E (LF.sub (LF.add z1 z2) (18446744073709551616 - Int.ofNat c, [])) && known E (LF.sub (36893488147419103231 - Int.ofNat c, []) (LF.add z1 z2)) then
       .ok (.tuple [ofLF .u64 (LF.add (LF.add z1 z2) (Int.ofNat c - 18446744073709551616, [])), .int .u64 1]) h
      else .bad "add64: carry" (encLF (LF.sub (18446744073709551615 - Int.ofNat c, []) (LF.add z1 z2))))
     else .bad "add64" 2
   | _, _, _, _ => .bad "add64" 3)
 | _ => .bad "add64" 4
noncomputable def addE (E : Env) (call : Call) (l : List V) (h : H) : RV :=
 match addH call l h with
 | .ok v h' => .ok v h'
 | .bad _ _ => addS E l h
noncomputable def cloneH (_ : Call) (l : List V) (h : H) : RV :=
 match l with
 | [.iface t (.map b)] => onMapS h b fun es bs clk => .ok (.iface t (.map h.next)) (h.new (.map es bs clk))
 | _ => .bad "maps.clone" 0
noncomputable def strH (_ : Call) (l : List V) (h : H) : RV :=
 match l with
 | [.str n v] => bif Nat.ble n 281474976710656 then .ok (.str n v) h else .bad "Clone" 1
 | _ => .bad "Clone" 0
def oneH (f : Nat) (g : Call → List V → H → RV) (n : Nat) : Option (Call → List V → H → RV) := bif Nat.beq n f then some g else none
section
variable {P : Program} {G : Gh}
def HookOk (P : Program) (G : Gh) (f : Nat) (g : Call → List V → H → RV) : Prop :=
 ∀ call, CallOk P G call → ∀ (l : List V) (h : H) (v : V) (h' : H), g call l h = .ok v h' → ∀ (φ : Mp) (w : World) (ul : List Value), concL G φ l = some ul → HRel G φ h w → Free φ h.next h'.next →
  Gives P (Post G φ h w v h') ((callFunc f ul.toArray).run P w)
theorem oneH_ok {f : Nat} {g : Call → List V → H → RV} (hg : HookOk P G f g) : HooksOk P G (oneH f g) := by
 intro f' g' e
 unfold oneH at e
 rw [nbeq] at e
 by_cases hf : f' = f
 · rw [decide_eq_true hf] at e
   cases e
   subst hf
   exact hg
 · rw [decide_eq_false hf] at e
   cases e
theorem addH_ok {f : Nat} (hx : ExtOk P f add64Entry) : HookOk P G f addH := by
 intro call _ l h v h' e φ w ul hl r _
 unfold addH at e
 split at e
 · rename_i a b c
   obtain ⟨hc, e⟩ := bif_ok e
   rw [nble, decide_eq_true_eq] at hc
   cases e
   have hul : ul = [.int .u64 (a : Int), .int .u64 (b : Int), .int .u64 (c : Int)] := by
    simp [concL, conc] at hl
    exact hl.symm
   subst hul
   rw [hx.run]
   have := run_add64 (P := P) (a : Int) (b : Int) (c : Int) (by omega) (by omega) (by omega) (by omega) w
   rw [show (List.toArray [Value.int .u64 (a : Int), .int .u64 (b : Int), .int .u64 (c : Int)]) = #[.int .u64 (a : Int), .int .u64 (b : Int), .int .u64 (c : Int)] from rfl, this]
   refine ⟨φ, ?_, r, Frame.refl _ _ _ _, Ext.refl _ _ _⟩
   simp [conc, concL]
 · cases e
theorem addS_ok {E : Env} (ok : EnvOk E P G) {f : Nat} (hx : ExtOk P f add64Entry) : HookOk P G f fun _ l h => addS E l h := by
 intro call _ l h v h' e φ w ul hl r _
 dsimp only at e
 unfold addS at e
 split at e
 · rename_i x y c
   split at e
   · rename_i k1 z1 k2 z2 hk1 hz1 hk2 hz2
     obtain ⟨hc, e2⟩ := bif_ok e
     clear e
     simp only [Bool.and_eq_true, nble, decide_eq_true_eq] at hc
     obtain ⟨h1, h2, h3, h4, h5⟩ := hc
     have q1 := sameK_ok h1
     have q2 := sameK_ok h2
     subst q1 q2
     have p1 := known_ok ok h4
     have p2 := known_ok ok h5
     have hul : ul = [.int .u64 (z1.den G.σ), .int .u64 (z2.den G.σ), .int .u64 (c : Int)] := by
      have : concL G φ [x, y, .int .u64 (.ofNat c)] = some [.int .u64 (z1.den G.σ), .int .u64 (z2.den G.σ), .int .u64 (c : Int)] :=
       concL_cons.2 ⟨_, _, int_conc hk1 hz1, concL_cons.2 ⟨_, _, int_conc hk2 hz2, concL_cons.2 ⟨_, _, by rw [conc]; rfl, concL_nil, rfl⟩, rfl⟩, rfl⟩
      rw [this] at hl
      exact (Option.some.inj hl).symm
     subst hul
     rw [hx.run]
     have hrun := run_add64 (P := P) (z1.den G.σ) (z2.den G.σ) (c : Int) p1 p2 (by omega) (by omega) w
     rw [show (List.toArray [Value.int .u64 (z1.den G.σ), .int .u64 (z2.den G.σ), .int .u64 (c : Int)]) = #[.int .u64 (z1.den G.σ), .int .u64 (z2.den G.σ), .int .u64 (c : Int)] from rfl, hrun]
     have cst : ∀ n : Int, LF.den G.σ (n, []) = n := fun n => by show n + 0 = n; omega
     cases hk : known E (LF.sub (18446744073709551615 - Int.ofNat c, []) (LF.add z1 z2)) with
     | true =>
       rw [hk] at e2
       cases e2
       have h6 := known_ok ok hk
       rw [LF.den_sub, LF.den_add, cst] at h6
       have h7 : 18446744073709551615 - (c : Int) - (z1.den G.σ + z2.den G.σ) ≥ 0 := h6
       refine ⟨φ, ?_, r, Frame.refl _ _ _ _, Ext.refl _ _ _⟩
       have hv : conc G φ (ofLF .u64 (LF.add (LF.add z1 z2) (Int.ofNat c, []))) = some (.int .u64 ((z1.den G.σ + z2.den G.σ + (c : Int)) % 18446744073709551616)) := by
        rw [ofLF_conc, LF.den_add, LF.den_add, cst]
        rw [Int.emod_eq_of_lt (by omega) (by omega)]
        rfl
       have hz : (z1.den G.σ + z2.den G.σ + (c : Int)) / 18446744073709551616 = 0 := by omega
       rw [conc, hz]
       rw [concL_cons.2 ⟨_, _, hv, concL_cons.2 ⟨_, _, by rw [conc], concL_nil, rfl⟩, rfl⟩]
     | false =>
       rw [hk, cond_false] at e2
       obtain ⟨hk2, e3⟩ := bif_ok e2
       cases e3
       rw [Bool.and_eq_true] at hk2
       have h6 := known_ok ok hk2.1
       have h8 := known_ok ok hk2.2
       rw [LF.den_sub, LF.den_add, cst] at h6 h8
       have h7 : z1.den G.σ + z2.den G.σ - (18446744073709551616 - (c : Int)) ≥ 0 := h6
       have h9 : 36893488147419103231 - (c : Int) - (z1.den G.σ + z2.den G.σ) ≥ 0 := h8
       refine ⟨φ, ?_, r, Frame.refl _ _ _ _, Ext.refl _ _ _⟩
       have hm : (z1.den G.σ + z2.den G.σ + (c : Int)) % 18446744073709551616 = z1.den G.σ + z2.den G.σ + ((c : Int) - 18446744073709551616) := by omega
       have hv : conc G φ (ofLF .u64 (LF.add (LF.add z1 z2) (Int.ofNat c - 18446744073709551616, []))) = some (.int .u64 ((z1.den G.σ + z2.den G.σ + (c : Int)) % 18446744073709551616)) := by
        rw [ofLF_conc, LF.den_add, LF.den_add, cst, hm]
        rfl
       have hz : (z1.den G.σ + z2.den G.σ + (c : Int)) / 18446744073709551616 = 1 := by omega
       rw [conc, hz]
       rw [concL_cons.2 ⟨_, _, hv, concL_cons.2 ⟨_, _, by rw [conc], concL_nil, rfl⟩, rfl⟩]
   · cases e
 · cases e
theorem addE_ok {E : Env} (ok : EnvOk E P G) {f : Nat} (hx : ExtOk P f add64Entry) : HookOk P G f (addE E) := by
 intro call hc l h v h' e φ w ul hl r hf
 unfold addE at e
 cases hh : addH call l h with
 | ok v1 h1 =>
   rw [hh] at e
   cases e
   exact addH_ok hx call hc l h _ _ hh φ w ul hl r hf
 | bad _ _ =>
   rw [hh] at e
   exact addS_ok ok hx call hc l h _ _ e φ w ul hl r hf
theorem env_ok {bd : List (Int × Int)} {ge : List (Int × List (Nat × Int))} {nl : List NL} (hP : ProgOk P) (F : Facts G bd ge nl) : EnvOk (evE P (fun _ => none) bd ge []) P G :=
 evE_ok hP F.ends (geOk_at F.ge) (fun _ h => (nomatch h))
theorem cloneH_ok {f : Nat} (hx : ExtOk P f Extern.MapsClone.clone) : HookOk P G f cloneH := by
 intro call _ l h v h' e φ w ul hl r hf
 unfold cloneH at e
 split at e
 · rename_i t b
   obtain ⟨es, bs, c, hb, e⟩ := onMapS_ok e
   cases e
   obtain ⟨u, k, hu, hk, rfl⟩ := concL_cons.1 hl
   rw [concL_nil] at hk
   cases hk
   rw [conc] at hu
   cases hm : conc G φ (.map b) with
   | none => rw [hm] at hu; cases hu
   | some um =>
     rw [hm] at hu
     cases hu
     obtain ⟨lc, hlc, rfl⟩ := conc_map hm
     obtain ⟨El, hw, hE, hB⟩ := r.ents2 hb hlc
     have hfn : φ h.next = none := hf _ (Nat.le_refl _) (by simp [H.new])
     have hle := Mp.le_put (l := ⟨w.heap.size, 0, 0⟩) hfn
     obtain ⟨r', hfr, hxx⟩ := r.alloc hfn (x := .map es bs c) (o := .map El c) (sl := 0) ⟨El, heap_alloc_new w _, hB, by simpa using hE.1, fun i k v hi => by
      obtain ⟨e, h1, h2, h3⟩ := hE.2 i k v hi
      exact ⟨e, by simpa using h1, conc_mono hle h2, conc_mono hle h3⟩⟩
     rw [hx.run]
     have hrun : (Extern.MapsClone.clone #[.iface t (.map (some lc.blk))]).run P w = .ok (.iface t (.map (some w.heap.size))) (w.alloc (.map El c)) := by
      have e : Extern.MapsClone.clone #[.iface t (.map (some lc.blk))] = (getObj lc.blk >>= fun o => match o with
       | .map entries clock => (newObj (.map entries clock) >>= fun n => pure (.iface t (.map (some n))))
       | _ => stuck "maps.clone: a map expected") := rfl
      rw [e]
      simp [getObj_at hw]
     rw [show (List.toArray [Value.iface t (.map (some lc.blk))]) = #[.iface t (.map (some lc.blk))] from rfl, hrun]
     refine ⟨_, ?_, r', hfr, hxx⟩
     rw [conc, conc, Mp.put_self]
 · cases e
theorem strH_ok (hm : ¬ G.mono) {f : Nat} {fn : Func} {c : Code} (hP : ProgOk P) (hf : P.funcs[f]? = some fn) (hb : fn.body = some c) (hC : ∀ (s : ByteArray) (w : World), s.size ≤ 281474976710656 → Calls P f #[.string s] w fun e w' => e = .returned (.string s) ∧ Below w.heap.size w w') : HookOk P G f strH := by
 intro call _ l h v h' e φ w ul hl r _
 unfold strH at e
 split at e
 · rename_i n x
   obtain ⟨hc, e⟩ := bif_ok e
   rw [nble, decide_eq_true_eq] at hc
   cases e
   have hul : ul = [.string ⟨(strL n x).toArray⟩] := by
    simp [concL, conc] at hl
    exact hl.symm
   subst hul
   rw [run_enter hf (prog_name hP hf) hb]
   refine (hC ⟨(strL n x).toArray⟩ w (by rw [strL_size]; exact hc)).mono ?_
   rintro e w' ⟨rfl, hB⟩
   exact ⟨_, rfl, below_post hm r hB (by rw [conc])⟩
 · cases e
end
end Go.Proofs.YtmfmjhklajmhoaaGreat.Gv
namespace Go.Proofs.YtmfmjhklajmhoaaGreat.Gv
open Go Go.RowKit
noncomputable def mulC (E : Env) (c : Int) (z : LF) (h : H) : RV :=
 bif decide (0 ≤ c) && (decide (c ≤ 18446744073709551615) && (known E z && (known E (LF.sub (18446744073709551615, []) z) && known E (LF.sub (18446744073709551615, []) (c * z.1, scale c z.2))))) then .ok (.tuple [.int .u64 0, ofLF .u64 (c * z.1, scale c z.2)]) h else .bad "mul64" 1
noncomputable def mulE (E : Env) (_ : Call) (l : List V) (h : H) : RV :=
 match l with
 | [.int .u64 (.ofNat a), .int .u64 (.ofNat b)] => bif Nat.blt a 18446744073709551616 && Nat.blt b 18446744073709551616 then .ok (.tuple [.int .u64 (.ofNat (a * b / 18446744073709551616)), .int .u64 (.ofNat (a * b % 18446744073709551616))]) h else .bad "mul64" 0
 | [x, y] => (match kOf x, asLF x, kOf y, asLF y with
   | some k1, some z1, some k2, some z2 => bif sameK k1 .u64 && sameK k2 .u64 then (match z1.2, z2.2 with
     | [], _ => mulC E z1.1 z2 h
     | _, [] => mulC E z2.1 z1 h
     | _, _ => .bad "mul64" 4) else .bad "mul64" 2
   | _, _, _, _ => .bad "mul64" 3)
 | _ => .bad "mul64" 5
def MulOk (P : Program) (f : Nat) : Prop := ∀ (x y : Nat), x < 18446744073709551616 → y < 18446744073709551616 → ∀ w : World, Calls P f #[.int .u64 x, .int .u64 y] w fun e w' =>
 e = .returned (.tuple #[.int .u64 ((x * y / 18446744073709551616 : Nat) : Int), .int .u64 ((x * y % 18446744073709551616 : Nat) : Int)]) ∧ w' = w
section
variable {P : Program} {G : Gh} {φ : Mp} {h h' : H} {w : World} {v : V}
theorem mulC_ok {E : Env} (ok : EnvOk E P G) {c : Int} {z : LF} (e : mulC E c z h = .ok v h') : ∃ a b : Nat, (a : Int) = c ∧ (b : Int) = z.den G.σ ∧ a < 18446744073709551616 ∧ b < 18446744073709551616 ∧ h' = h ∧
 conc G φ v = some (.tuple #[.int .u64 ((a * b / 18446744073709551616 : Nat) : Int), .int .u64 ((a * b % 18446744073709551616 : Nat) : Int)]) := by
 obtain ⟨hc, e2⟩ := bif_ok e
 cases e2
 simp only [Bool.and_eq_true, decide_eq_true_eq] at hc
 obtain ⟨h1, h2, h3, h4, h5⟩ := hc
 have p1 := known_ok ok h3
 have p2 := known_ok ok h4
 have p3 := known_ok ok h5
 have cst : ∀ n : Int, LF.den G.σ (n, []) = n := fun n => by show n + 0 = n; omega
 have hm : LF.den G.σ (c * z.1, scale c z.2) = c * z.den G.σ := by
  show c * z.1 + den G.σ (scale c z.2) = c * (z.1 + den G.σ z.2)
  rw [den_scale, Int.mul_add]
 rw [LF.den_sub, cst] at p2 p3
 rw [hm] at p3
 obtain ⟨a, ha⟩ := Int.eq_ofNat_of_zero_le h1
 obtain ⟨b, hb⟩ := Int.eq_ofNat_of_zero_le p1
 refine ⟨a, b, ha.symm, hb.symm, by omega, by omega, rfl, ?_⟩
 have hab : ((a * b : Nat) : Int) = c * z.den G.σ := by rw [Int.natCast_mul, ← ha, ← hb]
 have hlt : a * b < 18446744073709551616 := by omega
 rw [Nat.div_eq_of_lt hlt, Nat.mod_eq_of_lt hlt]
 have hv : conc G φ (ofLF .u64 (c * z.1, scale c z.2)) = some (.int .u64 ((a * b : Nat) : Int)) := by rw [ofLF_conc, hm, hab]
 rw [conc, concL_cons.2 ⟨_, _, by rw [conc], concL_cons.2 ⟨_, _, hv, concL_nil, rfl⟩, rfl⟩]
 rfl
theorem mulE_ok {E : Env} (ok : EnvOk E P G) (hP : ProgOk P) {f : Nat} {fn : Func} {c : Code} (hf : P.funcs[f]? = some fn) (hb : fn.body = some c) (hM : MulOk P f) : HookOk P G f (mulE E) := by
 intro call _ l h v h' e φ w ul hl r _
 have fin : ∀ (a b : Nat), a < 18446744073709551616 → b < 18446744073709551616 → ul = [.int .u64 (a : Int), .int .u64 (b : Int)] → h' = h →
  conc G φ v = some (.tuple #[.int .u64 ((a * b / 18446744073709551616 : Nat) : Int), .int .u64 ((a * b % 18446744073709551616 : Nat) : Int)]) → Gives P (Post G φ h w v h') ((callFunc f ul.toArray).run P w) := by
  intro a b ha hb' hul hh hv
  subst hul hh
  rw [run_enter hf (prog_name hP hf) hb]
  refine (hM a b ha hb' w).mono ?_
  rintro e w' ⟨rfl, rfl⟩
  exact ⟨_, rfl, φ, hv, r, Frame.refl _ _ _ _, Ext.refl _ _ _⟩
 unfold mulE at e
 split at e
 · rename_i a b
   obtain ⟨hc, e2⟩ := bif_ok e
   cases e2
   rw [Bool.and_eq_true, nblt, nblt, decide_eq_true_eq, decide_eq_true_eq] at hc
   refine fin a b hc.1 hc.2 ?_ rfl ?_
   · simp [concL, conc] at hl
     exact hl.symm
   · simp [concL, conc]
 · rename_i x y _
   split at e
   · rename_i k1 z1 k2 z2 hk1 hz1 hk2 hz2
     obtain ⟨hc, e2⟩ := bif_ok e
     clear e
     rw [Bool.and_eq_true] at hc
     have q1 := sameK_ok hc.1
     have q2 := sameK_ok hc.2
     subst q1 q2
     have hul : ul = [.int .u64 (z1.den G.σ), .int .u64 (z2.den G.σ)] := by
      have : concL G φ [x, y] = some [.int .u64 (z1.den G.σ), .int .u64 (z2.den G.σ)] :=
       concL_cons.2 ⟨_, _, int_conc hk1 hz1, concL_cons.2 ⟨_, _, int_conc hk2 hz2, concL_nil, rfl⟩, rfl⟩
      rw [this] at hl
      exact (Option.some.inj hl).symm
     have cst : ∀ n : Int, LF.den G.σ (n, []) = n := fun n => by show n + 0 = n; omega
     obtain ⟨n1, l1⟩ := z1
     obtain ⟨n2, l2⟩ := z2
     cases l1 with
     | nil =>
       obtain ⟨a, b, h1, h2, h3, h4, h5, h6⟩ := mulC_ok (φ := φ) ok (show mulC E n1 (n2, l2) h = .ok v h' from e2)
       exact fin a b h3 h4 (by rw [hul, cst, h1, h2]) h5 h6
     | cons p l1 =>
       cases l2 with
       | nil =>
         obtain ⟨a, b, h1, h2, h3, h4, h5, h6⟩ := mulC_ok (φ := φ) ok (show mulC E n2 (n1, p :: l1) h = .ok v h' from e2)
         exact fin b a h4 h3 (by rw [hul, cst, h1, h2]) h5 (by rw [Nat.mul_comm b a]; exact h6)
       | cons q l2 => cases e2
   · cases e
 · cases e
end
end Go.Proofs.YtmfmjhklajmhoaaGreat.Gv
