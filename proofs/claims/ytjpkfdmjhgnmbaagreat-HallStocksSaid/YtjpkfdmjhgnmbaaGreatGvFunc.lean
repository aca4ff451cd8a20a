/- A function's run. -/
import Derived.Test.YtjpkfdmjhgnmbaaGreatGvCode
namespace Go.Proofs.YtjpkfdmjhgnmbaaGreat.Gv
open Go

/-- What a run is told of the program's functions, and of what is hooked in. -/
structure FnOk (E : Env) (P : Program) (G : Gh) : Prop where
  fn : ∀ (f : Nat) fn, E.fn.get f = some fn → P.funcs[f]? = some fn ∧ (fn.name == "runtime.NumGoroutine") = false
  hk : ∀ (f : Nat) g, E.hk f = some g → ∀ call, CallOk P G call → ∀ (l : List V) (h : H) (v : V) (h' : H), g call l h = .ok v h' → ∀ (φ : Mp) (w : World) (ul : List Value), concL G φ l = some ul → HRel G φ h w → Free φ h.next h'.next →
    Gives P (Post G φ h w v h') ((callFunc f ul.toArray).run P w)
  md : P.follows .mixedOrders = true

section
variable {E : Env} {P : Program} {G : Gh} {φ : Mp} {h h' : H} {w : World} {s : Fr} {a : Act} {v : V} {o : Oper}
theorem region_ok (ok : EnvOk E P G) {call : Call} (ck : CallOk P G call) (hm : P.follows .mixedOrders = true) {n id : Nat} {ops : Array Oper} {draw : Bool} : CodeOk E P G call n (.region id ops draw) := by
  intro s h e s' h' A
  cases draw with
  | false =>
    have hA : Arr (match (opsF E n ops.toList ops.toList).v call s h with
      | .ok s h => .nx s h
      | .bad w n => .bad w n) e s' h' := by
      have : (codeF E n (.region id ops false)) = (opsF E n ops.toList ops.toList).use fun f => ⟨fun call s h => match f call s h with
        | .ok s h => .nx s h
        | .bad w n => .bad w n⟩ := rfl
      rw [this] at A
      simpa only [Box.use_v] using A
    split at hA
    · rename_i s1 h1 hr
      obtain ⟨rfl, rfl, rfl⟩ := Arr.nx hA
      refine ⟨opsF_next _ _ _ _ _ hr, fun φ a w T r hf hn => ?_⟩
      subst hn
      exact regT_ok ok ck hr T r hf fun a' w' L => ⟨rfl, L⟩
    · exact (Arr.bad hA).elim
  | true =>
    have hA : Arr (match (drawF E n ops.toList).v call s h with
      | .ok s h => .nx s h
      | .bad w n => .bad w n) e s' h' := by
      have : (codeF E n (.region id ops true)) = (drawF E n ops.toList).use fun f => ⟨fun call s h => match f call s h with
        | .ok s h => .nx s h
        | .bad w n => .bad w n⟩ := rfl
      rw [this] at A
      simpa only [Box.use_v] using A
    split at hA
    · rename_i s1 h1 hr
      obtain ⟨rfl, rfl, rfl⟩ := Arr.nx hA
      refine ⟨drawF_next hr, fun φ a w T r hf hn => ?_⟩
      subst hn
      exact draw_ok ok ck hm hr T r hf fun a' w' L => ⟨rfl, L⟩
    · exact (Arr.bad hA).elim

theorem code_ok (ok : EnvOk E P G) {call : Call} (ck : CallOk P G call) (hm : P.follows .mixedOrders = true) {n : Nat} : ∀ c : Code, CodeOk E P G call n c
  | .skip => fun s h e s' h' A => by
    obtain ⟨rfl, rfl, rfl⟩ := Arr.nx (show Arr (.nx s h) e s' h' from A)
    exact ⟨Nat.le_refl _, fun φ a w T r hf hn => wp_skip ⟨rfl, Left.refl T r⟩⟩
  | .region id ops draw => region_ok ok ck hm
  | .seq x y => seq_ok (code_ok ok ck hm x) (code_ok ok ck hm y)
  | .cond c x y => cond_ok (code_ok ok ck hm x) (code_ok ok ck hm y)
  | .block id x => block_ok (code_ok ok ck hm x)
  | .loop x => loop_ok (code_ok ok ck hm x)
  | .exit id => fun s h e s' h' A => by
    obtain ⟨rfl, rfl, rfl⟩ := Arr.ex (show Arr (.ex id s h) e s' h' from A)
    exact ⟨Nat.le_refl _, fun φ a w T r hf hn => wp_exit ⟨rfl, Left.refl T r⟩⟩
  | .label l => fun s h e s' h' A => by
    obtain ⟨rfl, rfl, rfl⟩ := Arr.nx (show Arr (.nx s h) e s' h' from A)
    exact ⟨Nat.le_refl _, fun φ a w T r hf hn => wp_label ⟨rfl, Left.refl T r⟩⟩
  | .ret => fun s h e s' h' A => by
    obtain ⟨rfl, rfl, rfl⟩ := Arr.rt (show Arr (.rt s h) e s' h' from A)
    exact ⟨Nat.le_refl _, fun φ a w T r hf hn => wp_ret ⟨rfl, Left.refl T r⟩⟩
  | .rangeFunc .. => fun s h e s' h' A => (Arr.bad (show Arr (.bad "rangeFunc" 0) e s' h' from A)).elim
  | .scope .. => fun s h e s' h' A => (Arr.bad (show Arr (.bad "scope" 0) e s' h' from A)).elim
  | .goto _ => fun s h e s' h' A => (Arr.bad (show Arr (.bad "goto" 0) e s' h' from A)).elim
  | .refuse _ => fun s h e s' h' A => (Arr.bad (show Arr (.bad "refuse" 0) e s' h' from A)).elim

/-! ### results -/
def getRes (tmps : Array Value) : ResultVar → Sem Value
  | .tmp t => pure (tmps.getD t undef)
  | .cell a t => do loadVar t (← asAddr (tmps.getD a undef))
theorem resOne_ok (ok : EnvOk E P G) {x : ResultVar} (T : TRel G φ s a.tmps) (r : HRel G φ h w) (e : (resOne E x).v s h = .ok v h') : h' = h ∧ ∃ u, (getRes a.tmps x).run P w = .ok u w ∧ conc G φ v = some u := by
  cases x with
  | tmp t =>
    unfold resOne at e
    simp only at e
    cases ht : Nat.blt t 4096 with
    | false => rw [ht] at e; cases e
    | true =>
      rw [ht, cond_true, Box.use_v] at e
      rw [nblt, decide_eq_true_eq] at ht
      cases e
      exact ⟨rfl, _, by simp [getRes], T t ht⟩
  | cell x t =>
    unfold resOne at e
    simp only [ok.ty] at e
    cases ht : (Nat.blt x 4096 && (mkTI P t).has) with
    | false => rw [ht] at e; cases e
    | true =>
      rw [ht, cond_true, Box.use_v, Box.use_v] at e
      rw [Bool.and_eq_true, nblt, decide_eq_true_eq] at ht
      obtain ⟨b, o, hb, e1⟩ := onPtr_ok e
      clear e
      have hT := T x ht.1
      rw [hb] at hT
      obtain ⟨l, hl, hu⟩ := conc_ptr hT
      obtain ⟨rfl, u, hrun, hc⟩ := loadF_ok r ht.2 hl e1
      refine ⟨rfl, u, ?_, hc⟩
      simp only [getRes, hu]
      simpa [asAddr] using hrun
theorem resL_cons (x : ResultVar) (l : List ResultVar) : resL E (x :: l) = (resL E l).use (fun g => (resOne E x).use fun f => ⟨fun s h k => match f s h with
    | .ok v _ => g s h fun l => k (v :: l)
    | .bad w n => .bad w n⟩ : (Fr → H → (List V → RV) → RV) → Box (Fr → H → (List V → RV) → RV)) := rfl
theorem resL_ok (ok : EnvOk E P G) (T : TRel G φ s a.tmps) (r : HRel G φ h w) : ∀ (l : List ResultVar) (k : List V → RV), (resL E l).v s h k = .ok v h' →
    ∃ vs us, k vs = .ok v h' ∧ concL G φ vs = some us ∧ us.length = l.length ∧ (l.mapM (getRes a.tmps)).run P w = .ok us w
  | [], k, e => ⟨[], [], e, concL_nil, rfl, by simp⟩
  | x :: l, k, e => by
    rw [resL_cons, Box.use_v, Box.use_v] at e
    dsimp only at e
    split at e
    · rename_i v1 h1 hr
      obtain ⟨_, u, hu, hc⟩ := resOne_ok ok T r hr
      obtain ⟨vs, us, h1, h2, h3, h4⟩ := resL_ok ok T r l _ e
      refine ⟨v1 :: vs, u :: us, h1, concL_cons.2 ⟨u, us, hc, h2, rfl⟩, by simp [h3], ?_⟩
      rw [List.mapM_cons]
      simp [hu, h4]
    · cases e
theorem res_ok (ok : EnvOk E P G) {fn : Func} (T : TRel G φ s a.tmps) (r : HRel G φ h w) (e : (resF E fn.results.toList).v s h = .ok v h') :
    h' = h ∧ ∃ u, (results fn a.tmps).run P w = .ok u w ∧ conc G φ v = some u := by
  have hres : results fn a.tmps = (do
      let vs ← fn.results.mapM (getRes a.tmps)
      pure (if h : vs.size = 1 then vs[0] else .tuple vs)) := by
    unfold results
    congr 1
  rw [hres, Array.mapM_eq_mapM_toList]
  unfold resF at e
  split at e
  · rename_i x hx
    obtain ⟨rfl, u, hu, hc⟩ := resOne_ok ok T r e
    refine ⟨rfl, u, ?_, hc⟩
    rw [hx]
    simp [hu]
  · rename_i l hl
    rw [Box.use_v] at e
    dsimp only at e
    obtain ⟨vs, us, h1, h2, h3, h4⟩ := resL_ok ok T r _ _ e
    cases h1
    refine ⟨rfl, .tuple us.toArray, ?_, by rw [conc, h2]⟩
    have hlen : us.length ≠ 1 := by
      intro hh
      rw [hh] at h3
      cases hL : fn.results.toList with
      | nil => rw [hL] at h3; cases h3
      | cons x t =>
        rw [hL] at h3
        simp at h3
        have : t = [] := List.eq_nil_of_length_eq_zero (by simpa using h3)
        subst this
        exact hl x hL
    simp [h4, hlen]
end
end Go.Proofs.YtjpkfdmjhgnmbaaGreat.Gv
