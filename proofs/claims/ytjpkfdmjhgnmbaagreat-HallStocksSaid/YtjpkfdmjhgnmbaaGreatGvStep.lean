/- One operation's run, calls among them. -/
import Derived.Test.YtjpkfdmjhgnmbaaGreatGvOps15
namespace Go.Proofs.YtjpkfdmjhgnmbaaGreat.Gv
open Go

/-- What a step leaves behind. -/
def Post (G : Gh) (φ : Mp) (h : H) (w : World) (v : V) (h' : H) (u : Value) (w' : World) : Prop :=
  ∃ φ', conc G φ' v = some u ∧ HRel G φ' h' w' ∧ Frame φ h w w' ∧ Ext φ φ' h h' w
/-- A run hands back what R says, at once or out of a function that it enters. -/
def Gives (P : Program) (R : Value → World → Prop) : Result Next → Prop
  | .ok (.value u) w' => R u w'
  | .ok .skip w' => R undef w'
  | .ok (.enter f args) w' => Calls P f args w' fun e w'' => ∃ u, e = .returned u ∧ R u w''
  | _ => False

section
variable {E : Env} {P : Program} {G : Gh} {φ : Mp} {h h' : H} {w : World} {s : Fr} {a : Act} {v : V} {o : Oper}
theorem Gives.mono {R R' : Value → World → Prop} (k : ∀ u w', R u w' → R' u w') {r : Result Next} (g : Gives P R r) : Gives P R' r := by
  cases r with
  | ok n w' =>
    cases n <;> first
      | exact k _ _ g
      | exact Calls.mono g (fun e w'' ⟨u, he, hR⟩ => ⟨u, he, k _ _ hR⟩)
      | exact g
  | halt x w' => exact g
theorem Did.gives {r : Result Next} (d : Did G φ h w v h' r) : Gives P (Post G φ h w v h') r := by
  obtain ⟨φ', u, w', h1, rest⟩ := d
  rcases h1 with h1 | ⟨h1, h2⟩
  · rw [h1]; exact ⟨φ', rest⟩
  · rw [h1]; subst h2; exact ⟨φ', rest⟩
theorem Gives.wp {R : Value → World → Prop} {K : Act → World → Prop} {Q : Exit → Act → World → Prop} (g : Gives P R ((execOp a.eval o).run P w)) (k : ∀ u w', R u w' → K (a.put o.dst u) w') : o.wp P a w K Q := by
  unfold Oper.wp
  generalize (execOp a.eval o).run P w = r at g
  cases r with
  | ok n w' =>
    cases n <;> first
      | exact k _ _ g
      | (refine Calls.mono g ?_; rintro e w'' ⟨u, rfl, hR⟩; exact k _ _ hR)
      | exact g.elim
  | halt x w' => exact g.elim

/-- What is asked of the runs of calls. -/
def CallOk (P : Program) (G : Gh) (call : Call) : Prop :=
  ∀ (f : Nat) (l : List V) (h : H) (v : V) (h' : H), call f l h = .ok v h' → ∀ (φ : Mp) (w : World) (ul : List Value), concL G φ l = some ul → HRel G φ h w → Free φ h.next h'.next →
    Gives P (Post G φ h w v h') ((callFunc f ul.toArray).run P w)

theorem conc_func' {fn : Fn} {f c : List V} {u : Value} (e : conc G φ (.func fn f c) = some u) : ∃ uf uc, concL G φ f = some uf ∧ concL G φ c = some uc ∧ u = .func fn uf.toArray uc.toArray := by
  rw [conc] at e
  cases hf : concL G φ f with
  | none => rw [hf] at e; cases e
  | some uf =>
    cases hc : concL G φ c with
    | none => rw [hf, hc] at e; cases e
    | some uc => rw [hf, hc] at e; cases e; exact ⟨uf, uc, rfl, rfl, rfl⟩

theorem builtF_ok (ok : EnvOk E P G) {b : Builtin} {ts : List Nat} {ty : TypeId} {cs : Array Bool} {l : List V} {ul : List Value} (hl : concL G φ l = some ul) (r : HRel G φ h w) (hf : Free φ h.next h'.next)
    (e : (builtF E b ts).v l h = .ok v h') : Did G φ h w v h' ((builtin b ts.toArray ty cs ul.toArray).run P w) := by
  cases b with
  | len => exact len_ok ok hl r e
  | cap => exact cap_ok ok hl r e
  | max => exact max_ok ok hl r e
  | min => exact min_ok ok hl r e
  | append => exact append_ok ok hl r hf e
  | copy => exact copy_ok ok hl r e
  | delete => exact delete_ok ok hl r e
  | clear => exact clear_ok ok hl r e
  | _ => cases ts <;> cases e

theorem call_ok (ok : EnvOk E P G) {call : Call} (ck : CallOk P G call) {c : Go.Call} (ho : o.op = .call c) (hc : c.operands.toList.all okOpn = true) (T : TRel G φ s a.tmps) (r : HRel G φ h w) (hf : Free φ h.next h'.next)
    (e : (stepG E o).v call s h = .ok v h') : Gives P (Post G φ h w v h') ((execOp a.eval o).run P w) := by
  unfold stepG at e
  rw [ho] at e
  simp only at e
  simp only [execOp, ho, resolve]
  cases hcal : c.callee with
  | value f =>
    rw [hcal] at e
    simp only [Box.use_v] at e
    have hops : (okOpn f && c.args.toList.all okOpn) = true := by
      rw [Go.Call.operands, hcal] at hc
      simpa using hc
    rw [Bool.and_eq_true] at hops
    have hfu := opn_ok T hops.1
    have hal := opns_ok T hops.2
    split at e
    · rename_i g first captured hg
      rw [hg] at hfu
      obtain ⟨uf, uc, h1, h2, h3⟩ := conc_func' hfu
      simp only [Deferred.ofValue, h3]
      have := ck g _ h v h' e φ w _ (concL_append (concL_append h1 hal) h2) r hf
      have he : (uf ++ List.map a.eval c.args.toList ++ uc).toArray = uf.toArray ++ c.args.map a.eval ++ uc.toArray := by
        apply Array.toList_inj.1
        simp
      rw [he] at this
      simpa [invoke] using this
    · cases e
  | builtin b =>
    rw [hcal] at e
    simp only [Box.use_v] at e
    have hops : c.args.toList.all okOpn = true := by
      rw [Go.Call.operands, hcal] at hc
      simpa using hc
    have hal := opns_ok T hops
    have he : c.args.map a.eval = (List.map a.eval c.args.toList).toArray := by
      apply Array.toList_inj.1
      simp
    have ht : c.argTypes = c.argTypes.toList.toArray := by simp
    rw [he, ht]
    simp only [invoke, Sem.run_bind, Sem.run_pure]
    exact (builtF_ok (P := P) ok hal r hf e).gives
  | invoke x m => rw [hcal] at e; cases e
end
end Go.Proofs.YtjpkfdmjhgnmbaaGreat.Gv
