/- Code's run, and calls. -/
import Derived.Test.YtjpkfdmjhgnmbaaGreatGvDraw
import Derived.LoopN
namespace Go.Proofs.YtjpkfdmjhgnmbaaGreat.Gv
open Go

/-- How a run of code ends. -/
def Arr (x : RX) (e : Exit) (s' : Fr) (h' : H) : Prop :=
  (x = .nx s' h' ∧ e = .normal) ∨ (∃ i, x = .ex i s' h' ∧ e = .exit i) ∨ (x = .rt s' h' ∧ e = .ret)

section
variable {E : Env} {P : Program} {G : Gh} {φ : Mp} {h h' : H} {w : World} {s : Fr} {a : Act} {v : V} {o : Oper}
theorem Arr.nx {s1 : Fr} {h1 : H} {e : Exit} {s' : Fr} (x : Arr (.nx s1 h1) e s' h') : s1 = s' ∧ h1 = h' ∧ e = .normal := by
  rcases x with ⟨x, rfl⟩ | ⟨i, x, rfl⟩ | ⟨x, rfl⟩ <;> cases x
  exact ⟨rfl, rfl, rfl⟩
theorem Arr.ex {i : Nat} {s1 : Fr} {h1 : H} {e : Exit} {s' : Fr} (x : Arr (.ex i s1 h1) e s' h') : s1 = s' ∧ h1 = h' ∧ e = .exit i := by
  rcases x with ⟨x, rfl⟩ | ⟨j, x, rfl⟩ | ⟨x, rfl⟩ <;> cases x
  exact ⟨rfl, rfl, rfl⟩
theorem Arr.rt {s1 : Fr} {h1 : H} {e : Exit} {s' : Fr} (x : Arr (.rt s1 h1) e s' h') : s1 = s' ∧ h1 = h' ∧ e = .ret := by
  rcases x with ⟨x, rfl⟩ | ⟨j, x, rfl⟩ | ⟨x, rfl⟩ <;> cases x
  exact ⟨rfl, rfl, rfl⟩
theorem Arr.bad {m : String} {i : Nat} {e : Exit} {s' : Fr} (x : Arr (.bad m i) e s' h') : False := by
  rcases x with ⟨x, rfl⟩ | ⟨j, x, rfl⟩ | ⟨x, rfl⟩ <;> cases x

/-- What a piece of code is asked to do. -/
def CodeOk (E : Env) (P : Program) (G : Gh) (call : Call) (n : Nat) (c : Code) : Prop :=
  ∀ (s : Fr) (h : H) (e : Exit) (s' : Fr) (h' : H), Arr ((codeF E n c).v call s h) e s' h' → h.next ≤ h'.next ∧
    ∀ (φ : Mp) (a : Act) (w : World), TRel G φ s a.tmps → HRel G φ h w → Free φ h.next h'.next → a.tmps.size = n →
      c.wp P (fun e' a' w' => e' = e ∧ Left G φ h w a s' h' a' w') a w

theorem loopR_succ (f : Call → Fr → H → RX) (call : Call) (k : Nat) (s : Fr) (h : H) : loopR f call (k + 1) s h = (match f call s h with
      | .nx s h => loopR f call k s h
      | r => r) := rfl

theorem seq_ok {call : Call} {n : Nat} {x y : Code} (hx : CodeOk E P G call n x) (hy : CodeOk E P G call n y) : CodeOk E P G call n (.seq x y) := by
  intro s h e s' h' A
  have hA : Arr (match (codeF E n x).v call s h with
      | .nx s h => (codeF E n y).v call s h
      | r => r) e s' h' := by
    have : (codeF E n (.seq x y)) = (codeF E n x).use fun a => (codeF E n y).use fun b => ⟨fun call s h => match a call s h with
      | .nx s h => b call s h
      | r => r⟩ := rfl
    rw [this] at A
    simpa only [Box.use_v] using A
  clear A
  cases hr : (codeF E n x).v call s h with
  | nx s1 h1 =>
    rw [hr] at hA
    obtain ⟨n1, k1⟩ := hx s h .normal s1 h1 (.inl ⟨hr, rfl⟩)
    obtain ⟨n2, k2⟩ := hy s1 h1 e s' h' hA
    refine ⟨Nat.le_trans n1 n2, fun φ a w T r hf hn => wp_seq ?_⟩
    refine wp_mono (k1 φ a w T r (hf.left n2) hn) ?_
    rintro e1 a1 w1 ⟨rfl, φ1, T1, r1, f1, x1, hd, hz⟩
    refine wp_mono (k2 φ1 a1 w1 T1 r1 (hf.right x1) (hz.trans hn)) ?_
    rintro e2 a2 w2 ⟨rfl, L⟩
    exact ⟨rfl, L.trans f1 x1 hd hz⟩
  | ex i s1 h1 =>
    rw [hr] at hA
    obtain ⟨n1, k1⟩ := hx s h e s' h' (by rw [hr]; exact hA)
    refine ⟨n1, fun φ a w T r hf hn => wp_seq ?_⟩
    refine wp_mono (k1 φ a w T r hf hn) ?_
    rintro e1 a1 w1 ⟨rfl, L⟩
    obtain ⟨_, _, rfl⟩ := Arr.ex hA
    exact ⟨rfl, L⟩
  | rt s1 h1 =>
    rw [hr] at hA
    obtain ⟨n1, k1⟩ := hx s h e s' h' (by rw [hr]; exact hA)
    refine ⟨n1, fun φ a w T r hf hn => wp_seq ?_⟩
    refine wp_mono (k1 φ a w T r hf hn) ?_
    rintro e1 a1 w1 ⟨rfl, L⟩
    obtain ⟨_, _, rfl⟩ := Arr.rt hA
    exact ⟨rfl, L⟩
  | bad m i => rw [hr] at hA; exact (Arr.bad hA).elim

theorem cond_ok {call : Call} {n : Nat} {c : Operand} {x y : Code} (hx : CodeOk E P G call n x) (hy : CodeOk E P G call n y) : CodeOk E P G call n (.cond c x y) := by
  intro s h e s' h' A
  have hc : okOpn c = true ∧ Arr (match (opn c).v s with
      | .bool true => (codeF E n x).v call s h
      | .bool false => (codeF E n y).v call s h
      | _ => .bad "cond" 0) e s' h' := by
    have : (codeF E n (.cond c x y)) = bif okOpn c then (opn c).use fun f => (codeF E n x).use fun a => (codeF E n y).use fun b => ⟨fun call s h => match f s with
      | .bool true => a call s h
      | .bool false => b call s h
      | _ => .bad "cond" 0⟩ else ⟨fun _ _ _ => .bad "cond" 1⟩ := rfl
    rw [this] at A
    cases hc : okOpn c with
    | false => rw [hc] at A; exact (Arr.bad A).elim
    | true =>
      rw [hc, cond_true] at A
      refine ⟨rfl, ?_⟩
      simpa only [Box.use_v] using A
  clear A
  obtain ⟨hc, hA⟩ := hc
  split at hA
  · rename_i hv
    obtain ⟨n1, k1⟩ := hx s h e s' h' hA
    refine ⟨n1, fun φ a w T r hf hn => wp_cond_true ?_ (k1 φ a w T r hf hn)⟩
    have := opn_ok T hc
    rw [hv, conc] at this
    exact (Option.some.inj this).symm
  · rename_i hv
    obtain ⟨n1, k1⟩ := hy s h e s' h' hA
    refine ⟨n1, fun φ a w T r hf hn => wp_cond_false ?_ (k1 φ a w T r hf hn)⟩
    have := opn_ok T hc
    rw [hv, conc] at this
    exact (Option.some.inj this).symm
  · exact (Arr.bad hA).elim

theorem block_ok {call : Call} {n id : Nat} {x : Code} (hx : CodeOk E P G call n x) : CodeOk E P G call n (.block id x) := by
  intro s h e s' h' A
  have hA : Arr (match (codeF E n x).v call s h with
      | .ex j s h => bif Nat.beq j id then .nx s h else .ex j s h
      | r => r) e s' h' := by
    have : (codeF E n (.block id x)) = (codeF E n x).use fun b => ⟨fun call s h => match b call s h with
      | .ex j s h => bif Nat.beq j id then .nx s h else .ex j s h
      | r => r⟩ := rfl
    rw [this] at A
    simpa only [Box.use_v] using A
  clear A
  cases hr : (codeF E n x).v call s h with
  | nx s1 h1 =>
    rw [hr] at hA
    obtain ⟨rfl, rfl, rfl⟩ := Arr.nx hA
    obtain ⟨n1, k1⟩ := hx s h .normal s1 h1 (.inl ⟨hr, rfl⟩)
    refine ⟨n1, fun φ a w T r hf hn => wp_block (wp_mono (k1 φ a w T r hf hn) ?_)⟩
    rintro e1 a1 w1 ⟨rfl, L⟩
    exact ⟨rfl, L⟩
  | ex i s1 h1 =>
    rw [hr] at hA
    obtain ⟨n1, k1⟩ := hx s h (.exit i) s1 h1 (.inr (.inl ⟨i, hr, rfl⟩))
    simp only [nbeq] at hA
    by_cases hi : i = id
    · rw [decide_eq_true hi, cond_true] at hA
      obtain ⟨rfl, rfl, rfl⟩ := Arr.nx hA
      refine ⟨n1, fun φ a w T r hf hn => wp_block (wp_mono (k1 φ a w T r hf hn) ?_)⟩
      rintro e1 a1 w1 ⟨rfl, L⟩
      show if i = id then _ else _
      rw [if_pos hi]
      exact ⟨rfl, L⟩
    · rw [decide_eq_false hi, cond_false] at hA
      obtain ⟨rfl, rfl, rfl⟩ := Arr.ex hA
      refine ⟨n1, fun φ a w T r hf hn => wp_block (wp_mono (k1 φ a w T r hf hn) ?_)⟩
      rintro e1 a1 w1 ⟨rfl, L⟩
      show if i = id then _ else _
      rw [if_neg hi]
      exact ⟨rfl, L⟩
  | rt s1 h1 =>
    rw [hr] at hA
    obtain ⟨rfl, rfl, rfl⟩ := Arr.rt hA
    obtain ⟨n1, k1⟩ := hx s h .ret s1 h1 (.inr (.inr ⟨hr, rfl⟩))
    refine ⟨n1, fun φ a w T r hf hn => wp_block (wp_mono (k1 φ a w T r hf hn) ?_)⟩
    rintro e1 a1 w1 ⟨rfl, L⟩
    exact ⟨rfl, L⟩
  | bad m i => rw [hr] at hA; exact (Arr.bad hA).elim

theorem rounds_ok {call : Call} {n : Nat} {x : Code} (hx : CodeOk E P G call n x) : ∀ (k : Nat) (s : Fr) (h : H) (e : Exit) (s' : Fr) (h' : H), Arr (loopR (codeF E n x).v call k s h) e s' h' → h.next ≤ h'.next ∧
    ∀ (φ : Mp) (a : Act) (w : World), TRel G φ s a.tmps → HRel G φ h w → Free φ h.next h'.next → a.tmps.size = n →
      Code.rounds P x (fun e' a' w' => e' = e ∧ Left G φ h w a s' h' a' w') k a w
  | 0, s, h, e, s', h', A => (Arr.bad A).elim
  | k + 1, s, h, e, s', h', A => by
    rw [loopR_succ] at A
    cases hr : (codeF E n x).v call s h with
    | nx s1 h1 =>
      rw [hr] at A
      obtain ⟨n1, k1⟩ := hx s h .normal s1 h1 (.inl ⟨hr, rfl⟩)
      obtain ⟨n2, k2⟩ := rounds_ok hx k s1 h1 e s' h' A
      refine ⟨Nat.le_trans n1 n2, fun φ a w T r hf hn => ?_⟩
      rw [rounds_succ]
      refine wp_mono (k1 φ a w T r (hf.left n2) hn) ?_
      rintro e1 a1 w1 ⟨rfl, φ1, T1, r1, f1, x1, hd, hz⟩
      have hk := k2 φ1 a1 w1 T1 r1 (hf.right x1) (hz.trans hn)
      have hmono : ∀ (k : Nat) (a w) {Q Q' : Exit → Act → World → Prop}, (∀ e a w, Q e a w → Q' e a w) → Code.rounds P x Q k a w → Code.rounds P x Q' k a w := by
        intro k
        induction k with
        | zero => intro a w Q Q' _ hh; exact hh.elim
        | succ k ih =>
          intro a w Q Q' hq hh
          rw [rounds_succ] at hh ⊢
          refine wp_mono hh ?_
          intro e a w he
          cases e <;> first | exact ih _ _ hq he | exact hq _ _ _ he
      refine hmono k a1 w1 ?_ hk
      rintro e2 a2 w2 ⟨rfl, L⟩
      exact ⟨rfl, L.trans f1 x1 hd hz⟩
    | ex i s1 h1 =>
      rw [hr] at A
      obtain ⟨rfl, rfl, rfl⟩ := Arr.ex A
      obtain ⟨n1, k1⟩ := hx s h (.exit i) s1 h1 (.inr (.inl ⟨i, hr, rfl⟩))
      refine ⟨n1, fun φ a w T r hf hn => ?_⟩
      rw [rounds_succ]
      refine wp_mono (k1 φ a w T r hf hn) ?_
      rintro e1 a1 w1 ⟨rfl, L⟩
      exact ⟨rfl, L⟩
    | rt s1 h1 =>
      rw [hr] at A
      obtain ⟨rfl, rfl, rfl⟩ := Arr.rt A
      obtain ⟨n1, k1⟩ := hx s h .ret s1 h1 (.inr (.inr ⟨hr, rfl⟩))
      refine ⟨n1, fun φ a w T r hf hn => ?_⟩
      rw [rounds_succ]
      refine wp_mono (k1 φ a w T r hf hn) ?_
      rintro e1 a1 w1 ⟨rfl, L⟩
      exact ⟨rfl, L⟩
    | bad m i => rw [hr] at A; exact (Arr.bad A).elim

theorem loop_ok {call : Call} {n : Nat} {x : Code} (hx : CodeOk E P G call n x) : CodeOk E P G call n (.loop x) := by
  intro s h e s' h' A
  have hA : Arr (loopR (codeF E n x).v call 1000000 s h) e s' h' := by
    have : (codeF E n (.loop x)) = (codeF E n x).use fun b => ⟨fun call => loopR b call 1000000⟩ := rfl
    rw [this] at A
    simpa only [Box.use_v] using A
  obtain ⟨n1, k1⟩ := rounds_ok hx 1000000 s h e s' h' hA
  exact ⟨n1, fun φ a w T r hf hn => wp_loop_rounds 1000000 (k1 φ a w T r hf hn)⟩
end
end Go.Proofs.YtjpkfdmjhgnmbaaGreat.Gv
