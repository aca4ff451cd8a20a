/- Hooks out of contracts: a function at given arguments hands back a given value, and nothing that was there changes. -/
import Derived.Test.YtjpkfdmjhgnmbaaGreatGvTop
namespace Go.Proofs.YtjpkfdmjhgnmbaaGreat.Gv
open Go Go.RowKit

structure HT where
  f : Nat
  args : List V
  v : V
noncomputable def hkT : List HT → Nat → Option (Call → List V → H → RV)
  | [], _ => none
  | t :: l, n => bif Nat.beq n t.f then some (fun call a h => bif allB sameV t.args a then .ok t.v h else (match hkT l n with | some g => g call a h | none => .bad "hook" n)) else hkT l n
noncomputable def orHk (a b : Nat → Option (Call → List V → H → RV)) (n : Nat) : Option (Call → List V → H → RV) := match a n with | some g => some g | none => b n

section
variable {P : Program} {G : Gh} {φ : Mp} {h : H} {w w' : World} {v : V} {u : Value}
theorem below_post (r : HRel G φ h w) (hb : Below w.heap.size w w') (hv : conc G φ v = some u) : Post G φ h w v h u w' :=
  ⟨φ, hv, r.frame (Mp.le_refl _) (fun _ _ _ _ e => e) (fun k hk => hb.block k (r.foot_lt hk)), ⟨hb.os, hb.tape, hb.output, hb.size, fun k hk _ => hb.block k hk⟩, Ext.refl _ _ _⟩

structure HTOk (P : Program) (G : Gh) (t : HT) : Prop where
  enter : ∃ fn c, P.funcs[t.f]? = some fn ∧ fn.body = some c
  run : ∀ (φ : Mp) (ul : List Value), concL G φ t.args = some ul → ∀ w, Calls P t.f ul.toArray w fun e w' => ∃ u, (∀ ψ, conc G ψ t.v = some u) ∧ e = .returned u ∧ Below w.heap.size w w'
theorem prog_name (hP : ProgOk P) {f : Nat} {fn : Func} (hf : P.funcs[f]? = some fn) : (fn.name == "runtime.NumGoroutine") = false := by
  have := List.all_eq_true.1 hP.names fn (List.mem_of_getElem? (i := f) (by simpa using hf))
  simpa using this
theorem hkT_ok (hP : ProgOk P) : ∀ (T : List HT), (∀ t ∈ T, HTOk P G t) → HooksOk P G (hkT T)
  | [], _ => fun f g e => (nomatch e)
  | t :: l, ht => fun f g e call ck a h v h' eg φ w ul hl r hf => by
    unfold hkT at e
    rw [nbeq] at e
    by_cases hft : f = t.f
    · rw [decide_eq_true hft, cond_true] at e
      cases e
      dsimp only at eg
      cases hs : allB sameV t.args a with
      | true =>
        rw [hs, cond_true] at eg
        cases eg
        have hta := allB_same (fun _ _ => sameV_eq) hs
        subst hft
        obtain ⟨fn, c, h1, h2⟩ := (ht t (by simp)).enter
        rw [run_enter h1 (prog_name hP h1) h2]
        refine ((ht t (by simp)).run φ ul (by rw [hta]; exact hl) w).mono ?_
        rintro e w' ⟨u, hu, rfl, hb⟩
        exact ⟨u, rfl, below_post r hb (hu φ)⟩
      | false =>
        rw [hs, cond_false] at eg
        cases hx : hkT l f with
        | none => rw [hx] at eg; cases eg
        | some g' =>
          rw [hx] at eg
          exact hkT_ok hP l (fun t' h' => ht t' (by simp [h'])) f g' hx call ck a h v h' eg φ w ul hl r hf
    · rw [decide_eq_false hft, cond_false] at e
      exact hkT_ok hP l (fun t' h' => ht t' (by simp [h'])) f g e call ck a h v h' eg φ w ul hl r hf
theorem orHk_ok {a b : Nat → Option (Call → List V → H → RV)} (ha : HooksOk P G a) (hb : HooksOk P G b) : HooksOk P G (orHk a b) := by
  intro f g e
  unfold orHk at e
  cases hx : a f with
  | some g' => rw [hx] at e; cases e; exact ha f _ hx
  | none => rw [hx] at e; exact hb f g e

noncomputable def RV.isV (v : V) (r : RV) : Bool := match r with | .ok u _ => sameV v u | .bad _ _ => false
/-- A run that hands back a given value. -/
theorem val_run {hk : Nat → Option (Call → List V → H → RV)} {bd : List (Int × Int)} {ge : List (Int × List (Nat × Int))} {nl : List NL}
    (hP : ProgOk P) (hbd : ∀ (i : Nat) lo hi, bd[i]? = some (lo, hi) → lo ≤ G.σ i ∧ G.σ i ≤ hi) (hge : ∀ f ∈ ge, 0 ≤ f.1 + den G.σ f.2) (hnl : ∀ n ∈ nl, NLOk G n) (hh : HooksOk P G hk) {n f : Nat} {fn : Func} (hf : P.funcs[f]? = some fn) {c : Code} (hb : fn.body = some c)
    {l : List V} {ul : List Value} (hl : concL G (fun _ => none) l = some ul) (e : ((callN (evE P hk bd ge nl) n f l H0).isV v) = true) (hv : ∀ φ, conc G φ v = some u) (w : World) :
    Calls P f ul.toArray w fun e w' => e = .returned u ∧ Below w.heap.size w w' := by
  unfold RV.isV at e
  cases hr : callN (evE P hk bd ge nl) n f l H0 with
  | bad m i => rw [hr] at e; cases e
  | ok x h' =>
    rw [hr] at e
    have := sameV_eq e
    subst this
    have r0 : HRel G (fun _ => none) H0 w := ⟨fun b x l hb => (nomatch hb), fun b b' x x' l l' hb => (nomatch hb), fun b _ => rfl⟩
    refine (run_ok (evE_ok hP hbd hge hnl) (evE_fn hP hh) hf (prog_name hP hf) hb hr hl r0 (fun _ _ _ => rfl)).mono ?_
    rintro e w' ⟨u', rfl, φ', hu, r, f', x⟩
    rw [hv] at hu
    cases hu
    refine ⟨rfl, f'.os, f'.tape, f'.output, f'.size, fun k hk => f'.block k hk ?_⟩
    rintro ⟨b, y, l, hb, _⟩
    exact (nomatch hb)
end
/-! ### facts, as lists -/
def bdOk (σ : Nat → Int) : List (Int × Int) → Nat → Prop
  | [], _ => True
  | p :: l, k => (p.1 ≤ σ k ∧ σ k ≤ p.2) ∧ bdOk σ l (k + 1)
theorem bdOk_at {σ : Nat → Int} : ∀ {l : List (Int × Int)} {k : Nat}, bdOk σ l k → ∀ (i : Nat) lo hi, l[i]? = some (lo, hi) → lo ≤ σ (k + i) ∧ σ (k + i) ≤ hi
  | [], k, _, i, lo, hi, e => by simp at e
  | p :: l, k, h, i, lo, hi, e => by
    cases i with
    | zero => simp at e; subst e; exact h.1
    | succ i =>
      have := bdOk_at h.2 i lo hi (by simpa using e)
      rw [show k + (i + 1) = k + 1 + i from by omega]
      exact this
def geOk (σ : Nat → Int) : List (Int × List (Nat × Int)) → Prop
  | [] => True
  | f :: l => 0 ≤ f.1 + den σ f.2 ∧ geOk σ l
theorem geOk_at {σ : Nat → Int} : ∀ {l : List (Int × List (Nat × Int))}, geOk σ l → ∀ f ∈ l, 0 ≤ f.1 + den σ f.2
  | [], _, f, hf => by cases hf
  | p :: l, h, f, hf => by
    rcases List.mem_cons.1 hf with rfl | hf
    · exact h.1
    · exact geOk_at h.2 f hf
def nlOk (G : Gh) : List NL → Prop
  | [] => True
  | n :: l => NLOk G n ∧ nlOk G l
theorem nlOk_at {G : Gh} : ∀ {l : List NL}, nlOk G l → ∀ n ∈ l, NLOk G n
  | [], _, n, hn => by cases hn
  | p :: l, h, n, hn => by
    rcases List.mem_cons.1 hn with rfl | hn
    · exact h.1
    · exact nlOk_at h.2 n hn
/-- Unknown parts out of two lists. -/
def mkGh (e : List Value) (s : List Int) (he : e.all (·.oneCell') = true) : Gh := ⟨fun i => e.getD i (.bool false), fun i => s.getD i 0, fun i => by
  rw [List.getD_eq_getElem?_getD]
  cases hi : e[i]? with
  | none => rfl
  | some v => exact List.all_eq_true.1 he v (List.mem_of_getElem? hi)⟩
structure Facts (G : Gh) (bd : List (Int × Int)) (ge : List (Int × List (Nat × Int))) (nl : List NL) : Prop where
  bd : bdOk G.σ bd 0
  ge : geOk G.σ ge
  nl : nlOk G nl
section
variable {P : Program} {G : Gh} {w : World} {v : V} {u : Value} {hk : Nat → Option (Call → List V → H → RV)} {bd : List (Int × Int)} {ge : List (Int × List (Nat × Int))} {nl : List NL}
theorem Facts.ends (F : Facts G bd ge nl) : ∀ (i : Nat) lo hi, bd[i]? = some (lo, hi) → lo ≤ G.σ i ∧ G.σ i ≤ hi := fun i lo hi e => by
  have := bdOk_at F.bd i lo hi e
  rwa [Nat.zero_add] at this
theorem run_val (hP : ProgOk P) (F : Facts G bd ge nl) (hh : HooksOk P G hk) {n f : Nat} {fn : Func} (hf : P.funcs[f]? = some fn) {c : Code} (hb : fn.body = some c)
    {l : List V} {ul : List Value} (hl : concL G (fun _ => none) l = some ul) (e : ((callN (evE P hk bd ge nl) n f l H0).isV v) = true) (hv : ∀ φ, conc G φ v = some u) (w : World) :
    Calls P f ul.toArray w fun e w' => e = .returned u ∧ Below w.heap.size w w' :=
  val_run hP F.ends (geOk_at F.ge) (nlOk_at F.nl) hh hf hb hl e hv w
theorem run_true (hP : ProgOk P) (F : Facts G bd ge nl) (hh : HooksOk P G hk) {n f : Nat} {fn : Func} (hf : P.funcs[f]? = some fn) {c : Code} (hb : fn.body = some c)
    {l : List V} {ul : List Value} (hl : concL G (fun _ => none) l = some ul) (e : (callN (evE P hk bd ge nl) n f l H0).isTrue = true) (w : World) : Calls P f ul.toArray w (TrueBelow w) :=
  law_run hP F.ends (geOk_at F.ge) (nlOk_at F.nl) hh hf hb hl e w
theorem noHooks : HooksOk P G (fun _ => none) := fun _ _ h => (nomatch h)
theorem noFacts : Facts G [] [] [] := ⟨trivial, trivial, trivial⟩
end
end Go.Proofs.YtjpkfdmjhgnmbaaGreat.Gv
