/- The top: the run's tables out of a program, and a law out of one run. -/
import Derived.Test.YtjpkfdmjhgnmbaaGreatGvCalls
import Derived.KernelRfl
namespace Go.Proofs.YtjpkfdmjhgnmbaaGreat.Gv
open Go Go.RowKit

section
variable {α : Type}
theorem T.mk1_get (x : Option α) : ∀ (f i : Nat), i + 2 ≤ 2 ^ f → (T.mk1 x f i).get i = x
  | 0, i, h => by simp at h
  | f + 1, 0, _ => rfl
  | f + 1, j + 1, h => by
    have h2 : j / 2 + 2 ≤ 2 ^ f := by rw [Nat.pow_succ] at h; omega
    rw [T.mk1_succ]
    split
    · rename_i hj; rw [T.get_nd, if_pos hj]; exact T.mk1_get x f _ h2
    · rename_i hj; rw [T.get_nd, if_neg hj]; exact T.mk1_get x f _ h2
theorem T.setO_get (x : Option α) : ∀ (t : T α) (i : Nat), i + 2 ≤ 2 ^ 40 → (T.setO t x i).get i = x := by
  intro t
  induction t with
  | lf => intro i h; rw [T.setO_lf]; exact T.mk1_get x 40 i h
  | nd l v r il ir =>
    intro i h
    cases i with
    | zero => rfl
    | succ j =>
      rw [T.setO_nd]
      split
      · rename_i hj; rw [T.get_nd, if_pos hj]; exact il _ (by omega)
      · rename_i hj; rw [T.get_nd, if_neg hj]; exact ir _ (by omega)
theorem T.setRow_get : ∀ (l : List α) (i : Nat) (t : T α) (k : Nat), k + 2 ≤ 2 ^ 40 → (T.setRow l i t).get k = if i ≤ k ∧ k < i + l.length then l[k - i]? else t.get k
  | [], i, t, k, _ => by rw [if_neg (by simp)]; rfl
  | x :: l, i, t, k, h => by
    rw [T.setRow_cons, T.setRow_get l (i + 1) _ k h]
    by_cases h1 : k = i
    · subst h1
      rw [if_neg (by omega), if_pos (by simp)]
      rw [T.set, T.setO_get _ _ _ h]
      simp
    · rw [T.set, T.setO_other _ _ _ _ h1]
      by_cases h2 : i ≤ k ∧ k < i + (x :: l).length
      · simp only [List.length_cons] at h2
        rw [if_pos (by omega), if_pos (by simp; omega), show k - i = (k - (i + 1)) + 1 from by omega, List.getElem?_cons_succ]
      · simp only [List.length_cons] at h2
        rw [if_neg (by omega), if_neg (by simp; omega)]
theorem T.ofList_get (l : List α) (k : Nat) (h : k + 2 ≤ 2 ^ 40) : (T.ofList l).get k = l[k]? := by
  rw [T.ofList, T.setRow_get l 0 _ k h]
  by_cases hk : k < l.length
  · rw [if_pos (by omega)]; simp
  · rw [if_neg (by omega), T.get_lf]; simp; omega
theorem T.get_none : ∀ (t : T α) (l : List α) (k : Nat), t = T.ofList l → l.length ≤ k → t.get k = none := by
  intro t l k ht hk
  subst ht
  cases hx : (T.ofList l).get k with
  | none => rfl
  | some x =>
    have := T.get_ofList hx
    have := (List.getElem?_eq_some_iff.1 this).1
    omega
end

/-- A run's tables. -/
noncomputable def evE (P : Program) (hk : Nat → Option (Call → List V → H → RV)) (bd : List (Int × Int)) (ge : List (Int × List (Nat × Int))) (nl : List NL) : Env :=
  { ty := T.ofList ((List.range P.types.size).map (mkTI P)), df := mkTI P, fn := T.ofList P.funcs.toList, hk, bd, ge, nl }
/-- What is asked of the program once. -/
structure ProgOk (P : Program) : Prop where
  types : P.types.size ≤ 1000000
  names : P.funcs.toList.all (fun fn => !(fn.name == "runtime.NumGoroutine")) = true
  md : P.follows .mixedOrders = true

section
variable {P : Program} {G : Gh} {hk : Nat → Option (Call → List V → H → RV)} {bd : List (Int × Int)} {ge : List (Int × List (Nat × Int))} {nl : List NL}
theorem evE_ty (hP : ProgOk P) (t : Nat) : (evE P hk bd ge nl).tyOf t = mkTI P t := by
  have hs := hP.types
  unfold Env.tyOf
  show (match (T.ofList ((List.range P.types.size).map (mkTI P))).get t with | some ti => ti | none => mkTI P t) = _
  by_cases ht : t < P.types.size
  · rw [T.ofList_get _ _ (by omega)]
    simp [ht]
  · rw [T.get_none _ _ t rfl (by simp; omega)]
theorem evE_ok (hP : ProgOk P) (hbd : ∀ (i : Nat) lo hi, bd[i]? = some (lo, hi) → lo ≤ G.σ i ∧ G.σ i ≤ hi) (hge : ∀ f ∈ ge, 0 ≤ f.1 + den G.σ f.2) (hnl : ∀ n ∈ nl, NLOk G n) : EnvOk (evE P hk bd ge nl) P G :=
  ⟨evE_ty hP, hbd, hge, hnl⟩
def HooksOk (P : Program) (G : Gh) (hk : Nat → Option (Call → List V → H → RV)) : Prop :=
  ∀ (f : Nat) g, hk f = some g → ∀ call, CallOk P G call → ∀ (l : List V) (h : H) (v : V) (h' : H), g call l h = .ok v h' → ∀ (φ : Mp) (w : World) (ul : List Value), concL G φ l = some ul → HRel G φ h w → Free φ h.next h'.next →
    Gives P (Post G φ h w v h') ((callFunc f ul.toArray).run P w)
theorem evE_fn (hP : ProgOk P) (hh : HooksOk P G hk) : FnOk (evE P hk bd ge nl) P G := by
  refine ⟨fun f fn e => ?_, hh, hP.md⟩
  have h1 := T.get_ofList (show (T.ofList P.funcs.toList).get f = some fn from e)
  refine ⟨by simpa using h1, ?_⟩
  have := List.all_eq_true.1 hP.names fn (List.mem_of_getElem? h1)
  simpa using this

/-- What a law's run leaves: true, and nothing that was there has changed. -/
def TrueBelow (w : World) (e : Ending) (w' : World) : Prop := e = .returned (.bool true) ∧ Below w.heap.size w w'
theorem isTrue_ok {r : RV} (e : r.isTrue = true) : ∃ h', r = .ok (.bool true) h' := by
  unfold RV.isTrue at e
  cases r with
  | ok v h =>
    cases v with
    | bool b => exact ⟨h, by have e : b = true := e; rw [e]⟩
    | _ => cases e
  | bad m i => cases e
theorem law_run (hP : ProgOk P) (hbd : ∀ (i : Nat) lo hi, bd[i]? = some (lo, hi) → lo ≤ G.σ i ∧ G.σ i ≤ hi) (hge : ∀ f ∈ ge, 0 ≤ f.1 + den G.σ f.2) (hnl : ∀ n ∈ nl, NLOk G n) (hh : HooksOk P G hk) {n f : Nat} {fn : Func} (hf : P.funcs[f]? = some fn) {c : Code} (hb : fn.body = some c)
    {l : List V} {ul : List Value} (hl : concL G (fun _ => none) l = some ul) (e : (callN (evE P hk bd ge nl) n f l H0).isTrue = true) (w : World) : Calls P f ul.toArray w (TrueBelow w) := by
  obtain ⟨h', e⟩ := isTrue_ok e
  have hn : (fn.name == "runtime.NumGoroutine") = false := by
    have := List.all_eq_true.1 hP.names fn (List.mem_of_getElem? (i := f) (by simpa using hf))
    simpa using this
  have r0 : HRel G (fun _ => none) H0 w := ⟨fun b x l hb => (nomatch hb), fun b b' x x' l l' hb => (nomatch hb), fun b _ => rfl⟩
  refine (run_ok (evE_ok hP hbd hge hnl) (evE_fn hP hh) hf hn hb e hl r0 (fun _ _ _ => rfl)).mono ?_
  rintro e w' ⟨u, rfl, φ', hu, r, f', x⟩
  rw [conc] at hu
  cases hu
  refine ⟨rfl, f'.os, f'.tape, f'.output, f'.size, fun k hk => f'.block k hk ?_⟩
  rintro ⟨b, y, l, hb, _⟩
  exact (nomatch hb)
end
end Go.Proofs.YtjpkfdmjhgnmbaaGreat.Gv
