/- Calls: a function's run does what the evaluator says. -/
import Derived.Test.YtjpkfdmjhgnmbaaGreatGvFunc
namespace Go.Proofs.YtjpkfdmjhgnmbaaGreat.Gv
open Go

theorem Fr.ofL_cons (v : V) (l : List V) (i : Nat) (s : Fr) : Fr.ofL (v :: l) i s = Fr.ofL l (i + 1) ((Fr.set i).v v s) := rfl
theorem Fr.get_ofL : ∀ (l : List V) (i : Nat) (s : Fr) (t : Nat), i + l.length ≤ 4096 → t < 4096 →
    (Fr.get t).v (Fr.ofL l i s) = if i ≤ t ∧ t < i + l.length then (l[t - i]?).getD .undef else (Fr.get t).v s
  | [], i, s, t, _, _ => by rw [if_neg (by simp)]; rfl
  | v :: l, i, s, t, hl, ht => by
    simp only [List.length_cons] at hl
    rw [Fr.ofL_cons, Fr.get_ofL l (i + 1) _ t (by omega) ht, Fr.get_set _ _ (by omega) ht]
    by_cases h1 : t = i
    · subst h1
      rw [if_neg (by omega), if_pos rfl, if_pos (by simp)]
      simp
    · rw [if_neg h1]
      by_cases h2 : i ≤ t ∧ t < i + (v :: l).length
      · simp only [List.length_cons] at h2
        rw [if_pos (by omega), if_pos (by simp; omega)]
        rw [show t - i = (t - (i + 1)) + 1 from by omega, List.getElem?_cons_succ]
      · simp only [List.length_cons] at h2
        rw [if_neg (by omega), if_neg (by simp; omega)]

section
variable {E : Env} {P : Program} {G : Gh} {φ : Mp} {h h' : H} {w : World} {s : Fr} {a : Act} {v : V} {o : Oper}
theorem start_ok {l : List V} {ul : List Value} {n : Nat} (hl : concL G φ l = some ul) (hn : l.length ≤ 4096) :
    TRel G φ (Fr.ofL l 0 Fr.new) (ul.toArray ++ Array.replicate (n - ul.toArray.size) undef) := by
  intro t ht
  rw [Fr.get_ofL _ _ _ _ (by omega) ht]
  have hlen := concL_length hl
  have hun : conc G φ .undef = some undef := by rw [conc]; rfl
  by_cases hc : 0 ≤ t ∧ t < 0 + l.length
  · rw [if_pos hc, Nat.sub_zero]
    have hlt : t < l.length := by omega
    obtain ⟨u, hu, hcu⟩ := concL_get hl t l[t] (by simp [hlt])
    simp only [List.getElem?_eq_getElem hlt, Option.getD_some]
    rw [hcu]
    have : (ul.toArray ++ Array.replicate (n - ul.toArray.size) undef)[t]? = some u := by
      rw [Array.getElem?_append_left (by simp; omega)]
      simpa using hu
    rw [Array.getD_eq_getD_getElem?, this]
    rfl
  · rw [if_neg hc, Fr.get_new _ ht, hun]
    have : (ul.toArray ++ Array.replicate (n - ul.toArray.size) undef).getD t undef = undef := by
      rw [Array.getD_eq_getD_getElem?, Array.getElem?_append_right (by simp; omega)]
      simp only [Array.getElem?_replicate]
      split <;> rfl
    rw [this]

theorem run_enter {f : Nat} {fn : Func} {c : Code} (hf : P.funcs[f]? = some fn) (hn : (fn.name == "runtime.NumGoroutine") = false) (hb : fn.body = some c) (args : Array Value) :
    (callFunc f args).run P w = .ok (.enter f args) w := by
  have hn' : ¬ fn.name = "runtime.NumGoroutine" := by simpa using hn
  simp [callFunc, hf, hn', hb]

theorem fn_ok (ok : EnvOk E P G) (fk : FnOk E P G) {call : Call} (ck : CallOk P G call) {f : Nat} {l : List V} (e : (fnF E f).v call l h = .ok v h') {ul : List Value} (hl : concL G φ l = some ul) (r : HRel G φ h w) (hf : Free φ h.next h'.next) :
    Gives P (Post G φ h w v h') ((callFunc f ul.toArray).run P w) := by
  unfold fnF at e
  split at e
  · rename_i g hg
    exact fk.hk f g hg call ck l h v h' e φ w ul hl r hf
  · split at e
    · rename_i fn hfn
      obtain ⟨hP, hname⟩ := fk.fn f fn hfn
      split at e
      · rename_i c hb
        rw [Box.use_v, Box.use_v, Box.use_v] at e
        dsimp only at e
        cases hlen : (Nat.ble l.length fn.ntmps && Nat.ble l.length 4096) with
        | false => rw [hlen] at e; cases e
        | true =>
          rw [hlen, cond_true] at e
          rw [Bool.and_eq_true, nble, nble, decide_eq_true_eq, decide_eq_true_eq] at hlen
          have hul := concL_length hl
          rw [run_enter hP hname hb]
          show Calls P f ul.toArray w _
          refine calls_of_wp hP hb ?_
          have T0 := start_ok (n := fn.ntmps) hl hlen.2
          have hsz : (ul.toArray ++ Array.replicate (fn.ntmps - ul.toArray.size) undef).size = fn.ntmps := by simp; omega
          have fin : ∀ (x : Exit) (s1 : Fr) (h1 : H), Arr ((codeF E fn.ntmps c).v call (Fr.ofL l 0 Fr.new) h) x s1 h1 → (x = .normal ∨ x = .ret) → (resF E fn.results.toList).v s1 h1 = .ok v h' →
              c.wp P (bodyPost P fn fun e w'' => ∃ u, e = .returned u ∧ Post G φ h w v h' u w'') { tmps := ul.toArray ++ Array.replicate (fn.ntmps - ul.toArray.size) undef, defers := [] } w := by
            intro x s1 h1 A hx hr
            obtain ⟨n1, k1⟩ := code_ok ok ck fk.md c _ _ _ _ _ A
            have hh1 : ∀ (φ' : Mp) (a' : Act) (w' : World), TRel G φ' s1 a'.tmps → HRel G φ' h1 w' → h' = h1 ∧ ∃ u, (results fn a'.tmps).run P w' = .ok u w' ∧ conc G φ' v = some u :=
              fun φ' a' w' T r => res_ok ok T r hr
            have hnext : h1.next ≤ h'.next := by
              have key : ∀ (rs : List ResultVar) (s1 : Fr) (h1 : H) (v : V) (h' : H), (resF E rs).v s1 h1 = .ok v h' → h' = h1 := by
                have one : ∀ (x : ResultVar) (s1 : Fr) (h1 : H) (v : V) (h' : H), (resOne E x).v s1 h1 = .ok v h' → h' = h1 := by
                  intro x s1 h1 v h' e
                  unfold resOne at e
                  cases x with
                  | tmp t =>
                    dsimp only at e
                    cases ht : Nat.blt t 4096 with
                    | false => rw [ht] at e; cases e
                    | true => rw [ht, cond_true, Box.use_v] at e; cases e; rfl
                  | cell x t =>
                    dsimp only at e
                    cases ht : (Nat.blt x 4096 && (E.tyOf t).has) with
                    | false => rw [ht] at e; cases e
                    | true =>
                      rw [ht, cond_true, Box.use_v, Box.use_v] at e
                      obtain ⟨b, o, _, e⟩ := onPtr_ok e
                      unfold loadF at e
                      split at e
                      · obtain ⟨_, _, _, _, _, e⟩ := onCells_ok e
                        obtain ⟨_, e⟩ := bif_ok e
                        obtain ⟨_, _, e⟩ := onSome_ok e
                        cases e; rfl
                      · rw [Box.use_v] at e
                        obtain ⟨_, _, _, _, _, e⟩ := onCells_ok e
                        obtain ⟨_, e⟩ := bif_ok e
                        obtain ⟨_, _, e⟩ := onSome_ok e
                        cases e; rfl
                have many : ∀ (rs : List ResultVar) (s1 : Fr) (h1 : H) (k : List V → RV) (v : V) (h' : H), (∀ l, k l = .ok v h' → h' = h1) → (resL E rs).v s1 h1 k = .ok v h' → h' = h1 := by
                  intro rs
                  induction rs with
                  | nil => intro s1 h1 k v h' hk e; exact hk [] e
                  | cons x l ih =>
                    intro s1 h1 k v h' hk e
                    rw [resL_cons, Box.use_v, Box.use_v] at e
                    dsimp only at e
                    split at e
                    · exact ih s1 h1 _ v h' (fun l hl => hk _ hl) e
                    · cases e
                intro rs s1 h1 v h' e
                unfold resF at e
                split at e
                · exact one _ _ _ _ _ e
                · rw [Box.use_v] at e
                  exact many _ _ _ _ _ _ (fun l hl => by cases hl; rfl) e
              rw [key _ _ _ _ _ hr]; exact Nat.le_refl _
            refine wp_mono (k1 φ _ w T0 r (hf.left hnext) hsz) ?_
            rintro e1 a1 w1 ⟨rfl, φ1, T1, r1, f1, x1, hd, hz⟩
            obtain ⟨rfl, u, hu, hc⟩ := hh1 φ1 a1 w1 T1 r1
            rcases hx with rfl | rfl
            · exact ⟨hd, u, hu, u, rfl, φ1, hc, r1, f1, x1⟩
            · exact ⟨hd, u, hu, u, rfl, φ1, hc, r1, f1, x1⟩
          cases hx : (codeF E fn.ntmps c).v call (Fr.ofL l 0 Fr.new) h with
          | nx s1 h1 => rw [hx] at e; exact fin .normal s1 h1 (.inl ⟨hx, rfl⟩) (.inl rfl) e
          | rt s1 h1 => rw [hx] at e; exact fin .ret s1 h1 (.inr (.inr ⟨hx, rfl⟩)) (.inr rfl) e
          | ex i s1 h1 => rw [hx] at e; cases e
          | bad m i => rw [hx] at e; cases e
      · cases e
    · cases e

theorem callN_ok (ok : EnvOk E P G) (fk : FnOk E P G) : ∀ n, CallOk P G (callN E n)
  | 0 => fun f l h v h' e => by cases e
  | n + 1 => fun f l h v h' e φ w ul hl r hf => fn_ok ok fk (callN_ok ok fk n) (f := f) e hl r hf

/-- THE TOP: a function's run over what is there. -/
theorem run_ok (ok : EnvOk E P G) (fk : FnOk E P G) {n f : Nat} {fn : Func} (hP : P.funcs[f]? = some fn) (hn : (fn.name == "runtime.NumGoroutine") = false) {c : Code} (hb : fn.body = some c) {l : List V}
    (e : callN E n f l h = .ok v h') {ul : List Value} (hl : concL G φ l = some ul) (r : HRel G φ h w) (hf : Free φ h.next h'.next) :
    Calls P f ul.toArray w fun e w' => ∃ u, e = .returned u ∧ Post G φ h w v h' u w' := by
  have := callN_ok ok fk n f l h v h' e φ w ul hl r hf
  rw [run_enter hP hn hb] at this
  exact this
end
end Go.Proofs.YtjpkfdmjhgnmbaaGreat.Gv
