/- part.Most beside a table of contracts: where nothing is free nothing goes. -/
import Derived.Test.YtdfgedemolielaaGreatPbM
import Derived.Test.YtdfgedemolielaaGreatLib
namespace Go.Proofs.YtdfgedemolielaaGreat
open Go Go.RowKit Gv
noncomputable def moZero (E : Env) (l : List V) (h : H) (r : RV) : RV := match l with
  | [a, x, y] => (match kOf x, asLF x, kOf y, asLF y with
    | some k, some X, some k2, some Y => bif (sameK k .i64 && sameK k2 .i64) && (sameV a moX && (known E Y && (known E (LF.sub (0, []) Y) && (known E X && known E (LF.sub (2199023255552, []) X))))) then .ok (.int .i64 0) h else r
    | _, _, _, _ => r)
  | _ => r
noncomputable def moF (E : Env) (g : Gv.Call → List V → H → RV) (call : Gv.Call) (l : List V) (h : H) : RV := match g call l h with
  | .ok v h' => .ok v h'
  | r => moZero E l h r
noncomputable def moHk (E : Env) (t : Nat → Option (Gv.Call → List V → H → RV)) (n : Nat) : Option (Gv.Call → List V → H → RV) := match t n with
  | some g => bif Nat.beq n 358 then some (moF E g) else some g
  | none => none
section
variable {G : Gh} {E : Env}
set_option maxRecDepth 100000 in
theorem moHk_ok (hm : ¬ G.mono) (ok : EnvOk E Tryz.prog G) {t : Nat → Option (Gv.Call → List V → H → RV)} (ht : HooksOk Tryz.prog G t) : HooksOk Tryz.prog G (moHk E t) := fun f g e call ck a h v h' eg φ w ul hl r hf => by
  unfold moHk at e
  cases hx : t f with
  | none => rw [hx] at e; cases e
  | some g0 =>
    rw [hx] at e
    dsimp only at e
    rw [nbeq] at e
    by_cases hft : f = 358
    · rw [decide_eq_true hft, cond_true] at e
      cases e
      unfold moF at eg
      have key : ∀ rr : RV, (∀ v1 h1, rr ≠ .ok v1 h1) → moZero E a h rr = .ok v h' → ∃ k k2 X Y x y, a = [moX, x, y] ∧ kOf x = some k ∧ asLF x = some X ∧ kOf y = some k2 ∧ asLF y = some Y ∧ sameK k .i64 = true ∧ sameK k2 .i64 = true ∧ known E Y = true ∧ known E (LF.sub (0, []) Y) = true ∧ known E X = true ∧ known E (LF.sub (2199023255552, []) X) = true ∧ v = .int .i64 0 ∧ h' = h := fun rr hne e2 => by
        unfold moZero at e2
        split at e2
        · rename_i b x y
          split at e2
          · rename_i k X k2 Y hk hX hk2 hY
            cases hc : (sameK k .i64 && sameK k2 .i64) && (sameV b moX && (known E Y && (known E (LF.sub (0, []) Y) && (known E X && known E (LF.sub (2199023255552, []) X))))) with
            | false => rw [hc, cond_false] at e2; exact absurd e2 (hne _ _)
            | true =>
              rw [hc, cond_true] at e2
              simp only [Bool.and_eq_true] at hc
              obtain ⟨⟨c1, c2⟩, c3, c4, c5, c6, c7⟩ := hc
              have hb := sameV_eq c3
              subst hb
              cases e2
              exact ⟨k, k2, X, Y, x, y, rfl, hk, hX, hk2, hY, c1, c2, c4, c5, c6, c7, rfl, rfl⟩
          · exact absurd e2 (hne _ _)
        · exact absurd e2 (hne _ _)
      have old : ∀ v1 h1, g0 call a h = .ok v1 h1 → (RV.ok v1 h1 : RV) = .ok v h' → _ := fun v1 h1 hg e3 => ht f g0 hx call ck a h v h' (hg.trans e3) φ w ul hl r hf
      cases hg : g0 call a h with
      | ok v1 h1 => rw [hg] at eg; exact old v1 h1 hg eg
      | _ =>
        rw [hg] at eg
        obtain ⟨k, k2, X, Y, x, y, rfl, hk, hX, hk2, hY, c1, c2, p1, p2, p3, p4, rfl, rfl⟩ := key _ (by intro _ _ h9; cases h9) eg
        subst hft
        have e1 := sameK_ok c1
        have e2 := sameK_ok c2
        subst e1 e2
        have q1 := known_ok ok p1
        have q2 := known_ok ok p2
        have q3 := known_ok ok p3
        have q4 := known_ok ok p4
        rw [LF.den_sub] at q2 q4
        have z0 : LF.den G.σ (0, []) = 0 := by show (0 : Int) + 0 = _; omega
        have z1 : LF.den G.σ (2199023255552, []) = 2199023255552 := by show (2199023255552 : Int) + 0 = _; omega
        rw [z0] at q2
        rw [z1] at q4
        obtain ⟨u, us, hu, hus, rfl⟩ := concL_cons.1 hl
        obtain ⟨u1, us1, hu1, hus1, rfl⟩ := concL_cons.1 hus
        obtain ⟨u2, us2, hu2, hus2, rfl⟩ := concL_cons.1 hus1
        rw [concL_nil] at hus2
        cases hus2
        rw [moX_conc] at hu
        cases hu
        rw [int_conc hk hX] at hu1
        cases hu1
        rw [int_conc hk2 hY] at hu2
        cases hu2
        rw [show Y.den G.σ = 0 by omega]
        rw [run_enter Tryz.func358 (prog_name progOkB Tryz.func358) rfl]
        refine (most0_ok ⟨q3, by omega⟩ w).mono ?_
        rintro e w2 ⟨rfl, hb⟩
        exact ⟨_, rfl, below_post hm r hb (by rw [conc])⟩
    · rw [decide_eq_false hft, cond_false] at e
      cases e
      exact ht f _ hx call ck a h v h' eg φ w ul hl r hf
end
end Go.Proofs.YtdfgedemolielaaGreat
