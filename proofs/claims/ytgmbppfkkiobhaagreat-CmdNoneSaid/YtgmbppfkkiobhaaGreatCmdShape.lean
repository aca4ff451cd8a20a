/- cmd.shapes: what each kind of command has, looked up. -/
import Derived.Test.YtgmbppfkkiobhaaGreatWireArgs0
import Derived.Test.YtgmbppfkkiobhaaGreatLib
namespace Go.Proofs.YtgmbppfkkiobhaaGreat.Wire
open Go Go.RowKit Go.Lib Gv
noncomputable def shE (bd : List (Int × Int)) : Env := evE Tryz.prog (fun _ => none) bd [] []
noncomputable def shR : RV := callN (shE []) 10 50 [] H0
def lkO : Oper := { dst := some 2, op := .lookup 130 (.tmp 0) (.tmp 1) true, type := 0, pos := "", after := #[], guard := none }
noncomputable def cellsI (cs : T V) : Nat → Option (List Int)
  | 0 => some []
  | n + 1 => match cellsI cs n, cs.get n with
    | some l, some (.int .i64 x) => some (l ++ [x])
    | _, _ => none
theorem cellsI_ok {cs : T V} : ∀ {n : Nat} {l : List Int}, cellsI cs n = some l → l.length = n ∧ ∀ j x, l[j]? = some x → cs.get j = some (.int .i64 x)
  | 0, l, e => by
    simp only [cellsI, Option.some.injEq] at e
    subst e
    exact ⟨rfl, fun j x h => by simp at h⟩
  | n + 1, l, e => by
    unfold cellsI at e
    split at e
    · rename_i l0 x h1 h2
      obtain ⟨a, b⟩ := cellsI_ok h1
      simp only [Option.some.injEq] at e
      subst e
      refine ⟨by simp [a], fun j y hy => ?_⟩
      by_cases hj : j < l0.length
      · rw [List.getElem?_append_left hj] at hy
        exact b j y hy
      · by_cases hj2 : j = l0.length
        · subst hj2
          simp at hy
          subst hy
          rw [a]
          exact h2
        · rw [List.getElem?_eq_none (by simp; omega)] at hy
          cases hy
    · cases e
/-- A slice of numbers in an abstract memory. -/
noncomputable def slI (h : H) (sl : V) : Option (List Int) := match sl with
  | .nilslice => some []
  | .slice b o n _ _ => (match h.t.get b with
    | some (.cells cs m _ _) => bif Nat.beq o 0 && Nat.ble n m then (match cellsI cs n with | some l => bif Nat.beq l.length n then some l else none | none => none) else none
    | _ => none)
  | _ => none
abbrev RowT := Bool × Int × Int × Int × Int × List Int
noncomputable def gotRow (h : H) (r : RV) : Option RowT := match r with
  | .ok (.tuple [.agg [.int .i64 wh, .int .i64 t, .int .i64 n, .int .i64 s, sl], .bool is]) _ => (match slI h sl with | some l => some (is, wh, t, n, s, l) | none => none)
  | _ => none
noncomputable def getRow (bd : List (Int × Int)) (k : V) : Option RowT := match shR with
  | .ok (.map b) h => gotRow h ((opF (shE bd) lkO).v (Fr.ofL [.map b, k] 0 Fr.new) h)
  | _ => none
set_option maxRecDepth 100000 in
theorem row1 : getRow [] (.int .i64 1) = some (true, 1, 1, 1, 0, []) := by kernel_rfl
set_option maxRecDepth 100000 in
theorem row2 : getRow [] (.int .i64 2) = some (true, 1, 2, 0, 0, []) := by kernel_rfl
set_option maxRecDepth 100000 in
theorem row3 : getRow [] (.int .i64 3) = some (true, 1, 1, 7, 0, [0, 1]) := by kernel_rfl
set_option maxRecDepth 100000 in
theorem row4 : getRow [] (.int .i64 4) = some (true, 1, 0, 0, 1, []) := by kernel_rfl
set_option maxRecDepth 100000 in
theorem row5 : getRow [] (.int .i64 5) = some (true, 1, 1, 1, 0, []) := by kernel_rfl
set_option maxRecDepth 100000 in
theorem row6 : getRow [] (.int .i64 6) = some (true, 1, 1, 1, 0, []) := by kernel_rfl
set_option maxRecDepth 100000 in
theorem row7 : getRow [] (.int .i64 7) = some (true, 1, 2, 1, 0, []) := by kernel_rfl
set_option maxRecDepth 100000 in
theorem row8 : getRow [] (.int .i64 8) = some (true, 1, 2, 1, 0, [0]) := by kernel_rfl
set_option maxRecDepth 100000 in
theorem row9 : getRow [] (.int .i64 9) = some (true, 2, 6, 8, 0, [0, 6, 7]) := by kernel_rfl
set_option maxRecDepth 100000 in
theorem row10 : getRow [] (.int .i64 10) = some (true, 2, 0, 1, 1, [0]) := by kernel_rfl
set_option maxRecDepth 100000 in
theorem row11 : getRow [] (.int .i64 11) = some (true, 2, 0, 1, 0, []) := by kernel_rfl
set_option maxRecDepth 100000 in
theorem row12 : getRow [] (.int .i64 12) = some (true, 2, 0, 1, 0, []) := by kernel_rfl
set_option maxRecDepth 100000 in
theorem row13 : getRow [] (.int .i64 13) = some (true, 2, 0, 2, 0, []) := by kernel_rfl
set_option maxRecDepth 100000 in
theorem row14 : getRow [] (.int .i64 14) = some (true, 2, 0, 2, 0, [1]) := by kernel_rfl
set_option maxRecDepth 100000 in
theorem row15 : getRow [] (.int .i64 15) = some (true, 2, 0, 3, 3, []) := by kernel_rfl
set_option maxRecDepth 100000 in
theorem row16 : getRow [] (.int .i64 16) = some (true, 1, 0, 0, 0, []) := by kernel_rfl
set_option maxRecDepth 100000 in
theorem row17 : getRow [] (.int .i64 17) = some (true, 1, 0, 2, 0, [0, 1]) := by kernel_rfl
set_option maxRecDepth 100000 in
theorem row18 : getRow [] (.int .i64 18) = some (true, 1, 0, 0, 0, []) := by kernel_rfl
set_option maxRecDepth 100000 in
theorem row19 : getRow [] (.int .i64 19) = some (true, 1, 0, 0, 0, []) := by kernel_rfl
set_option maxRecDepth 100000 in
theorem row30 : getRow [] (.int .i64 30) = some (true, 3, 0, 1, 0, []) := by kernel_rfl
set_option maxRecDepth 100000 in
theorem row31 : getRow [] (.int .i64 31) = some (true, 3, 2, 0, 0, []) := by kernel_rfl
set_option maxRecDepth 100000 in
theorem row32 : getRow [] (.int .i64 32) = some (true, 3, 0, 0, 0, []) := by kernel_rfl
set_option maxRecDepth 100000 in
theorem row33 : getRow [] (.int .i64 33) = some (true, 2, 0, 0, 0, []) := by kernel_rfl
set_option maxRecDepth 100000 in
theorem row34 : getRow [] (.int .i64 34) = some (true, 3, 0, 0, 0, []) := by kernel_rfl
set_option maxRecDepth 100000 in
theorem row35 : getRow [] (.int .i64 35) = some (true, 3, 0, 1, 0, []) := by kernel_rfl
set_option maxRecDepth 100000 in
theorem row36 : getRow [] (.int .i64 36) = some (true, 3, 1, 0, 0, []) := by kernel_rfl
set_option maxRecDepth 100000 in
theorem rowUa : getRow [(-9223372036854775808, 0)] (.sint .i64 0 [(0,1)]) = some (false, 0, 0, 0, 0, []) := by kernel_rfl
set_option maxRecDepth 100000 in
theorem rowUb : getRow [(20, 29)] (.sint .i64 0 [(0,1)]) = some (false, 0, 0, 0, 0, []) := by kernel_rfl
set_option maxRecDepth 100000 in
theorem rowUc : getRow [(37, 9223372036854775807)] (.sint .i64 0 [(0,1)]) = some (false, 0, 0, 0, 0, []) := by kernel_rfl
/-- What a lookup hands back, in every world in which the map still stands. -/
def LookPost (kind : Int) (is : Bool) (wh t n s : Int) (tr : List Int) (w : World) (en : Ending) (w' : World) : Prop :=
  ∃ mb T tc, en = .returned (.map (some mb)) ∧ Below w.heap.size w w' ∧ IntsAt w' T tr ∧ (∀ ad, T = some ad → w.heap.size ≤ ad.block) ∧
    (∀ W : World, Below w'.heap.size w' W → (Instr.lookup 130 (.map (some mb)) (.int .i64 kind) true).run Tryz.prog W = .ok (.tuple #[.agg #[.int .i64 wh, .int .i64 t, .int .i64 n, .int .i64 s, .slice T tr.length tc], .bool is]) W)
theorem sl_in {G : Gh} {φ : Mp} {h : H} {w : World} {sl : V} {l : List Int} {u : Value} (r : HRel G φ h w) (e : slI h sl = some l) (hu : conc G φ sl = some u) : ∃ T tc, u = .slice T l.length tc ∧ IntsAt w T l ∧ ∀ ad, T = some ad → Foot φ h ad.block := by
  unfold slI at e
  split at e
  · simp only [Option.some.injEq] at e
    subst e
    rw [conc] at hu
    injection hu with hu
    exact ⟨none, 0, hu.symm, fun h0 => absurd rfl h0, fun ad h0 => by cases h0⟩
  · rename_i b o n c x
    rw [conc] at hu
    split at hu
    · rename_i loc hl
      injection hu with hu
      split at e
      · rename_i cs m sz ex hb
        cases hq : (Nat.beq o 0 && Nat.ble n m) with
        | false => rw [hq] at e; cases e
        | true =>
          rw [hq, cond_true] at e
          simp only [Bool.and_eq_true, Nat.beq_eq, Nat.ble_eq] at hq
          obtain ⟨rfl, hnm⟩ := hq
          split at e
          · rename_i l0 hc
            cases hq2 : Nat.beq l0.length n with
            | false => rw [hq2] at e; cases e
            | true =>
              rw [hq2, cond_true] at e
              injection e with e
              subst e
              have hn := Nat.eq_of_beq_eq_true hq2
              obtain ⟨_, hcell⟩ := cellsI_ok hc
              obtain ⟨C, et, hC, hsz, _, hcs⟩ := r.blk b _ _ hb hl
              refine ⟨some ⟨loc.blk, 0, none⟩, _, by rw [← hu, hn], fun _ => ⟨_, rfl, fun j y hy => ?_⟩, fun ad h0 => by cases h0; exact ⟨b, _, loc, hb, hl, rfl⟩⟩
              have hj : j < l0.length := (List.getElem?_eq_some_iff.1 hy).1
              obtain ⟨uu, h1, h2⟩ := hcs j _ (by omega) (hcell j y hy)
              rw [conc] at h1
              injection h1 with h1
              have ha : (⟨loc.blk, 0, none⟩ : Addr).add j = ⟨loc.blk, j, none⟩ := by unfold Addr.add; split <;> simp_all
              rw [ha, World.cell?, hC, h1]
              simpa using h2
          · cases e
      · cases e
    · cases hu
  · cases e
set_option maxRecDepth 100000 in
theorem look_of {bd : List (Int × Int)} {G : Gh} (hbd : ∀ (i : Nat) lo hi, bd[i]? = some (lo, hi) → lo ≤ G.σ i ∧ G.σ i ≤ hi) {k : V} {kind : Int} (hk : ∀ φ, conc G φ k = some (.int .i64 kind)) {is : Bool} {wh t n s : Int} {tr : List Int}
    (e : getRow bd k = some (is, wh, t, n, s, tr)) (w : World) : Calls Tryz.prog 50 #[] w (LookPost kind is wh t n s tr w) := by
  unfold getRow at e
  split at e
  · rename_i b h hr
    have r0 : HRel G (fun _ => none) H0 w := ⟨fun b x l hb => (nomatch hb), fun b b' x x' l l' hb => (nomatch hb), fun b _ => rfl⟩
    have ok0 : EnvOk (shE []) Tryz.prog G := evE_ok progOk (fun i lo hi h => by simp at h) (fun f h => by cases h) (fun n h => by cases h)
    have ok1 : EnvOk (shE bd) Tryz.prog G := evE_ok progOk hbd (fun f h => by cases h) (fun n h => by cases h)
    refine (run_ok (ul := []) ok0 (evE_fn progOk noHooks) Tryz.func50 (prog_name progOk Tryz.func50) rfl hr concL_nil r0 (fun _ _ _ => rfl)).mono ?_
    rintro en w' ⟨u', rfl, φ', hu, r, f', x⟩
    rw [conc] at hu
    split at hu
    · rename_i loc hl
      injection hu with hu
      subst hu
      have hb : Below w.heap.size w w' := by
        refine ⟨f'.os, f'.tape, f'.output, f'.size, fun k hk => f'.block k hk ?_⟩
        rintro ⟨b, y, l, hb, _⟩
        exact (nomatch hb)
      unfold gotRow at e
      split at e
      · rename_i wh' t' n' s' sl is' h2 hop
        split at e
        · rename_i l hs
          simp only [Option.some.injEq, Prod.mk.injEq] at e
          obtain ⟨rfl, rfl, rfl, rfl, rfl, rfl⟩ := e
          have look : ∀ W : World, Below w'.heap.size w' W → ∃ T tc, (Instr.lookup 130 (.map (some loc.blk)) (.int .i64 kind) true).run Tryz.prog W = .ok (.tuple #[.agg #[.int .i64 wh', .int .i64 t', .int .i64 n', .int .i64 s', .slice T l.length tc], .bool is']) W ∧ conc G φ' sl = some (.slice T l.length tc) ∧ IntsAt w' T l ∧ ∀ ad, T = some ad → Foot φ' h ad.block := by
            intro W hW
            have rW : HRel G φ' h W := r.frame (Mp.le_refl _) (fun b x l _ hl => hl) (fun k hk => hW.block k (r.foot_lt hk))
            have T0 := start_ok (G := G) (φ := φ') (l := [.map b, k]) (ul := [.map (some loc.blk), .int .i64 kind]) (n := 3) (concL_cons.2 ⟨_, _, by rw [conc, hl], concL_cons.2 ⟨_, _, hk φ', concL_nil, rfl⟩, rfl⟩) (by simp)
            obtain ⟨_, u, hrun, hcu⟩ := lookup_ok (a := ⟨#[.map (some loc.blk), .int .i64 kind, undef], []⟩) (o := lkO) ok1 rfl rfl rfl T0 rW hop
            have hL : (Instr.lookup 130 (.map (some loc.blk)) (.int .i64 kind) true).run Tryz.prog W = .ok u W := by
              have h9 : ((Instr.lookup 130 (.map (some loc.blk)) (.int .i64 kind) true).run Tryz.prog W).andThen (fun v w => (pure (Next.value v) : Sem Next).run Tryz.prog w) = .ok (.value u) W := by
                have h8 := hrun
                simp only [execOp, lkO, Sem.run_bind] at h8
                exact h8
              cases hx : (Instr.lookup 130 (.map (some loc.blk)) (.int .i64 kind) true).run Tryz.prog W with
              | ok v W' =>
                rw [hx] at h9
                simp [Result.andThen, Sem.run_pure] at h9
                obtain ⟨rfl, rfl⟩ := h9
                rfl
              | halt a b => rw [hx] at h9; simp [Result.andThen] at h9
            cases hsl : conc G φ' sl with
            | none => simp [conc, concL, hsl] at hcu
            | some su =>
              simp [conc, concL, hsl] at hcu
              obtain ⟨T, tc, rfl, hi⟩ := sl_in r hs hsl
              exact ⟨T, tc, by rw [hL, ← hcu], rfl, hi⟩
          obtain ⟨T, tc, h1, hT, hi, hfo⟩ := look w' (Below.refl _ _)
          refine ⟨loc.blk, T, tc, rfl, hb, hi, fun ad had => ?_, fun W hW => ?_⟩
          · rcases Nat.lt_or_ge ad.block w.heap.size with hlt | hge
            · obtain ⟨b, y, l, hb, _⟩ := x.foot _ (hfo ad had) hlt
              exact (nomatch hb)
            · exact hge
          obtain ⟨T2, tc2, h3, hT2, _, _⟩ := look W hW
          rw [hT] at hT2
          simp only [Option.some.injEq, Value.slice.injEq] at hT2
          obtain ⟨e1, _, e2⟩ := hT2
          rw [h3, ← e1, ← e2]
        · cases e
      · cases e
    · cases hu
  · cases e
end Go.Proofs.YtgmbppfkkiobhaaGreat.Wire
