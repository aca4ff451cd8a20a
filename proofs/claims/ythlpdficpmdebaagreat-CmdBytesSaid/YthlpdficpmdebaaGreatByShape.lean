/- complineref28.shape and Check: the document's answer to which commands may be, and that the program's is the same. -/
import Derived.Test.YthlpdficpmdebaaGreatByCheck
namespace Go.Proofs.YthlpdficpmdebaaGreat.Wire
open Go Go.RowKit Go.Lib Gv
abbrev RowD := Int × Int × Int × List Int × Int
noncomputable def gotD (r : RV) : Option RowD := match r with
  | .ok (.tuple [.int .i64 a, .int .i64 b, .int .i64 c, sl, .int .i64 d]) h => (match slI h sl with | some l => some (a, b, c, l, d) | none => none)
  | _ => none
noncomputable def getD (bd : List (Int × Int)) (k : V) : Option RowD := gotD (callN (shE bd) 10 55 [k] H0)
def shD (k : Int) : RowD := if k = 1 then (1, 1, 1, [], 1) else if k = 2 then (2, 0, 0, [], 1) else if k = 3 then (1, 7, 7, [0, 1], 1) else if k = 4 then (0, 0, 60, [], 1) else if k = 5 then (1, 1, 1, [], 1) else if k = 6 then (1, 1, 1, [], 1) else if k = 7 then (2, 1, 1, [], 1) else if k = 8 then (2, 1, 1, [0], 1) else if k = 9 then (6, 8, 8, [0, 6, 7], 2) else if k = 10 then (0, 1, 60, [0], 2) else if k = 11 then (0, 1, 1, [], 2) else if k = 12 then (0, 1, 1, [], 2) else if k = 13 then (0, 2, 2, [], 2) else if k = 14 then (0, 2, 2, [1], 2) else if k = 15 then (0, 3, 60, [], 2) else if k = 16 then (0, 0, 0, [], 1) else if k = 17 then (0, 2, 2, [0, 1], 1) else if k = 18 then (0, 0, 0, [], 1) else if k = 19 then (0, 0, 0, [], 1) else if k = 30 then (0, 1, 1, [], 3) else if k = 31 then (2, 0, 0, [], 3) else if k = 32 then (0, 0, 0, [], 3) else if k = 33 then (0, 0, 0, [], 2) else if k = 34 then (0, 0, 0, [], 3) else if k = 35 then (0, 1, 1, [], 3) else if k = 36 then (1, 0, 0, [], 3) else (0, 0, 0, [], 0)
set_option maxRecDepth 100000 in
theorem rowD1 : getD [] (.int .i64 1) = some (1, 1, 1, [], 1) := by kernel_rfl
set_option maxRecDepth 100000 in
theorem rowD2 : getD [] (.int .i64 2) = some (2, 0, 0, [], 1) := by kernel_rfl
set_option maxRecDepth 100000 in
theorem rowD3 : getD [] (.int .i64 3) = some (1, 7, 7, [0, 1], 1) := by kernel_rfl
set_option maxRecDepth 100000 in
theorem rowD4 : getD [] (.int .i64 4) = some (0, 0, 60, [], 1) := by kernel_rfl
set_option maxRecDepth 100000 in
theorem rowD5 : getD [] (.int .i64 5) = some (1, 1, 1, [], 1) := by kernel_rfl
set_option maxRecDepth 100000 in
theorem rowD6 : getD [] (.int .i64 6) = some (1, 1, 1, [], 1) := by kernel_rfl
set_option maxRecDepth 100000 in
theorem rowD7 : getD [] (.int .i64 7) = some (2, 1, 1, [], 1) := by kernel_rfl
set_option maxRecDepth 100000 in
theorem rowD8 : getD [] (.int .i64 8) = some (2, 1, 1, [0], 1) := by kernel_rfl
set_option maxRecDepth 100000 in
theorem rowD9 : getD [] (.int .i64 9) = some (6, 8, 8, [0, 6, 7], 2) := by kernel_rfl
set_option maxRecDepth 100000 in
theorem rowD10 : getD [] (.int .i64 10) = some (0, 1, 60, [0], 2) := by kernel_rfl
set_option maxRecDepth 100000 in
theorem rowD11 : getD [] (.int .i64 11) = some (0, 1, 1, [], 2) := by kernel_rfl
set_option maxRecDepth 100000 in
theorem rowD12 : getD [] (.int .i64 12) = some (0, 1, 1, [], 2) := by kernel_rfl
set_option maxRecDepth 100000 in
theorem rowD13 : getD [] (.int .i64 13) = some (0, 2, 2, [], 2) := by kernel_rfl
set_option maxRecDepth 100000 in
theorem rowD14 : getD [] (.int .i64 14) = some (0, 2, 2, [1], 2) := by kernel_rfl
set_option maxRecDepth 100000 in
theorem rowD15 : getD [] (.int .i64 15) = some (0, 3, 60, [], 2) := by kernel_rfl
set_option maxRecDepth 100000 in
theorem rowD16 : getD [] (.int .i64 16) = some (0, 0, 0, [], 1) := by kernel_rfl
set_option maxRecDepth 100000 in
theorem rowD17 : getD [] (.int .i64 17) = some (0, 2, 2, [0, 1], 1) := by kernel_rfl
set_option maxRecDepth 100000 in
theorem rowD18 : getD [] (.int .i64 18) = some (0, 0, 0, [], 1) := by kernel_rfl
set_option maxRecDepth 100000 in
theorem rowD19 : getD [] (.int .i64 19) = some (0, 0, 0, [], 1) := by kernel_rfl
set_option maxRecDepth 100000 in
theorem rowD30 : getD [] (.int .i64 30) = some (0, 1, 1, [], 3) := by kernel_rfl
set_option maxRecDepth 100000 in
theorem rowD31 : getD [] (.int .i64 31) = some (2, 0, 0, [], 3) := by kernel_rfl
set_option maxRecDepth 100000 in
theorem rowD32 : getD [] (.int .i64 32) = some (0, 0, 0, [], 3) := by kernel_rfl
set_option maxRecDepth 100000 in
theorem rowD33 : getD [] (.int .i64 33) = some (0, 0, 0, [], 2) := by kernel_rfl
set_option maxRecDepth 100000 in
theorem rowD34 : getD [] (.int .i64 34) = some (0, 0, 0, [], 3) := by kernel_rfl
set_option maxRecDepth 100000 in
theorem rowD35 : getD [] (.int .i64 35) = some (0, 1, 1, [], 3) := by kernel_rfl
set_option maxRecDepth 100000 in
theorem rowD36 : getD [] (.int .i64 36) = some (1, 0, 0, [], 3) := by kernel_rfl
set_option maxRecDepth 100000 in
theorem rowDa : getD [(-9223372036854775808, 0)] (.sint .i64 0 [(0,1)]) = some (0, 0, 0, [], 0) := by kernel_rfl
set_option maxRecDepth 100000 in
theorem rowDb : getD [(20, 29)] (.sint .i64 0 [(0,1)]) = some (0, 0, 0, [], 0) := by kernel_rfl
set_option maxRecDepth 100000 in
theorem rowDc : getD [(37, 9223372036854775807)] (.sint .i64 0 [(0,1)]) = some (0, 0, 0, [], 0) := by kernel_rfl
def ShapePost (r : RowD) (w : World) (en : Ending) (w' : World) : Prop :=
  ∃ T tc, en = .returned (.tuple #[.int .i64 r.1, .int .i64 r.2.1, .int .i64 r.2.2.1, .slice T r.2.2.2.1.length tc, .int .i64 r.2.2.2.2]) ∧ IntsAt w' T r.2.2.2.1 ∧ Below w.heap.size w w'
set_option maxRecDepth 100000 in
theorem shapeD_run {bd : List (Int × Int)} {G : Gh} (hbd : ∀ (i : Nat) lo hi, bd[i]? = some (lo, hi) → lo ≤ G.σ i ∧ G.σ i ≤ hi) {k : V} {kind : Int} (hk : ∀ φ, conc G φ k = some (.int .i64 kind)) {r : RowD}
    (e : getD bd k = some r) (w : World) : Calls Tryz.prog 55 #[.int .i64 kind] w (ShapePost r w) := by
  unfold getD gotD at e
  split at e
  · rename_i a b c sl d h hr
    split at e
    · rename_i l hs
      simp only [Option.some.injEq] at e
      subst e
      have r0 : HRel G (fun _ => none) H0 w := ⟨fun b x l hb => (nomatch hb), fun b b' x x' l l' hb => (nomatch hb), fun b _ => rfl⟩
      have ok1 : EnvOk (shE bd) Tryz.prog G := evE_ok progOk hbd (fun f h => by cases h) (fun n h => by cases h)
      refine (run_ok (ul := [.int .i64 kind]) ok1 (evE_fn progOk noHooks) Tryz.func55 (prog_name progOk Tryz.func55) rfl hr (concL_cons.2 ⟨_, _, hk _, concL_nil, rfl⟩) r0 (fun _ _ _ => rfl)).mono ?_
      rintro en w' ⟨u', rfl, φ', hu, r, f', x⟩
      have hb : Below w.heap.size w w' := by
        refine ⟨f'.os, f'.tape, f'.output, f'.size, fun k hk => f'.block k hk ?_⟩
        rintro ⟨b, y, l, hb, _⟩
        exact (nomatch hb)
      cases hsl : conc G φ' sl with
      | none => simp [conc, concL, hsl] at hu
      | some su =>
        simp [conc, concL, hsl] at hu
        obtain ⟨T, tc, rfl, hi, _⟩ := sl_in r hs hsl
        exact ⟨T, tc, by rw [← hu], hi, hb⟩
    · cases e
  · cases e
/-- Of every kind: the document's row. -/
theorem shapeD_of (kind : Int) (hk : okI kind) : ∀ w, Calls Tryz.prog 55 #[.int .i64 kind] w (ShapePost (shD kind) w) := by
  have one : ∀ {r : RowD}, shD kind = r → getD [] (.int .i64 kind) = some r → ∀ w, Calls Tryz.prog 55 #[.int .i64 kind] w (ShapePost (shD kind) w) :=
    fun {r} hs e w => by rw [hs]; exact shapeD_run (G := mkGh [] [] rfl) (bd := []) (fun i lo hi h => by simp at h) (k := .int .i64 kind) (fun φ => by rw [conc]) e w
  have none_ : ∀ (lo hi : Int), lo ≤ kind → kind ≤ hi → getD [(lo, hi)] (.sint .i64 0 [(0,1)]) = some (0, 0, 0, [], 0) → shD kind = (0, 0, 0, [], 0) → ∀ w, Calls Tryz.prog 55 #[.int .i64 kind] w (ShapePost (shD kind) w) := by
    intro lo hi h1 h2 e hs w
    have s0 : (mkGh [] [kind] rfl).σ 0 = kind := rfl
    rw [hs]
    refine shapeD_run (G := mkGh [] [kind] rfl) (bd := [(lo, hi)]) ?_ (k := .sint .i64 0 [(0,1)]) (fun φ => by simp [conc, den, s0]) e w
    intro i lo' hi' h
    match i, h with
    | 0, h =>
      simp at h
      obtain ⟨rfl, rfl⟩ := h
      exact ⟨h1, h2⟩
  obtain ⟨hk1, hk2⟩ := hk
  by_cases hlo : kind ≤ 0
  · exact none_ _ _ hk1 hlo rowDa (by simp only [shD]; repeat (rw [if_neg (by omega)]))
  by_cases hhi : 37 ≤ kind
  · exact none_ _ _ hhi hk2 rowDc (by simp only [shD]; repeat (rw [if_neg (by omega)]))
  by_cases hmid : 20 ≤ kind ∧ kind ≤ 29
  · exact none_ _ _ hmid.1 hmid.2 rowDb (by simp only [shD]; repeat (rw [if_neg (by omega)]))
  rcases (show kind = 1 ∨ kind = 2 ∨ kind = 3 ∨ kind = 4 ∨ kind = 5 ∨ kind = 6 ∨ kind = 7 ∨ kind = 8 ∨ kind = 9 ∨ kind = 10 ∨ kind = 11 ∨ kind = 12 ∨ kind = 13 ∨ kind = 14 ∨ kind = 15 ∨ kind = 16 ∨ kind = 17 ∨ kind = 18 ∨ kind = 19 ∨ kind = 30 ∨ kind = 31 ∨ kind = 32 ∨ kind = 33 ∨ kind = 34 ∨ kind = 35 ∨ kind = 36 by omega) with h | h | h | h | h | h | h | h | h | h | h | h | h | h | h | h | h | h | h | h | h | h | h | h | h | h
  · subst h; exact one rfl rowD1
  · subst h; exact one rfl rowD2
  · subst h; exact one rfl rowD3
  · subst h; exact one rfl rowD4
  · subst h; exact one rfl rowD5
  · subst h; exact one rfl rowD6
  · subst h; exact one rfl rowD7
  · subst h; exact one rfl rowD8
  · subst h; exact one rfl rowD9
  · subst h; exact one rfl rowD10
  · subst h; exact one rfl rowD11
  · subst h; exact one rfl rowD12
  · subst h; exact one rfl rowD13
  · subst h; exact one rfl rowD14
  · subst h; exact one rfl rowD15
  · subst h; exact one rfl rowD16
  · subst h; exact one rfl rowD17
  · subst h; exact one rfl rowD18
  · subst h; exact one rfl rowD19
  · subst h; exact one rfl rowD30
  · subst h; exact one rfl rowD31
  · subst h; exact one rfl rowD32
  · subst h; exact one rfl rowD33
  · subst h; exact one rfl rowD34
  · subst h; exact one rfl rowD35
  · subst h; exact one rfl rowD36
def GoodD (r : RowD) : Prop := 0 ≤ r.2.1 ∧ r.2.2.2.1.length ≤ 3 ∧ ∀ i ∈ r.2.2.2.1, 0 ≤ i ∧ i < r.2.1
theorem shD_good (kind : Int) : GoodD (shD kind) := by
  unfold shD
  repeat' (first | (apply iteInduction <;> intro _) | exact ⟨by decide, by decide, by decide⟩)
/-- What the document's Check says of a command. -/
def chkD (kind : Int) (party : ByteArray) (nums : List Int) (n m : Nat) : Int :=
  if (shD kind).2.2.2.2 = 0 ∨ (m : Int) ≠ (shD kind).1 ∨ (n : Int) < (shD kind).2.1 ∨ (shD kind).2.2.1 < (n : Int) ∨ (kind = 15 ∧ (n : Int) % 3 ≠ 0) then 1 else if anyB nums (shD kind).2.2.2.1 = true then 1
  else if ((shD kind).2.2.2.2 = 1 ∧ decide (party.toList = [66, 65, 78, 75]) = false) ∨ ((shD kind).2.2.2.2 = 2 ∧ (decide (party.toList = [66, 65, 78, 75]) = true ∨ decide (party.toList = []) = true)) then 22 else 0
theorem chk_row {kind : Int} {party : ByteArray} {nums : List Int} {n m : Nat} {wh t n0 s : Int} {tr : List Int} {b c : Int} (h1 : shT kind = (true, wh, t, n0, s, tr)) (h2 : shD kind = (t, b, c, tr, wh)) (h3 : wh ≠ 0)
    (h4 : fitB n0 s n = false ↔ ((n : Int) < b ∨ c < (n : Int) ∨ (kind = 15 ∧ (n : Int) % 3 ≠ 0))) : chkP kind party nums n m = chkD kind party nums n m := by
  unfold chkP chkD chkE
  rw [h1, h2]
  dsimp only
  have e : (true = false ∨ (m : Int) ≠ t ∨ fitB n0 s n = false) ↔ (wh = 0 ∨ (m : Int) ≠ t ∨ (n : Int) < b ∨ c < (n : Int) ∨ (kind = 15 ∧ (n : Int) % 3 ≠ 0)) := by
    rw [h4]
    constructor
    · rintro (h | h)
      · cases h
      · exact .inr h
    · rintro (h | h)
      · exact absurd h h3
      · exact .inr h
  simp only [e]
theorem fit_false (n0 s : Int) (n : Nat) : fitB n0 s n = false ↔ ((n : Int) ≠ n0 ∧ (¬ (0 < s ∧ n0 < (n : Int) ∧ (n : Int) ≤ 60) ∨ ((n : Int) - n0) % s ≠ 0)) := by
  unfold fitB
  simp only [Bool.or_eq_false_iff, Bool.and_eq_false_iff, decide_eq_false_iff_not, beq_eq_false_iff_ne]
set_option maxRecDepth 10000 in
/-- The program's Check and the document's say the same. -/
theorem chk_eq (kind : Int) (party : ByteArray) (nums : List Int) (n m : Nat) : chkP kind party nums n m = chkD kind party nums n m := by
  by_cases hno : kind ≤ 0 ∨ 37 ≤ kind ∨ (20 ≤ kind ∧ kind ≤ 29)
  · have h1 : shT kind = (false, 0, 0, 0, 0, []) := by simp only [shT]; repeat (rw [if_neg (by omega)])
    have h2 : shD kind = (0, 0, 0, [], 0) := by simp only [shD]; repeat (rw [if_neg (by omega)])
    unfold chkP chkD chkE
    rw [h1, h2]
    simp
  rcases (show kind = 1 ∨ kind = 2 ∨ kind = 3 ∨ kind = 4 ∨ kind = 5 ∨ kind = 6 ∨ kind = 7 ∨ kind = 8 ∨ kind = 9 ∨ kind = 10 ∨ kind = 11 ∨ kind = 12 ∨ kind = 13 ∨ kind = 14 ∨ kind = 15 ∨ kind = 16 ∨ kind = 17 ∨ kind = 18 ∨ kind = 19 ∨ kind = 30 ∨ kind = 31 ∨ kind = 32 ∨ kind = 33 ∨ kind = 34 ∨ kind = 35 ∨ kind = 36 by omega) with h | h | h | h | h | h | h | h | h | h | h | h | h | h | h | h | h | h | h | h | h | h | h | h | h | h
  · subst h; exact chk_row rfl rfl (by decide) (by rw [fit_false]; omega)
  · subst h; exact chk_row rfl rfl (by decide) (by rw [fit_false]; omega)
  · subst h; exact chk_row rfl rfl (by decide) (by rw [fit_false]; omega)
  · subst h; exact chk_row rfl rfl (by decide) (by rw [fit_false]; omega)
  · subst h; exact chk_row rfl rfl (by decide) (by rw [fit_false]; omega)
  · subst h; exact chk_row rfl rfl (by decide) (by rw [fit_false]; omega)
  · subst h; exact chk_row rfl rfl (by decide) (by rw [fit_false]; omega)
  · subst h; exact chk_row rfl rfl (by decide) (by rw [fit_false]; omega)
  · subst h; exact chk_row rfl rfl (by decide) (by rw [fit_false]; omega)
  · subst h; exact chk_row rfl rfl (by decide) (by rw [fit_false]; omega)
  · subst h; exact chk_row rfl rfl (by decide) (by rw [fit_false]; omega)
  · subst h; exact chk_row rfl rfl (by decide) (by rw [fit_false]; omega)
  · subst h; exact chk_row rfl rfl (by decide) (by rw [fit_false]; omega)
  · subst h; exact chk_row rfl rfl (by decide) (by rw [fit_false]; omega)
  · subst h; exact chk_row rfl rfl (by decide) (by rw [fit_false]; omega)
  · subst h; exact chk_row rfl rfl (by decide) (by rw [fit_false]; omega)
  · subst h; exact chk_row rfl rfl (by decide) (by rw [fit_false]; omega)
  · subst h; exact chk_row rfl rfl (by decide) (by rw [fit_false]; omega)
  · subst h; exact chk_row rfl rfl (by decide) (by rw [fit_false]; omega)
  · subst h; exact chk_row rfl rfl (by decide) (by rw [fit_false]; omega)
  · subst h; exact chk_row rfl rfl (by decide) (by rw [fit_false]; omega)
  · subst h; exact chk_row rfl rfl (by decide) (by rw [fit_false]; omega)
  · subst h; exact chk_row rfl rfl (by decide) (by rw [fit_false]; omega)
  · subst h; exact chk_row rfl rfl (by decide) (by rw [fit_false]; omega)
  · subst h; exact chk_row rfl rfl (by decide) (by rw [fit_false]; omega)
  · subst h; exact chk_row rfl rfl (by decide) (by rw [fit_false]; omega)
end Go.Proofs.YthlpdficpmdebaaGreat.Wire
