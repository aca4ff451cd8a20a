/- cmd.shapes: of every kind, what a lookup hands back. -/
import Derived.Test.YthlpdficpmdebaaGreatJ14
namespace Go.Proofs.YthlpdficpmdebaaGreat.Wire
open Go Go.RowKit Go.Lib Gv
/-- A shape is sound. -/
def GoodT (n s : Int) (tr : List Int) : Prop := (0 ≤ n ∧ n ≤ 60) ∧ (0 ≤ s ∧ s ≤ 60) ∧ tr.length ≤ 1000 ∧ ∀ i ∈ tr, 0 ≤ i ∧ i < n
def shT (k : Int) : RowT := if k = 1 then (true, 1, 1, 1, 0, []) else if k = 2 then (true, 1, 2, 0, 0, []) else if k = 3 then (true, 1, 1, 7, 0, [0, 1]) else if k = 4 then (true, 1, 0, 0, 1, []) else if k = 5 then (true, 1, 1, 1, 0, []) else if k = 6 then (true, 1, 1, 1, 0, []) else if k = 7 then (true, 1, 2, 1, 0, []) else if k = 8 then (true, 1, 2, 1, 0, [0]) else if k = 9 then (true, 2, 6, 8, 0, [0, 6, 7]) else if k = 10 then (true, 2, 0, 1, 1, [0]) else if k = 11 then (true, 2, 0, 1, 0, []) else if k = 12 then (true, 2, 0, 1, 0, []) else if k = 13 then (true, 2, 0, 2, 0, []) else if k = 14 then (true, 2, 0, 2, 0, [1]) else if k = 15 then (true, 2, 0, 3, 3, []) else if k = 16 then (true, 1, 0, 0, 0, []) else if k = 17 then (true, 1, 0, 2, 0, [0, 1]) else if k = 18 then (true, 1, 0, 0, 0, []) else if k = 19 then (true, 1, 0, 0, 0, []) else if k = 30 then (true, 3, 0, 1, 0, []) else if k = 31 then (true, 3, 2, 0, 0, []) else if k = 32 then (true, 3, 0, 0, 0, []) else if k = 33 then (true, 2, 0, 0, 0, []) else if k = 34 then (true, 3, 0, 0, 0, []) else if k = 35 then (true, 3, 0, 1, 0, []) else if k = 36 then (true, 3, 1, 0, 0, []) else (false, 0, 0, 0, 0, [])
set_option maxRecDepth 10000 in
theorem shape_of (kind : Int) (hk : okI kind) : ∃ (is : Bool) (wh t n s : Int) (tr : List Int), shT kind = (is, wh, t, n, s, tr) ∧ GoodT n s tr ∧ ∀ w, Calls Tryz.prog 51 #[] w (LookPost kind is wh t n s tr w) := by
  have one : ∀ {wh t n s : Int} {tr : List Int}, shT kind = (true, wh, t, n, s, tr) → GoodT n s tr → getRow [] (.int .i64 kind) = some (true, wh, t, n, s, tr) → ∃ (is : Bool) (wh t n s : Int) (tr : List Int), shT kind = (is, wh, t, n, s, tr) ∧ GoodT n s tr ∧ ∀ w, Calls Tryz.prog 51 #[] w (LookPost kind is wh t n s tr w) :=
    fun {wh t n s tr} hs hg e => ⟨true, wh, t, n, s, tr, hs, hg, fun w => look_of (G := mkGh [] [] rfl) (bd := []) (fun i lo hi h => by simp at h) (k := .int .i64 kind) (fun φ => by rw [conc]) e w⟩
  have none_ : ∀ (lo hi : Int), lo ≤ kind → kind ≤ hi → getRow [(lo, hi)] (.sint .i64 0 [(0,1)]) = some (false, 0, 0, 0, 0, []) → shT kind = (false, 0, 0, 0, 0, []) → ∃ (is : Bool) (wh t n s : Int) (tr : List Int), shT kind = (is, wh, t, n, s, tr) ∧ GoodT n s tr ∧ ∀ w, Calls Tryz.prog 51 #[] w (LookPost kind is wh t n s tr w) := by
    intro lo hi h1 h2 e hs
    have s0 : (mkGh [] [kind] rfl).σ 0 = kind := rfl
    refine ⟨false, 0, 0, 0, 0, [], hs, ⟨by omega, by omega, by simp, by simp⟩, fun w => look_of (G := mkGh [] [kind] rfl) (bd := [(lo, hi)]) ?_ (k := .sint .i64 0 [(0,1)]) (fun φ => by simp [conc, den, s0]) e w⟩
    intro i lo' hi' h
    match i, h with
    | 0, h =>
      simp at h
      obtain ⟨rfl, rfl⟩ := h
      exact ⟨h1, h2⟩
  obtain ⟨hk1, hk2⟩ := hk
  by_cases hlo : kind ≤ 0
  · exact none_ _ _ hk1 hlo rowUa (by simp only [shT]; repeat (rw [if_neg (by omega)]))
  by_cases hhi : 37 ≤ kind
  · exact none_ _ _ hhi hk2 rowUc (by simp only [shT]; repeat (rw [if_neg (by omega)]))
  by_cases hmid : 20 ≤ kind ∧ kind ≤ 29
  · exact none_ _ _ hmid.1 hmid.2 rowUb (by simp only [shT]; repeat (rw [if_neg (by omega)]))
  rcases (show kind = 1 ∨ kind = 2 ∨ kind = 3 ∨ kind = 4 ∨ kind = 5 ∨ kind = 6 ∨ kind = 7 ∨ kind = 8 ∨ kind = 9 ∨ kind = 10 ∨ kind = 11 ∨ kind = 12 ∨ kind = 13 ∨ kind = 14 ∨ kind = 15 ∨ kind = 16 ∨ kind = 17 ∨ kind = 18 ∨ kind = 19 ∨ kind = 30 ∨ kind = 31 ∨ kind = 32 ∨ kind = 33 ∨ kind = 34 ∨ kind = 35 ∨ kind = 36 by omega) with h | h | h | h | h | h | h | h | h | h | h | h | h | h | h | h | h | h | h | h | h | h | h | h | h | h
  · subst h
    exact one rfl ⟨by omega, by omega, by simp, by decide⟩ row1
  · subst h
    exact one rfl ⟨by omega, by omega, by simp, by decide⟩ row2
  · subst h
    exact one rfl ⟨by omega, by omega, by simp, by decide⟩ row3
  · subst h
    exact one rfl ⟨by omega, by omega, by simp, by decide⟩ row4
  · subst h
    exact one rfl ⟨by omega, by omega, by simp, by decide⟩ row5
  · subst h
    exact one rfl ⟨by omega, by omega, by simp, by decide⟩ row6
  · subst h
    exact one rfl ⟨by omega, by omega, by simp, by decide⟩ row7
  · subst h
    exact one rfl ⟨by omega, by omega, by simp, by decide⟩ row8
  · subst h
    exact one rfl ⟨by omega, by omega, by simp, by decide⟩ row9
  · subst h
    exact one rfl ⟨by omega, by omega, by simp, by decide⟩ row10
  · subst h
    exact one rfl ⟨by omega, by omega, by simp, by decide⟩ row11
  · subst h
    exact one rfl ⟨by omega, by omega, by simp, by decide⟩ row12
  · subst h
    exact one rfl ⟨by omega, by omega, by simp, by decide⟩ row13
  · subst h
    exact one rfl ⟨by omega, by omega, by simp, by decide⟩ row14
  · subst h
    exact one rfl ⟨by omega, by omega, by simp, by decide⟩ row15
  · subst h
    exact one rfl ⟨by omega, by omega, by simp, by decide⟩ row16
  · subst h
    exact one rfl ⟨by omega, by omega, by simp, by decide⟩ row17
  · subst h
    exact one rfl ⟨by omega, by omega, by simp, by decide⟩ row18
  · subst h
    exact one rfl ⟨by omega, by omega, by simp, by decide⟩ row19
  · subst h
    exact one rfl ⟨by omega, by omega, by simp, by decide⟩ row30
  · subst h
    exact one rfl ⟨by omega, by omega, by simp, by decide⟩ row31
  · subst h
    exact one rfl ⟨by omega, by omega, by simp, by decide⟩ row32
  · subst h
    exact one rfl ⟨by omega, by omega, by simp, by decide⟩ row33
  · subst h
    exact one rfl ⟨by omega, by omega, by simp, by decide⟩ row34
  · subst h
    exact one rfl ⟨by omega, by omega, by simp, by decide⟩ row35
  · subst h
    exact one rfl ⟨by omega, by omega, by simp, by decide⟩ row36
end Go.Proofs.YthlpdficpmdebaaGreat.Wire
