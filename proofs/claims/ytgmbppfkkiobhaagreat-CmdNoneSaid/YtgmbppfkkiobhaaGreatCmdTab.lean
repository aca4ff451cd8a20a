/- cmd.shapes: of every kind, what a lookup hands back. -/
import Derived.Test.YtgmbppfkkiobhaaGreatCmdShape
import Derived.Test.YtgmbppfkkiobhaaGreatCmdFits
namespace Go.Proofs.YtgmbppfkkiobhaaGreat.Wire
open Go Go.RowKit Go.Lib Gv
/-- A shape is sound. -/
def Good (n s : Int) (tr : List Int) : Prop := (0 ≤ n ∧ n ≤ 60) ∧ (0 ≤ s ∧ s ≤ 60) ∧ tr.length ≤ 1000 ∧ ∀ i ∈ tr, 0 ≤ i ∧ i < n
theorem shape_of (kind : Int) (hk : okI kind) : ∃ (is : Bool) (wh t n s : Int) (tr : List Int), Good n s tr ∧ ∀ w, Calls Tryz.prog 50 #[] w (LookPost kind is wh t n s tr w) := by
  have one : ∀ {wh t n s : Int} {tr : List Int}, Good n s tr → getRow [] (.int .i64 kind) = some (true, wh, t, n, s, tr) → ∃ (is : Bool) (wh t n s : Int) (tr : List Int), Good n s tr ∧ ∀ w, Calls Tryz.prog 50 #[] w (LookPost kind is wh t n s tr w) :=
    fun {wh t n s tr} hg e => ⟨true, wh, t, n, s, tr, hg, fun w => look_of (G := mkGh [] [] rfl) (bd := []) (fun i lo hi h => by simp at h) (k := .int .i64 kind) (fun φ => by rw [conc]) e w⟩
  have none_ : ∀ (lo hi : Int), lo ≤ kind → kind ≤ hi → getRow [(lo, hi)] (.sint .i64 0 [(0,1)]) = some (false, 0, 0, 0, 0, []) → ∃ (is : Bool) (wh t n s : Int) (tr : List Int), Good n s tr ∧ ∀ w, Calls Tryz.prog 50 #[] w (LookPost kind is wh t n s tr w) := by
    intro lo hi h1 h2 e
    have s0 : (mkGh [] [kind] rfl).σ 0 = kind := rfl
    refine ⟨false, 0, 0, 0, 0, [], ⟨by omega, by omega, by simp, by simp⟩, fun w => look_of (G := mkGh [] [kind] rfl) (bd := [(lo, hi)]) ?_ (k := .sint .i64 0 [(0,1)]) (fun φ => by simp [conc, den, s0]) e w⟩
    intro i lo' hi' h
    match i, h with
    | 0, h =>
      simp at h
      obtain ⟨rfl, rfl⟩ := h
      exact ⟨h1, h2⟩
  obtain ⟨hk1, hk2⟩ := hk
  by_cases hlo : kind ≤ 0
  · exact none_ _ _ hk1 hlo rowUa
  by_cases hhi : 37 ≤ kind
  · exact none_ _ _ hhi hk2 rowUc
  by_cases hmid : 20 ≤ kind ∧ kind ≤ 29
  · exact none_ _ _ hmid.1 hmid.2 rowUb
  rcases (show kind = 1 ∨ kind = 2 ∨ kind = 3 ∨ kind = 4 ∨ kind = 5 ∨ kind = 6 ∨ kind = 7 ∨ kind = 8 ∨ kind = 9 ∨ kind = 10 ∨ kind = 11 ∨ kind = 12 ∨ kind = 13 ∨ kind = 14 ∨ kind = 15 ∨ kind = 16 ∨ kind = 17 ∨ kind = 18 ∨ kind = 19 ∨ kind = 30 ∨ kind = 31 ∨ kind = 32 ∨ kind = 33 ∨ kind = 34 ∨ kind = 35 ∨ kind = 36 by omega) with h | h | h | h | h | h | h | h | h | h | h | h | h | h | h | h | h | h | h | h | h | h | h | h | h | h
  · subst h
    exact one ⟨by omega, by omega, by simp, by decide⟩ row1
  · subst h
    exact one ⟨by omega, by omega, by simp, by decide⟩ row2
  · subst h
    exact one ⟨by omega, by omega, by simp, by decide⟩ row3
  · subst h
    exact one ⟨by omega, by omega, by simp, by decide⟩ row4
  · subst h
    exact one ⟨by omega, by omega, by simp, by decide⟩ row5
  · subst h
    exact one ⟨by omega, by omega, by simp, by decide⟩ row6
  · subst h
    exact one ⟨by omega, by omega, by simp, by decide⟩ row7
  · subst h
    exact one ⟨by omega, by omega, by simp, by decide⟩ row8
  · subst h
    exact one ⟨by omega, by omega, by simp, by decide⟩ row9
  · subst h
    exact one ⟨by omega, by omega, by simp, by decide⟩ row10
  · subst h
    exact one ⟨by omega, by omega, by simp, by decide⟩ row11
  · subst h
    exact one ⟨by omega, by omega, by simp, by decide⟩ row12
  · subst h
    exact one ⟨by omega, by omega, by simp, by decide⟩ row13
  · subst h
    exact one ⟨by omega, by omega, by simp, by decide⟩ row14
  · subst h
    exact one ⟨by omega, by omega, by simp, by decide⟩ row15
  · subst h
    exact one ⟨by omega, by omega, by simp, by decide⟩ row16
  · subst h
    exact one ⟨by omega, by omega, by simp, by decide⟩ row17
  · subst h
    exact one ⟨by omega, by omega, by simp, by decide⟩ row18
  · subst h
    exact one ⟨by omega, by omega, by simp, by decide⟩ row19
  · subst h
    exact one ⟨by omega, by omega, by simp, by decide⟩ row30
  · subst h
    exact one ⟨by omega, by omega, by simp, by decide⟩ row31
  · subst h
    exact one ⟨by omega, by omega, by simp, by decide⟩ row32
  · subst h
    exact one ⟨by omega, by omega, by simp, by decide⟩ row33
  · subst h
    exact one ⟨by omega, by omega, by simp, by decide⟩ row34
  · subst h
    exact one ⟨by omega, by omega, by simp, by decide⟩ row35
  · subst h
    exact one ⟨by omega, by omega, by simp, by decide⟩ row36
end Go.Proofs.YtgmbppfkkiobhaaGreat.Wire
