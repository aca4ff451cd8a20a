/- complinelaw25.OptLends: what is hooked in, products and quotients. -/
import Derived.Test.YtegfcailcgogpaaGreatAlive25
import Derived.Test.YtegfcailcgogpaaGreatNeedB
namespace Go.Proofs.YtegfcailcgogpaaGreat
open Go Go.RowKit Gv
def lnTA : List HT := [⟨301, [.sint .i64 0 [(1,1)], .sint .i64 0 [(0,1)], .sint .i64 0 [(0,1)]], .tuple [.sint .i64 0 [(1,1)], .int .i64 0]⟩, ⟨301, [.sint .i64 0 [(1,1)], .int .i64 0, .sint .i64 0 [(0,1)]], .tuple [.int .i64 0, .int .i64 0]⟩]
def lnTB : List HT := [⟨301, [.sint .i64 0 [(1,1)], .sint .i64 0 [(0,1)], .sint .i64 0 [(0,1)]], .tuple [.sint .i64 0 [(1,1)], .int .i64 0]⟩, ⟨301, [.sint .i64 0 [(1,1)], .int .i64 0, .sint .i64 0 [(0,1)]], .tuple [.int .i64 0, .int .i64 0]⟩, ⟨309, [.sint .i64 0 [(1,1),(2,-1)], .int .i64 10, .int .i64 1000], .tuple [.sint .i64 0 [(3,1)], .int .i64 0]⟩, ⟨309, [.sint .i64 0 [(2,-1),(1,1)], .int .i64 10, .int .i64 1000], .tuple [.sint .i64 0 [(3,1)], .int .i64 0]⟩, ⟨311, [.sint .i64 0 [(3,1)], .int .i64 10, .int .i64 1000], .tuple [.sint .i64 0 [(3,9)], .int .i64 0]⟩, ⟨311, [.sint .i64 0 [(0,1)], .int .i64 10, .int .i64 1000], .tuple [.sint .i64 0 [(0,9)], .int .i64 0]⟩]
def lnTC : List HT := [⟨301, [.sint .i64 0 [(1,1)], .sint .i64 0 [(0,1)], .sint .i64 0 [(0,1)]], .tuple [.sint .i64 0 [(1,1)], .int .i64 0]⟩, ⟨301, [.sint .i64 0 [(1,1)], .int .i64 0, .sint .i64 0 [(0,1)]], .tuple [.int .i64 0, .int .i64 0]⟩, ⟨309, [.sint .i64 0 [(1,1)], .int .i64 10, .int .i64 1000], .tuple [.sint .i64 0 [(3,1)], .int .i64 0]⟩, ⟨311, [.sint .i64 0 [(3,1)], .int .i64 10, .int .i64 1000], .tuple [.sint .i64 0 [(3,9)], .int .i64 0]⟩, ⟨311, [.sint .i64 0 [(0,1)], .int .i64 10, .int .i64 1000], .tuple [.sint .i64 0 [(0,9)], .int .i64 0]⟩]
def lnNB : List NL := [⟨1, .i64, (8,[(2,-1),(1,1)]), (9,[]), 3⟩, ⟨1, .i64, (8,[(1,1),(2,-1)]), (9,[]), 3⟩]
def lnNC : List NL := [⟨1, .i64, (8,[(1,1)]), (9,[]), 3⟩]
noncomputable def lnA : Nat → Option (Gv.Call → List V → H → RV) := hkT [⟨6, [], .bool true⟩]
set_option maxRecDepth 100000 in
theorem lnA_ok (e : List Value) (s : List Int) (he : e.all (·.oneCell') = true) : HooksOk Tryz.prog (mkGh e s he) lnA := hkT_ok progOk _ fun t ht => by
  simp at ht
  subst ht
  exact aliveOk6 _
section
variable {G : Gh} {qty amount cash v : Int}
theorem lnMd1 (s0 : G.σ 0 = qty) (s1 : G.σ 1 = amount) (hq : 1 ≤ qty ∧ qty ≤ 1000) (ha : 0 ≤ amount ∧ amount ≤ 5000) : HTOk Tryz.prog G ⟨301, [.sint .i64 0 [(1,1)], .sint .i64 0 [(0,1)], .sint .i64 0 [(0,1)]], .tuple [.sint .i64 0 [(1,1)], .int .i64 0]⟩ := by
  refine HTOk.of Tryz.func301 rfl (ul := [.int .i64 amount, .int .i64 qty, .int .i64 qty]) (u := .tuple #[.int .i64 amount, .int .i64 0]) (fun φ => by simp [concL, conc, den, s0, s1]) (fun φ => by simp [concL, conc, den, s1]) (fun w => ?_)
  have := mmuldiv_ok amount qty qty (by omega) (by omega) (by omega) w
  rwa [md_val (z := amount) (Int.mul_ediv_cancel _ (by omega)) (by omega)] at this
theorem lnMd2 (s0 : G.σ 0 = qty) (s1 : G.σ 1 = amount) (hq : 1 ≤ qty ∧ qty ≤ 1000) (ha : 0 ≤ amount ∧ amount ≤ 5000) : HTOk Tryz.prog G ⟨301, [.sint .i64 0 [(1,1)], .int .i64 0, .sint .i64 0 [(0,1)]], .tuple [.int .i64 0, .int .i64 0]⟩ := by
  refine HTOk.of Tryz.func301 rfl (ul := [.int .i64 amount, .int .i64 0, .int .i64 qty]) (u := .tuple #[.int .i64 0, .int .i64 0]) (fun φ => by simp [concL, conc, den, s0, s1]) (fun φ => by simp [concL, conc]) (fun w => ?_)
  have := mmuldiv_ok amount 0 qty (by omega) (by omega) (by omega) w
  rwa [md_val (z := 0) (by rw [Int.mul_zero, Int.zero_ediv]) (by omega)] at this
theorem lnNd {l : List (Nat × Int)} {lack : Int} (hl : ∀ φ, conc G φ (.sint .i64 0 l) = some (.int .i64 lack)) (s3 : G.σ 3 = v) (h1 : 1 ≤ lack ∧ lack ≤ 5000) (hv : v = (lack + 8) / 9) : HTOk Tryz.prog G ⟨309, [.sint .i64 0 l, .int .i64 10, .int .i64 1000], .tuple [.sint .i64 0 [(3,1)], .int .i64 0]⟩ := by
  refine HTOk.of Tryz.func309 rfl (ul := [.int .i64 lack, .int .i64 10, .int .i64 1000]) (u := .tuple #[.int .i64 v, .int .i64 0]) (fun φ => concL_cons.2 ⟨_, _, hl φ, by simp [concL, conc], rfl⟩) (fun φ => by simp [concL, conc, den, s3]) (fun w => ?_)
  have := needM lack 10 1000 (by omega) (by omega) (by omega) w
  have e : neV lack 10 1000 = .tuple #[.int .i64 v, .int .i64 0] := by
    unfold neV
    have e1 : (lack * 10000 + 10 * (10000 - 1000) - 1) / (10 * (10000 - 1000)) = v := by omega
    rw [e1, if_pos (by omega)]
  rwa [e] at this
theorem lnWo {j : Nat} {x : Int} (sj : G.σ j = x) (h : 0 ≤ x ∧ x ≤ 1000) : HTOk Tryz.prog G ⟨311, [.sint .i64 0 [(j,1)], .int .i64 10, .int .i64 1000], .tuple [.sint .i64 0 [(j,9)], .int .i64 0]⟩ := by
  refine HTOk.of Tryz.func311 rfl (ul := [.int .i64 x, .int .i64 10, .int .i64 1000]) (u := .tuple #[.int .i64 (9 * x), .int .i64 0]) (fun φ => by simp [concL, conc, den, sj]) (fun φ => by simp [concL, conc, den, sj]) (fun w => ?_)
  have := worthM x 10 1000 (by omega) (by omega) (by omega) (by omega) w
  have e : ndW 10 1000 x = 9 * x := by unfold ndW; omega
  rwa [e] at this
end
end Go.Proofs.YtegfcailcgogpaaGreat
