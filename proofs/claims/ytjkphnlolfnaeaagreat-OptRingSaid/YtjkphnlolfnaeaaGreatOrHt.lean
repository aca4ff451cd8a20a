/- complinelaw25.OptRing: what is hooked in. -/
import Derived.Test.YtjkphnlolfnaeaaGreatAlive25
import Derived.Test.YtjkphnlolfnaeaaGreatDivNum
namespace Go.Proofs.YtjkphnlolfnaeaaGreat
open Go Go.RowKit Gv
def orT : List HT := [⟨288, [.sint .i64 0 [(1,1)], .sint .i64 0 [(0,1)], .sint .i64 0 [(0,1)]], .tuple [.sint .i64 0 [(1,1)], .int .i64 0]⟩, ⟨288, [.sint .i64 0 [(1,1)], .int .i64 0, .sint .i64 0 [(0,1)]], .tuple [.int .i64 0, .int .i64 0]⟩, ⟨4, [], .bool true⟩]
section
variable {G : Gh} {qty amount : Int}
theorem orMd1 (s0 : G.σ 0 = qty) (s1 : G.σ 1 = amount) (hq : 1 ≤ qty ∧ qty ≤ 1000) (ha : 0 ≤ amount ∧ amount ≤ 1000) : HTOk Tryz.prog G ⟨288, [.sint .i64 0 [(1,1)], .sint .i64 0 [(0,1)], .sint .i64 0 [(0,1)]], .tuple [.sint .i64 0 [(1,1)], .int .i64 0]⟩ := by
  refine HTOk.of Tryz.func288 rfl (ul := [.int .i64 amount, .int .i64 qty, .int .i64 qty]) (u := .tuple #[.int .i64 amount, .int .i64 0]) (fun φ => by simp [concL, conc, den, s0, s1]) (fun φ => by simp [concL, conc, den, s1]) (fun w => ?_)
  have := mmuldiv_ok amount qty qty (by omega) (by omega) (by omega) w
  rwa [md_val (z := amount) (Int.mul_ediv_cancel _ (by omega)) (by omega)] at this
theorem orMd2 (s0 : G.σ 0 = qty) (s1 : G.σ 1 = amount) (hq : 1 ≤ qty ∧ qty ≤ 1000) (ha : 0 ≤ amount ∧ amount ≤ 1000) : HTOk Tryz.prog G ⟨288, [.sint .i64 0 [(1,1)], .int .i64 0, .sint .i64 0 [(0,1)]], .tuple [.int .i64 0, .int .i64 0]⟩ := by
  refine HTOk.of Tryz.func288 rfl (ul := [.int .i64 amount, .int .i64 0, .int .i64 qty]) (u := .tuple #[.int .i64 0, .int .i64 0]) (fun φ => by simp [concL, conc, den, s0, s1]) (fun φ => by simp [concL, conc]) (fun w => ?_)
  have := mmuldiv_ok amount 0 qty (by omega) (by omega) (by omega) w
  rwa [md_val (z := 0) (by rw [Int.mul_zero, Int.zero_ediv]) (by omega)] at this
set_option maxRecDepth 100000 in
theorem orT_ok (hm : ¬ G.mono) (s0 : G.σ 0 = qty) (s1 : G.σ 1 = amount) (hq : 1 ≤ qty ∧ qty ≤ 1000) (ha : 0 ≤ amount ∧ amount ≤ 1000) : HooksOk Tryz.prog G (hkT orT) := hkT_ok progOk orT (fun t ht => by
  simp only [orT, List.mem_cons, List.not_mem_nil, or_false] at ht
  rcases ht with rfl | rfl | rfl
  · exact orMd1 s0 s1 hq ha
  · exact orMd2 s0 s1 hq ha
  · exact aliveOk4 G) hm
end
noncomputable def orA : Nat → Option (Gv.Call → List V → H → RV) := hkT [⟨4, [], .bool true⟩]
set_option maxRecDepth 100000 in
theorem orA_ok (e : List Value) (s : List Int) (he : e.all (·.oneCell') = true) : HooksOk Tryz.prog (mkGh e s he) orA := hkT_ok progOk _ fun t ht => by
  simp at ht
  subst ht
  exact aliveOk4 _
end Go.Proofs.YtjkphnlolfnaeaaGreat
