/- complinelaw24.CheckReasons: what is hooked in. -/
import Derived.Test.YtaajobcfbgpfoaaGreatAlive24
import Derived.Test.YtaajobcfbgpfoaaGreatDivNum
namespace Go.Proofs.YtaajobcfbgpfoaaGreat
open Go Go.RowKit Gv
def crT : List HT := [⟨211, [.sint .i64 0 [(1,1)], .sint .i64 0 [(2,1)], .sint .i64 0 [(0,1)]], .tuple [.sint .i64 0 [(3,1)], .int .i64 0]⟩, ⟨211, [.sint .i64 0 [(1,1)], .sint .i64 0 [(0,1)], .sint .i64 0 [(0,1)]], .tuple [.sint .i64 0 [(1,1)], .int .i64 0]⟩, ⟨5, [], .bool true⟩]
theorem crLe {qty amount part : Int} (hq : 1 ≤ qty) (ha : 0 ≤ amount) (hp : 1 ≤ part ∧ part ≤ qty) : 0 ≤ amount * part / qty ∧ amount * part / qty ≤ amount :=
  ⟨Int.ediv_nonneg (Int.mul_nonneg ha (by omega)) (by omega), Int.ediv_le_of_le_mul (by omega) (Int.mul_le_mul_of_nonneg_left hp.2 ha)⟩
section
variable {G : Gh} {qty amount part s : Int}
theorem crMd1 (s0 : G.σ 0 = qty) (s1 : G.σ 1 = amount) (s2 : G.σ 2 = part) (s3 : G.σ 3 = s) (hq : 1 ≤ qty ∧ qty ≤ 1073741824) (ha : 0 ≤ amount ∧ amount ≤ 1099511627776) (hp : 1 ≤ part ∧ part ≤ qty) (hs : amount * part / qty = s) : HTOk Tryz.prog G ⟨211, [.sint .i64 0 [(1,1)], .sint .i64 0 [(2,1)], .sint .i64 0 [(0,1)]], .tuple [.sint .i64 0 [(3,1)], .int .i64 0]⟩ := by
  refine HTOk.of Tryz.func211 rfl (ul := [.int .i64 amount, .int .i64 part, .int .i64 qty]) (u := .tuple #[.int .i64 s, .int .i64 0]) (fun φ => by simp [concL, conc, den, s0, s1, s2]) (fun φ => by simp [concL, conc, den, s3]) (fun w => ?_)
  have := mmuldiv_ok amount part qty (by omega) (by omega) (by omega) w
  rwa [md_val (z := s) hs (by have := crLe (by omega) ha.1 hp; omega)] at this
theorem crMd2 (s0 : G.σ 0 = qty) (s1 : G.σ 1 = amount) (hq : 1 ≤ qty ∧ qty ≤ 1073741824) (ha : 0 ≤ amount ∧ amount ≤ 1099511627776) : HTOk Tryz.prog G ⟨211, [.sint .i64 0 [(1,1)], .sint .i64 0 [(0,1)], .sint .i64 0 [(0,1)]], .tuple [.sint .i64 0 [(1,1)], .int .i64 0]⟩ := by
  refine HTOk.of Tryz.func211 rfl (ul := [.int .i64 amount, .int .i64 qty, .int .i64 qty]) (u := .tuple #[.int .i64 amount, .int .i64 0]) (fun φ => by simp [concL, conc, den, s0, s1]) (fun φ => by simp [concL, conc, den, s1]) (fun w => ?_)
  have := mmuldiv_ok amount qty qty (by omega) (by omega) (by omega) w
  rwa [md_val (z := amount) (Int.mul_ediv_cancel _ (by omega)) (by omega)] at this
set_option maxRecDepth 100000 in
theorem crT_ok (hm : ¬ G.mono) (s0 : G.σ 0 = qty) (s1 : G.σ 1 = amount) (s2 : G.σ 2 = part) (s3 : G.σ 3 = s) (hq : 1 ≤ qty ∧ qty ≤ 1073741824) (ha : 0 ≤ amount ∧ amount ≤ 1099511627776) (hp : 1 ≤ part ∧ part ≤ qty) (hs : amount * part / qty = s) : HooksOk Tryz.prog G (hkT crT) := hkT_ok progOk crT (fun t ht => by
  simp only [crT, List.mem_cons, List.not_mem_nil, or_false] at ht
  rcases ht with rfl | rfl | rfl
  · exact crMd1 s0 s1 s2 s3 hq ha hp hs
  · exact crMd2 s0 s1 hq ha
  · exact aliveOk5 G) hm
end
noncomputable def crA : Nat → Option (Gv.Call → List V → H → RV) := hkT [⟨5, [], .bool true⟩]
set_option maxRecDepth 100000 in
theorem crA_ok (e : List Value) (s : List Int) (he : e.all (·.oneCell') = true) : HooksOk Tryz.prog (mkGh e s he) crA := hkT_ok progOk _ fun t ht => by
  simp at ht
  subst ht
  exact aliveOk5 _
end Go.Proofs.YtaajobcfbgpfoaaGreat
