/- complinelaw27.EodCredit: what is hooked in. -/
import Derived.Test.YtdfgedemolielaaGreatJ5
import Derived.Test.YtdfgedemolielaaGreatJ4
namespace Go.Proofs.YtdfgedemolielaaGreat
open Go Go.RowKit Gv
def ecTA : List HT := [⟨386, [.sint .i64 0 [(0,1)], .int .i64 50, .int .i64 50], .tuple [.sint .i64 0 [(0,1)], .int .i64 0]⟩, ⟨386, [.sint .i64 0 [(0,1)], .int .i64 0, .int .i64 50], .tuple [.int .i64 0, .int .i64 0]⟩, ⟨477, [.sint .i64 0 [(0,1)], .int .i64 50, .int .i64 50], .tuple [.sint .i64 0 [(0,1)], .int .i64 0]⟩, ⟨477, [.sint .i64 0 [(0,1)], .int .i64 0, .int .i64 50], .tuple [.int .i64 0, .int .i64 0]⟩, ⟨15, [], .bool true⟩]
def ecTB : List HT := [⟨386, [.sint .i64 0 [(0,1)], .int .i64 50, .int .i64 50], .tuple [.sint .i64 0 [(0,1)], .int .i64 0]⟩, ⟨386, [.sint .i64 0 [(0,1)], .int .i64 0, .int .i64 50], .tuple [.int .i64 0, .int .i64 0]⟩, ⟨477, [.sint .i64 0 [(0,1)], .int .i64 50, .int .i64 50], .tuple [.sint .i64 0 [(0,1)], .int .i64 0]⟩, ⟨477, [.sint .i64 0 [(0,1)], .int .i64 0, .int .i64 50], .tuple [.int .i64 0, .int .i64 0]⟩, ⟨485, [.sint .i64 0 [(0,1),(1,-1)], .int .i64 3, .int .i64 5000], .tuple [.sint .i64 0 [(3,10)], .int .i64 0]⟩, ⟨485, [.sint .i64 0 [(1,-1),(0,1)], .int .i64 3, .int .i64 5000], .tuple [.sint .i64 0 [(3,10)], .int .i64 0]⟩, ⟨544, [.sint .i64 0 [(0,1),(1,-1)], .int .i64 3, .int .i64 5000], .tuple [.sint .i64 0 [(3,10)], .int .i64 0]⟩, ⟨544, [.sint .i64 0 [(1,-1),(0,1)], .int .i64 3, .int .i64 5000], .tuple [.sint .i64 0 [(3,10)], .int .i64 0]⟩, ⟨487, [.sint .i64 0 [(3,10)], .int .i64 3, .int .i64 5000], .tuple [.sint .i64 0 [(3,15)], .int .i64 0]⟩, ⟨503, [.sint .i64 0 [(3,10)], .int .i64 3, .int .i64 5000], .tuple [.sint .i64 0 [(3,15)], .int .i64 0]⟩, ⟨15, [], .bool true⟩]
def ecTC : List HT := [⟨386, [.sint .i64 0 [(0,1)], .int .i64 50, .int .i64 50], .tuple [.sint .i64 0 [(0,1)], .int .i64 0]⟩, ⟨386, [.sint .i64 0 [(0,1)], .int .i64 0, .int .i64 50], .tuple [.int .i64 0, .int .i64 0]⟩, ⟨477, [.sint .i64 0 [(0,1)], .int .i64 50, .int .i64 50], .tuple [.sint .i64 0 [(0,1)], .int .i64 0]⟩, ⟨477, [.sint .i64 0 [(0,1)], .int .i64 0, .int .i64 50], .tuple [.int .i64 0, .int .i64 0]⟩, ⟨485, [.sint .i64 0 [(0,1),(1,-1)], .int .i64 3, .int .i64 5000], .tuple [.sint .i64 (-10) [(3,10),(4,1)], .int .i64 0]⟩, ⟨485, [.sint .i64 0 [(1,-1),(0,1)], .int .i64 3, .int .i64 5000], .tuple [.sint .i64 (-10) [(3,10),(4,1)], .int .i64 0]⟩, ⟨544, [.sint .i64 0 [(0,1),(1,-1)], .int .i64 3, .int .i64 5000], .tuple [.sint .i64 (-10) [(3,10),(4,1)], .int .i64 0]⟩, ⟨544, [.sint .i64 0 [(1,-1),(0,1)], .int .i64 3, .int .i64 5000], .tuple [.sint .i64 (-10) [(3,10),(4,1)], .int .i64 0]⟩, ⟨487, [.sint .i64 0 [(3,10)], .int .i64 3, .int .i64 5000], .tuple [.sint .i64 0 [(3,15)], .int .i64 0]⟩, ⟨503, [.sint .i64 0 [(3,10)], .int .i64 3, .int .i64 5000], .tuple [.sint .i64 0 [(3,15)], .int .i64 0]⟩, ⟨15, [], .bool true⟩]
def ecTD : List HT := [⟨386, [.sint .i64 0 [(0,1)], .int .i64 50, .int .i64 50], .tuple [.sint .i64 0 [(0,1)], .int .i64 0]⟩, ⟨386, [.sint .i64 0 [(0,1)], .int .i64 0, .int .i64 50], .tuple [.int .i64 0, .int .i64 0]⟩, ⟨477, [.sint .i64 0 [(0,1)], .int .i64 50, .int .i64 50], .tuple [.sint .i64 0 [(0,1)], .int .i64 0]⟩, ⟨477, [.sint .i64 0 [(0,1)], .int .i64 0, .int .i64 50], .tuple [.int .i64 0, .int .i64 0]⟩, ⟨485, [.sint .i64 0 [(0,1),(1,-1)], .int .i64 3, .int .i64 5000], .tuple [.sint .i64 0 [(3,10)], .int .i64 0]⟩, ⟨485, [.sint .i64 0 [(1,-1),(0,1)], .int .i64 3, .int .i64 5000], .tuple [.sint .i64 0 [(3,10)], .int .i64 0]⟩, ⟨485, [.sint .i64 0 [(0,1)], .int .i64 3, .int .i64 5000], .tuple [.sint .i64 0 [(3,10)], .int .i64 0]⟩, ⟨544, [.sint .i64 0 [(0,1),(1,-1)], .int .i64 3, .int .i64 5000], .tuple [.sint .i64 0 [(3,10)], .int .i64 0]⟩, ⟨544, [.sint .i64 0 [(1,-1),(0,1)], .int .i64 3, .int .i64 5000], .tuple [.sint .i64 0 [(3,10)], .int .i64 0]⟩, ⟨544, [.sint .i64 0 [(0,1)], .int .i64 3, .int .i64 5000], .tuple [.sint .i64 0 [(3,10)], .int .i64 0]⟩, ⟨487, [.sint .i64 0 [(3,10)], .int .i64 3, .int .i64 5000], .tuple [.sint .i64 0 [(3,15)], .int .i64 0]⟩, ⟨503, [.sint .i64 0 [(3,10)], .int .i64 3, .int .i64 5000], .tuple [.sint .i64 0 [(3,15)], .int .i64 0]⟩, ⟨15, [], .bool true⟩]
def ecTE : List HT := [⟨386, [.sint .i64 0 [(0,1)], .int .i64 50, .int .i64 50], .tuple [.sint .i64 0 [(0,1)], .int .i64 0]⟩, ⟨386, [.sint .i64 0 [(0,1)], .int .i64 0, .int .i64 50], .tuple [.int .i64 0, .int .i64 0]⟩, ⟨477, [.sint .i64 0 [(0,1)], .int .i64 50, .int .i64 50], .tuple [.sint .i64 0 [(0,1)], .int .i64 0]⟩, ⟨477, [.sint .i64 0 [(0,1)], .int .i64 0, .int .i64 50], .tuple [.int .i64 0, .int .i64 0]⟩, ⟨485, [.sint .i64 0 [(0,1),(1,-1)], .int .i64 3, .int .i64 5000], .tuple [.sint .i64 (-10) [(3,10),(4,1)], .int .i64 0]⟩, ⟨485, [.sint .i64 0 [(1,-1),(0,1)], .int .i64 3, .int .i64 5000], .tuple [.sint .i64 (-10) [(3,10),(4,1)], .int .i64 0]⟩, ⟨485, [.sint .i64 0 [(0,1)], .int .i64 3, .int .i64 5000], .tuple [.sint .i64 (-10) [(3,10),(4,1)], .int .i64 0]⟩, ⟨544, [.sint .i64 0 [(0,1),(1,-1)], .int .i64 3, .int .i64 5000], .tuple [.sint .i64 (-10) [(3,10),(4,1)], .int .i64 0]⟩, ⟨544, [.sint .i64 0 [(1,-1),(0,1)], .int .i64 3, .int .i64 5000], .tuple [.sint .i64 (-10) [(3,10),(4,1)], .int .i64 0]⟩, ⟨544, [.sint .i64 0 [(0,1)], .int .i64 3, .int .i64 5000], .tuple [.sint .i64 (-10) [(3,10),(4,1)], .int .i64 0]⟩, ⟨487, [.sint .i64 0 [(3,10)], .int .i64 3, .int .i64 5000], .tuple [.sint .i64 0 [(3,15)], .int .i64 0]⟩, ⟨503, [.sint .i64 0 [(3,10)], .int .i64 3, .int .i64 5000], .tuple [.sint .i64 0 [(3,15)], .int .i64 0]⟩, ⟨15, [], .bool true⟩]
section
variable {G : Gh} {amount cash k r : Int}
theorem ecMd386_50 (s0 : G.σ 0 = amount) (ha : 0 ≤ amount ∧ amount ≤ 400) : HTOk Tryz.prog G ⟨386, [.sint .i64 0 [(0,1)], .int .i64 50, .int .i64 50], .tuple [.sint .i64 0 [(0,1)], .int .i64 0]⟩ := by
 refine HTOk.of Tryz.func386 rfl (ul := [.int .i64 amount, .int .i64 50, .int .i64 50]) (u := .tuple #[.int .i64 amount, .int .i64 0]) (fun φ => by simp [concL, conc, den, s0]) (fun φ => by simp [concL, conc, den, s0]) (fun w => ?_)
 have := mmuldiv_ok amount 50 50 (by omega) (by omega) (by omega) w
 rwa [md_val (z := amount) (Int.mul_ediv_cancel _ (by omega)) (by omega)] at this
theorem ecMd386_0 (s0 : G.σ 0 = amount) (ha : 0 ≤ amount ∧ amount ≤ 400) : HTOk Tryz.prog G ⟨386, [.sint .i64 0 [(0,1)], .int .i64 0, .int .i64 50], .tuple [.int .i64 0, .int .i64 0]⟩ := by
 refine HTOk.of Tryz.func386 rfl (ul := [.int .i64 amount, .int .i64 0, .int .i64 50]) (u := .tuple #[.int .i64 0, .int .i64 0]) (fun φ => by simp [concL, conc, den, s0]) (fun φ => by simp [concL, conc]) (fun w => ?_)
 have := mmuldiv_ok amount 0 50 (by omega) (by omega) (by omega) w
 rwa [md_val (z := 0) (by rw [Int.mul_zero, Int.zero_ediv]) (by omega)] at this
theorem ecMd477_50 (s0 : G.σ 0 = amount) (ha : 0 ≤ amount ∧ amount ≤ 400) : HTOk Tryz.prog G ⟨477, [.sint .i64 0 [(0,1)], .int .i64 50, .int .i64 50], .tuple [.sint .i64 0 [(0,1)], .int .i64 0]⟩ := by
 refine HTOk.of Tryz.func477 rfl (ul := [.int .i64 amount, .int .i64 50, .int .i64 50]) (u := .tuple #[.int .i64 amount, .int .i64 0]) (fun φ => by simp [concL, conc, den, s0]) (fun φ => by simp [concL, conc, den, s0]) (fun w => ?_)
 have := muldiv_ok amount 50 50 (by omega) (by omega) (by omega) w
 rwa [md_val (z := amount) (Int.mul_ediv_cancel _ (by omega)) (by omega)] at this
theorem ecMd477_0 (s0 : G.σ 0 = amount) (ha : 0 ≤ amount ∧ amount ≤ 400) : HTOk Tryz.prog G ⟨477, [.sint .i64 0 [(0,1)], .int .i64 0, .int .i64 50], .tuple [.int .i64 0, .int .i64 0]⟩ := by
 refine HTOk.of Tryz.func477 rfl (ul := [.int .i64 amount, .int .i64 0, .int .i64 50]) (u := .tuple #[.int .i64 0, .int .i64 0]) (fun φ => by simp [concL, conc, den, s0]) (fun φ => by simp [concL, conc]) (fun w => ?_)
 have := muldiv_ok amount 0 50 (by omega) (by omega) (by omega) w
 rwa [md_val (z := 0) (by rw [Int.mul_zero, Int.zero_ediv]) (by omega)] at this
theorem ecNd485 {a n : V} {lack z : Int} (hl : ∀ φ, conc G φ a = some (.int .i64 lack)) (hn : ∀ φ, conc G φ n = some (.int .i64 z)) (h1 : 1 ≤ lack ∧ lack ≤ 400) (hz : z = (lack * 10000 + 14999) / 15000) : HTOk Tryz.prog G ⟨485, [a, .int .i64 3, .int .i64 5000], .tuple [n, .int .i64 0]⟩ := by
 refine HTOk.of Tryz.func485 rfl (ul := [.int .i64 lack, .int .i64 3, .int .i64 5000]) (u := .tuple #[.int .i64 z, .int .i64 0]) (fun φ => concL_cons.2 ⟨_, _, hl φ, by simp [concL, conc], rfl⟩) (fun φ => by rw [conc, concL_cons.2 ⟨_, _, hn φ, concL_cons.2 ⟨_, _, by rw [conc], concL_nil, rfl⟩, rfl⟩]) (fun w => ?_)
 have := needM lack 3 5000 (by omega) (by omega) (by omega) w
 have e : neV lack 3 5000 = .tuple #[.int .i64 z, .int .i64 0] := by
  unfold neV
  have e1 : (lack * 10000 + 3 * (10000 - 5000) - 1) / (3 * (10000 - 5000)) = z := by omega
  rw [e1, if_pos (by omega)]
 rwa [e] at this
theorem ecNd544 {a n : V} {lack z : Int} (hl : ∀ φ, conc G φ a = some (.int .i64 lack)) (hn : ∀ φ, conc G φ n = some (.int .i64 z)) (h1 : 1 ≤ lack ∧ lack ≤ 400) (hz : z = (lack * 10000 + 14999) / 15000) : HTOk Tryz.prog G ⟨544, [a, .int .i64 3, .int .i64 5000], .tuple [n, .int .i64 0]⟩ := by
 refine HTOk.of Tryz.func544 rfl (ul := [.int .i64 lack, .int .i64 3, .int .i64 5000]) (u := .tuple #[.int .i64 z, .int .i64 0]) (fun φ => concL_cons.2 ⟨_, _, hl φ, by simp [concL, conc], rfl⟩) (fun φ => by rw [conc, concL_cons.2 ⟨_, _, hn φ, concL_cons.2 ⟨_, _, by rw [conc], concL_nil, rfl⟩, rfl⟩]) (fun w => ?_)
 have := needR lack 3 5000 (by omega) (by omega) (by omega) w
 have e : neV lack 3 5000 = .tuple #[.int .i64 z, .int .i64 0] := by
  unfold neV
  have e1 : (lack * 10000 + 3 * (10000 - 5000) - 1) / (3 * (10000 - 5000)) = z := by omega
  rw [e1, if_pos (by omega)]
 rwa [e] at this
theorem ecWo487 (s3 : G.σ 3 = k) (h : 1 ≤ k ∧ k ≤ 27) : HTOk Tryz.prog G ⟨487, [.sint .i64 0 [(3,10)], .int .i64 3, .int .i64 5000], .tuple [.sint .i64 0 [(3,15)], .int .i64 0]⟩ := by
 refine HTOk.of Tryz.func487 rfl (ul := [.int .i64 (10 * k), .int .i64 3, .int .i64 5000]) (u := .tuple #[.int .i64 (15 * k), .int .i64 0]) (fun φ => by simp [concL, conc, den, s3]) (fun φ => by simp [concL, conc, den, s3]) (fun w => ?_)
 have := worthM (10 * k) 3 5000 (by omega) (by omega) (by omega) (by omega) w
 have e : ndW 3 5000 (10 * k) = 15 * k := by unfold ndW; omega
 rwa [e] at this
theorem ecWo503 (s3 : G.σ 3 = k) (h : 1 ≤ k ∧ k ≤ 27) : HTOk Tryz.prog G ⟨503, [.sint .i64 0 [(3,10)], .int .i64 3, .int .i64 5000], .tuple [.sint .i64 0 [(3,15)], .int .i64 0]⟩ := by
 refine HTOk.of Tryz.func503 rfl (ul := [.int .i64 (10 * k), .int .i64 3, .int .i64 5000]) (u := .tuple #[.int .i64 (15 * k), .int .i64 0]) (fun φ => by simp [concL, conc, den, s3]) (fun φ => by simp [concL, conc, den, s3]) (fun w => ?_)
 have := worthR (10 * k) 3 5000 (by omega) (by omega) (by omega) (by omega) w
 have e : ndW 3 5000 (10 * k) = 15 * k := by unfold ndW; omega
 rwa [e] at this
set_option maxRecDepth 100000 in
theorem ecTA_ok (hm : ¬ G.mono) (s0 : G.σ 0 = amount) (ha : 0 ≤ amount ∧ amount ≤ 400) : HooksOk Tryz.prog G (hkT ecTA) := hkT_ok progOk ecTA (fun t ht => by
 simp only [ecTA, List.mem_cons, List.not_mem_nil, or_false] at ht
 rcases ht with rfl | rfl | rfl | rfl | rfl
 · exact ecMd386_50 s0 ha
 · exact ecMd386_0 s0 ha
 · exact ecMd477_50 s0 ha
 · exact ecMd477_0 s0 ha
 · exact aliveOk27 G) hm
set_option maxRecDepth 100000 in
theorem ecTB_ok (hm : ¬ G.mono) (s0 : G.σ 0 = amount) (ha : 0 ≤ amount ∧ amount ≤ 400) (s1 : G.σ 1 = cash) (s3 : G.σ 3 = k) (hk : 1 ≤ k ∧ k ≤ 27) (hl : 1 ≤ amount - cash ∧ amount - cash ≤ 400) (hz : 10 * k = ((amount - cash) * 10000 + 14999) / 15000) : HooksOk Tryz.prog G (hkT ecTB) := hkT_ok progOk ecTB (fun t ht => by
 simp only [ecTB, List.mem_cons, List.not_mem_nil, or_false] at ht
 rcases ht with rfl | rfl | rfl | rfl | rfl | rfl | rfl | rfl | rfl | rfl | rfl
 · exact ecMd386_50 s0 ha
 · exact ecMd386_0 s0 ha
 · exact ecMd477_50 s0 ha
 · exact ecMd477_0 s0 ha
 · exact ecNd485 (lack := amount - cash) (fun φ => by rw [conc]; show some (Value.int .i64 (0 + (1 * G.σ 0 + (-1 * G.σ 1 + 0)))) = _; rw [s0, s1, show (0 : Int) + (1 * amount + (-1 * cash + 0)) = amount - cash from by omega]) (fun φ => by rw [conc]; show some (Value.int .i64 (0 + (10 * G.σ 3 + 0))) = some (Value.int .i64 (10 * k)); rw [s3, show (0 : Int) + (10 * k + 0) = 10 * k from by omega]) hl hz
 · exact ecNd485 (lack := amount - cash) (fun φ => by rw [conc]; show some (Value.int .i64 (0 + (-1 * G.σ 1 + (1 * G.σ 0 + 0)))) = _; rw [s0, s1, show (0 : Int) + (-1 * cash + (1 * amount + 0)) = amount - cash from by omega]) (fun φ => by rw [conc]; show some (Value.int .i64 (0 + (10 * G.σ 3 + 0))) = some (Value.int .i64 (10 * k)); rw [s3, show (0 : Int) + (10 * k + 0) = 10 * k from by omega]) hl hz
 · exact ecNd544 (lack := amount - cash) (fun φ => by rw [conc]; show some (Value.int .i64 (0 + (1 * G.σ 0 + (-1 * G.σ 1 + 0)))) = _; rw [s0, s1, show (0 : Int) + (1 * amount + (-1 * cash + 0)) = amount - cash from by omega]) (fun φ => by rw [conc]; show some (Value.int .i64 (0 + (10 * G.σ 3 + 0))) = some (Value.int .i64 (10 * k)); rw [s3, show (0 : Int) + (10 * k + 0) = 10 * k from by omega]) hl hz
 · exact ecNd544 (lack := amount - cash) (fun φ => by rw [conc]; show some (Value.int .i64 (0 + (-1 * G.σ 1 + (1 * G.σ 0 + 0)))) = _; rw [s0, s1, show (0 : Int) + (-1 * cash + (1 * amount + 0)) = amount - cash from by omega]) (fun φ => by rw [conc]; show some (Value.int .i64 (0 + (10 * G.σ 3 + 0))) = some (Value.int .i64 (10 * k)); rw [s3, show (0 : Int) + (10 * k + 0) = 10 * k from by omega]) hl hz
 · exact ecWo487 s3 hk
 · exact ecWo503 s3 hk
 · exact aliveOk27 G) hm
set_option maxRecDepth 100000 in
theorem ecTC_ok (hm : ¬ G.mono) (s0 : G.σ 0 = amount) (ha : 0 ≤ amount ∧ amount ≤ 400) (s1 : G.σ 1 = cash) (s3 : G.σ 3 = k) (s4 : G.σ 4 = r) (hk : 1 ≤ k ∧ k ≤ 27) (hl : 1 ≤ amount - cash ∧ amount - cash ≤ 400) (hz : 10 * k - 10 + r = ((amount - cash) * 10000 + 14999) / 15000) : HooksOk Tryz.prog G (hkT ecTC) := hkT_ok progOk ecTC (fun t ht => by
 simp only [ecTC, List.mem_cons, List.not_mem_nil, or_false] at ht
 rcases ht with rfl | rfl | rfl | rfl | rfl | rfl | rfl | rfl | rfl | rfl | rfl
 · exact ecMd386_50 s0 ha
 · exact ecMd386_0 s0 ha
 · exact ecMd477_50 s0 ha
 · exact ecMd477_0 s0 ha
 · exact ecNd485 (lack := amount - cash) (fun φ => by rw [conc]; show some (Value.int .i64 (0 + (1 * G.σ 0 + (-1 * G.σ 1 + 0)))) = _; rw [s0, s1, show (0 : Int) + (1 * amount + (-1 * cash + 0)) = amount - cash from by omega]) (fun φ => by rw [conc]; show some (Value.int .i64 (-10 + (10 * G.σ 3 + (1 * G.σ 4 + 0)))) = some (Value.int .i64 (10 * k - 10 + r)); rw [s3, s4, show (-10 : Int) + (10 * k + (1 * r + 0)) = 10 * k - 10 + r from by omega]) hl hz
 · exact ecNd485 (lack := amount - cash) (fun φ => by rw [conc]; show some (Value.int .i64 (0 + (-1 * G.σ 1 + (1 * G.σ 0 + 0)))) = _; rw [s0, s1, show (0 : Int) + (-1 * cash + (1 * amount + 0)) = amount - cash from by omega]) (fun φ => by rw [conc]; show some (Value.int .i64 (-10 + (10 * G.σ 3 + (1 * G.σ 4 + 0)))) = some (Value.int .i64 (10 * k - 10 + r)); rw [s3, s4, show (-10 : Int) + (10 * k + (1 * r + 0)) = 10 * k - 10 + r from by omega]) hl hz
 · exact ecNd544 (lack := amount - cash) (fun φ => by rw [conc]; show some (Value.int .i64 (0 + (1 * G.σ 0 + (-1 * G.σ 1 + 0)))) = _; rw [s0, s1, show (0 : Int) + (1 * amount + (-1 * cash + 0)) = amount - cash from by omega]) (fun φ => by rw [conc]; show some (Value.int .i64 (-10 + (10 * G.σ 3 + (1 * G.σ 4 + 0)))) = some (Value.int .i64 (10 * k - 10 + r)); rw [s3, s4, show (-10 : Int) + (10 * k + (1 * r + 0)) = 10 * k - 10 + r from by omega]) hl hz
 · exact ecNd544 (lack := amount - cash) (fun φ => by rw [conc]; show some (Value.int .i64 (0 + (-1 * G.σ 1 + (1 * G.σ 0 + 0)))) = _; rw [s0, s1, show (0 : Int) + (-1 * cash + (1 * amount + 0)) = amount - cash from by omega]) (fun φ => by rw [conc]; show some (Value.int .i64 (-10 + (10 * G.σ 3 + (1 * G.σ 4 + 0)))) = some (Value.int .i64 (10 * k - 10 + r)); rw [s3, s4, show (-10 : Int) + (10 * k + (1 * r + 0)) = 10 * k - 10 + r from by omega]) hl hz
 · exact ecWo487 s3 hk
 · exact ecWo503 s3 hk
 · exact aliveOk27 G) hm
set_option maxRecDepth 100000 in
theorem ecTD_ok (hm : ¬ G.mono) (s0 : G.σ 0 = amount) (ha : 0 ≤ amount ∧ amount ≤ 400) (s1 : G.σ 1 = cash) (s3 : G.σ 3 = k) (hc0 : cash = 0) (hk : 1 ≤ k ∧ k ≤ 27) (hl : 1 ≤ amount - cash ∧ amount - cash ≤ 400) (hz : 10 * k = ((amount - cash) * 10000 + 14999) / 15000) : HooksOk Tryz.prog G (hkT ecTD) := hkT_ok progOk ecTD (fun t ht => by
 simp only [ecTD, List.mem_cons, List.not_mem_nil, or_false] at ht
 rcases ht with rfl | rfl | rfl | rfl | rfl | rfl | rfl | rfl | rfl | rfl | rfl | rfl | rfl
 · exact ecMd386_50 s0 ha
 · exact ecMd386_0 s0 ha
 · exact ecMd477_50 s0 ha
 · exact ecMd477_0 s0 ha
 · exact ecNd485 (lack := amount - cash) (fun φ => by rw [conc]; show some (Value.int .i64 (0 + (1 * G.σ 0 + (-1 * G.σ 1 + 0)))) = _; rw [s0, s1, show (0 : Int) + (1 * amount + (-1 * cash + 0)) = amount - cash from by omega]) (fun φ => by rw [conc]; show some (Value.int .i64 (0 + (10 * G.σ 3 + 0))) = some (Value.int .i64 (10 * k)); rw [s3, show (0 : Int) + (10 * k + 0) = 10 * k from by omega]) hl hz
 · exact ecNd485 (lack := amount - cash) (fun φ => by rw [conc]; show some (Value.int .i64 (0 + (-1 * G.σ 1 + (1 * G.σ 0 + 0)))) = _; rw [s0, s1, show (0 : Int) + (-1 * cash + (1 * amount + 0)) = amount - cash from by omega]) (fun φ => by rw [conc]; show some (Value.int .i64 (0 + (10 * G.σ 3 + 0))) = some (Value.int .i64 (10 * k)); rw [s3, show (0 : Int) + (10 * k + 0) = 10 * k from by omega]) hl hz
 · exact ecNd485 (lack := amount - cash) (fun φ => by rw [conc]; show some (Value.int .i64 (0 + (1 * G.σ 0 + 0))) = _; rw [s0, show (0 : Int) + (1 * amount + 0) = amount - cash from by omega]) (fun φ => by rw [conc]; show some (Value.int .i64 (0 + (10 * G.σ 3 + 0))) = some (Value.int .i64 (10 * k)); rw [s3, show (0 : Int) + (10 * k + 0) = 10 * k from by omega]) hl hz
 · exact ecNd544 (lack := amount - cash) (fun φ => by rw [conc]; show some (Value.int .i64 (0 + (1 * G.σ 0 + (-1 * G.σ 1 + 0)))) = _; rw [s0, s1, show (0 : Int) + (1 * amount + (-1 * cash + 0)) = amount - cash from by omega]) (fun φ => by rw [conc]; show some (Value.int .i64 (0 + (10 * G.σ 3 + 0))) = some (Value.int .i64 (10 * k)); rw [s3, show (0 : Int) + (10 * k + 0) = 10 * k from by omega]) hl hz
 · exact ecNd544 (lack := amount - cash) (fun φ => by rw [conc]; show some (Value.int .i64 (0 + (-1 * G.σ 1 + (1 * G.σ 0 + 0)))) = _; rw [s0, s1, show (0 : Int) + (-1 * cash + (1 * amount + 0)) = amount - cash from by omega]) (fun φ => by rw [conc]; show some (Value.int .i64 (0 + (10 * G.σ 3 + 0))) = some (Value.int .i64 (10 * k)); rw [s3, show (0 : Int) + (10 * k + 0) = 10 * k from by omega]) hl hz
 · exact ecNd544 (lack := amount - cash) (fun φ => by rw [conc]; show some (Value.int .i64 (0 + (1 * G.σ 0 + 0))) = _; rw [s0, show (0 : Int) + (1 * amount + 0) = amount - cash from by omega]) (fun φ => by rw [conc]; show some (Value.int .i64 (0 + (10 * G.σ 3 + 0))) = some (Value.int .i64 (10 * k)); rw [s3, show (0 : Int) + (10 * k + 0) = 10 * k from by omega]) hl hz
 · exact ecWo487 s3 hk
 · exact ecWo503 s3 hk
 · exact aliveOk27 G) hm
set_option maxRecDepth 100000 in
theorem ecTE_ok (hm : ¬ G.mono) (s0 : G.σ 0 = amount) (ha : 0 ≤ amount ∧ amount ≤ 400) (s1 : G.σ 1 = cash) (s3 : G.σ 3 = k) (s4 : G.σ 4 = r) (hc0 : cash = 0) (hk : 1 ≤ k ∧ k ≤ 27) (hl : 1 ≤ amount - cash ∧ amount - cash ≤ 400) (hz : 10 * k - 10 + r = ((amount - cash) * 10000 + 14999) / 15000) : HooksOk Tryz.prog G (hkT ecTE) := hkT_ok progOk ecTE (fun t ht => by
 simp only [ecTE, List.mem_cons, List.not_mem_nil, or_false] at ht
 rcases ht with rfl | rfl | rfl | rfl | rfl | rfl | rfl | rfl | rfl | rfl | rfl | rfl | rfl
 · exact ecMd386_50 s0 ha
 · exact ecMd386_0 s0 ha
 · exact ecMd477_50 s0 ha
 · exact ecMd477_0 s0 ha
 · exact ecNd485 (lack := amount - cash) (fun φ => by rw [conc]; show some (Value.int .i64 (0 + (1 * G.σ 0 + (-1 * G.σ 1 + 0)))) = _; rw [s0, s1, show (0 : Int) + (1 * amount + (-1 * cash + 0)) = amount - cash from by omega]) (fun φ => by rw [conc]; show some (Value.int .i64 (-10 + (10 * G.σ 3 + (1 * G.σ 4 + 0)))) = some (Value.int .i64 (10 * k - 10 + r)); rw [s3, s4, show (-10 : Int) + (10 * k + (1 * r + 0)) = 10 * k - 10 + r from by omega]) hl hz
 · exact ecNd485 (lack := amount - cash) (fun φ => by rw [conc]; show some (Value.int .i64 (0 + (-1 * G.σ 1 + (1 * G.σ 0 + 0)))) = _; rw [s0, s1, show (0 : Int) + (-1 * cash + (1 * amount + 0)) = amount - cash from by omega]) (fun φ => by rw [conc]; show some (Value.int .i64 (-10 + (10 * G.σ 3 + (1 * G.σ 4 + 0)))) = some (Value.int .i64 (10 * k - 10 + r)); rw [s3, s4, show (-10 : Int) + (10 * k + (1 * r + 0)) = 10 * k - 10 + r from by omega]) hl hz
 · exact ecNd485 (lack := amount - cash) (fun φ => by rw [conc]; show some (Value.int .i64 (0 + (1 * G.σ 0 + 0))) = _; rw [s0, show (0 : Int) + (1 * amount + 0) = amount - cash from by omega]) (fun φ => by rw [conc]; show some (Value.int .i64 (-10 + (10 * G.σ 3 + (1 * G.σ 4 + 0)))) = some (Value.int .i64 (10 * k - 10 + r)); rw [s3, s4, show (-10 : Int) + (10 * k + (1 * r + 0)) = 10 * k - 10 + r from by omega]) hl hz
 · exact ecNd544 (lack := amount - cash) (fun φ => by rw [conc]; show some (Value.int .i64 (0 + (1 * G.σ 0 + (-1 * G.σ 1 + 0)))) = _; rw [s0, s1, show (0 : Int) + (1 * amount + (-1 * cash + 0)) = amount - cash from by omega]) (fun φ => by rw [conc]; show some (Value.int .i64 (-10 + (10 * G.σ 3 + (1 * G.σ 4 + 0)))) = some (Value.int .i64 (10 * k - 10 + r)); rw [s3, s4, show (-10 : Int) + (10 * k + (1 * r + 0)) = 10 * k - 10 + r from by omega]) hl hz
 · exact ecNd544 (lack := amount - cash) (fun φ => by rw [conc]; show some (Value.int .i64 (0 + (-1 * G.σ 1 + (1 * G.σ 0 + 0)))) = _; rw [s0, s1, show (0 : Int) + (-1 * cash + (1 * amount + 0)) = amount - cash from by omega]) (fun φ => by rw [conc]; show some (Value.int .i64 (-10 + (10 * G.σ 3 + (1 * G.σ 4 + 0)))) = some (Value.int .i64 (10 * k - 10 + r)); rw [s3, s4, show (-10 : Int) + (10 * k + (1 * r + 0)) = 10 * k - 10 + r from by omega]) hl hz
 · exact ecNd544 (lack := amount - cash) (fun φ => by rw [conc]; show some (Value.int .i64 (0 + (1 * G.σ 0 + 0))) = _; rw [s0, show (0 : Int) + (1 * amount + 0) = amount - cash from by omega]) (fun φ => by rw [conc]; show some (Value.int .i64 (-10 + (10 * G.σ 3 + (1 * G.σ 4 + 0)))) = some (Value.int .i64 (10 * k - 10 + r)); rw [s3, s4, show (-10 : Int) + (10 * k + (1 * r + 0)) = 10 * k - 10 + r from by omega]) hl hz
 · exact ecWo487 s3 hk
 · exact ecWo503 s3 hk
 · exact aliveOk27 G) hm
end
noncomputable def ecA : Nat → Option (Gv.Call → List V → H → RV) := hkT [⟨15, [], .bool true⟩]
set_option maxRecDepth 100000 in
theorem ecA_ok (e : List Value) (s : List Int) (he : e.all (·.oneCell') = true) : HooksOk Tryz.prog (mkGh e s he) ecA := hkT_ok progOk _ fun t ht => by
 simp at ht
 subst ht
 exact aliveOk27 _
end Go.Proofs.YtdfgedemolielaaGreat
