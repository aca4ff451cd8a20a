/- The document's MulDiv: a contract, and a hook at numbers. -/
import Derived.Test.YtmeifmkmlbbdgaaGreatBigMost
namespace Go.Proofs.YtmeifmkmlbbdgaaGreat
open Go Go.RowKit Gv

def mdX : List V := [.sint .i64 0 [(3,1)], .sint .i64 0 [(4,1)], .sint .i64 0 [(5,1)], .int .i64 0, .int .i64 0, .int .i64 0]
def mdY : List V := [.sint .i64 0 [(6,1)], .sint .i64 0 [(7,1)], .sint .i64 0 [(8,1)], .int .i64 0, .int .i64 0, .int .i64 0]
def mdP : List V := [.sint .i64 0 [(9,1)], .sint .i64 0 [(10,1)], .sint .i64 0 [(11,1)], .sint .i64 0 [(12,1)], .sint .i64 0 [(13,1)], .int .i64 0]
def mdZ : List V := [.sint .i64 0 [(14,1)], .sint .i64 0 [(15,1)], .sint .i64 0 [(16,1)], .int .i64 0, .int .i64 0, .int .i64 0]
def mdT : List HT := [⟨413, [.sint .i64 0 [(0,1)]], .agg mdX⟩, ⟨413, [.sint .i64 0 [(1,1)]], .agg mdY⟩, ⟨469, [.agg mdX, .agg mdY], .agg mdP⟩, ⟨413, [.sint .i64 0 [(2,1)]], .agg mdZ⟩, ⟨468, [.agg mdP, .agg mdZ, .int .i64 1152921504606846977], .sint .i64 0 [(17,1)]⟩]
def mdBd : List (Int × Int) := [(0, 9223372036854775807), (0, 9223372036854775807), (1, 9223372036854775807), (0, 1073741823), (0, 1073741823), (0, 7), (0, 1073741823), (0, 1073741823), (0, 7), (0, 1073741823), (0, 1073741823), (0, 1073741823), (0, 1073741823), (0, 1073741823), (0, 1073741823), (0, 1073741823), (0, 7), (0, 1152921504606846977)]
def mdGe (o : Bool) : List (Int × List (Nat × Int)) := if o then [(-1152921504606846977,[(17,1)])] else [(1152921504606846976,[(17,-1)])]
theorem mdRun0 : ((callN (evE Tryz.prog (hkT mdT) mdBd (mdGe false) []) 10 415 [.sint .i64 0 [(0,1)], .sint .i64 0 [(1,1)], .sint .i64 0 [(2,1)]] H0).isV (.tuple [.sint .i64 0 [(17,1)], .int .i64 0])) = true := by kernel_rfl
theorem mdRun1 : ((callN (evE Tryz.prog (hkT mdT) mdBd (mdGe true) []) 10 415 [.sint .i64 0 [(0,1)], .sint .i64 0 [(1,1)], .sint .i64 0 [(2,1)]] H0).isV (.tuple [.int .i64 0, .int .i64 12])) = true := by kernel_rfl
set_option maxRecDepth 100000 in
set_option maxHeartbeats 2000000 in
theorem muldiv_ok (a b c : Int) (ha : 0 ≤ a ∧ a ≤ 9223372036854775807) (hb : 0 ≤ b ∧ b ≤ 9223372036854775807) (hc : 1 ≤ c ∧ c ≤ 9223372036854775807) (w : World) :
    Calls Tryz.prog 415 #[.int .i64 a, .int .i64 b, .int .i64 c] w fun e w' => e = .returned (mdV a b c) ∧ Below w.heap.size w w' := by
  obtain ⟨x0, x1, x2, rx0, rx1, rx2, hx, cx⟩ := of3 a ha.1 (by omega)
  obtain ⟨y0, y1, y2, ry0, ry1, ry2, hy, cy⟩ := of3 b hb.1 (by omega)
  obtain ⟨z0, z1, z2, rz0, rz1, rz2, hz, cz⟩ := of3 c (by omega) (by omega)
  obtain ⟨p0, p1, p2, p3, p4, p5, rp0, rp1, rp2, rp3, rp4, rp5, hp, cmul⟩ := mul3 x0 x1 x2 y0 y1 y2 rx0 rx1 rx2 ry0 ry1 ry2
  subst rp5
  have hprod : a * b = p0 + 1073741824 * p1 + 1152921504606846976 * p2 + 1237940039285380274899124224 * p3 + 1329227995784915872903807060280344576 * p4 := by
    rw [hp, hx, hy]
    simp only [Int.add_mul, Int.mul_add, Int.mul_assoc, Int.mul_left_comm x0 1073741824 y1, Int.mul_left_comm x0 1152921504606846976 y2, Int.mul_left_comm x1 1073741824 y1, Int.mul_left_comm x1 1152921504606846976 y2, Int.mul_left_comm x2 1073741824 y1, Int.mul_left_comm x2 1152921504606846976 y2]
    omega
  obtain ⟨q, hq⟩ : ∃ z, z = a * b / c := ⟨_, rfl⟩
  have hab : 0 ≤ a * b := Int.mul_nonneg ha.1 hb.1
  have hq0 : 0 ≤ q := by rw [hq]; exact Int.ediv_nonneg hab (by omega)
  have hq1 : q * c ≤ a * b := by rw [hq]; exact Int.ediv_mul_le _ (by omega)
  have hq2 : a * b < (q + 1) * c := by rw [hq]; exact Int.lt_ediv_add_one_mul_self _ (by omega)
  obtain ⟨v, hv⟩ : ∃ z : Int, z = if q ≤ 1152921504606846977 then q else 1152921504606846977 := ⟨_, rfl⟩
  have hv0 : 0 ≤ v ∧ v ≤ 1152921504606846977 := by rw [hv]; split <;> omega
  have hvq : v ≤ q := by rw [hv]; split <;> omega
  have hv1 : v * c ≤ a * b := Int.le_trans (Int.mul_le_mul_of_nonneg_right hvq (by omega)) hq1
  have hv2 : v = 1152921504606846977 ∨ a * b < (v + 1) * c := by
    by_cases hqb : q ≤ 1152921504606846977
    · rw [if_pos hqb] at hv; subst hv; exact .inr hq2
    · rw [if_neg hqb] at hv; exact .inl hv
  have cmost := most_ok p0 p1 p2 p3 p4 z0 z1 z2 (by omega) (by omega) (by omega) (by omega) (by omega) rz0 rz1 rz2 (by omega) v hv0 (by rw [← hprod, ← hz]; exact hv1) (by rw [← hprod, ← hz]; exact hv2)
  obtain ⟨G, hG⟩ : ∃ G, G = mkGh [] [a, b, c, x0, x1, x2, y0, y1, y2, p0, p1, p2, p3, p4, z0, z1, z2, v] rfl := ⟨_, rfl⟩
  have s0 : G.σ 0 = a := by rw [hG]; rfl
  have s1 : G.σ 1 = b := by rw [hG]; rfl
  have s2 : G.σ 2 = c := by rw [hG]; rfl
  have s3 : G.σ 3 = x0 := by rw [hG]; rfl
  have s4 : G.σ 4 = x1 := by rw [hG]; rfl
  have s5 : G.σ 5 = x2 := by rw [hG]; rfl
  have s6 : G.σ 6 = y0 := by rw [hG]; rfl
  have s7 : G.σ 7 = y1 := by rw [hG]; rfl
  have s8 : G.σ 8 = y2 := by rw [hG]; rfl
  have s9 : G.σ 9 = p0 := by rw [hG]; rfl
  have s10 : G.σ 10 = p1 := by rw [hG]; rfl
  have s11 : G.σ 11 = p2 := by rw [hG]; rfl
  have s12 : G.σ 12 = p3 := by rw [hG]; rfl
  have s13 : G.σ 13 = p4 := by rw [hG]; rfl
  have s14 : G.σ 14 = z0 := by rw [hG]; rfl
  have s15 : G.σ 15 = z1 := by rw [hG]; rfl
  have s16 : G.σ 16 = z2 := by rw [hG]; rfl
  have s17 : G.σ 17 = v := by rw [hG]; rfl
  have hm : ¬ G.mono := by rw [hG]; exact fun h => h
  have hbd : bdOk G.σ mdBd 0 := by
    simp only [mdBd, bdOk, Nat.reduceAdd, s0, s1, s2, s3, s4, s5, s6, s7, s8, s9, s10, s11, s12, s13, s14, s15, s16, s17]
    and_intros <;> first | trivial | omega
  have agX : ∀ φ, conc G φ (.agg mdX) = some (.agg #[.int .i64 x0, .int .i64 x1, .int .i64 x2, .int .i64 0, .int .i64 0, .int .i64 0]) := fun φ => by simp [mdX, concL, conc, den, s3, s4, s5]
  have agY : ∀ φ, conc G φ (.agg mdY) = some (.agg #[.int .i64 y0, .int .i64 y1, .int .i64 y2, .int .i64 0, .int .i64 0, .int .i64 0]) := fun φ => by simp [mdY, concL, conc, den, s6, s7, s8]
  have agZ : ∀ φ, conc G φ (.agg mdZ) = some (.agg #[.int .i64 z0, .int .i64 z1, .int .i64 z2, .int .i64 0, .int .i64 0, .int .i64 0]) := fun φ => by simp [mdZ, concL, conc, den, s14, s15, s16]
  have agP : ∀ φ, conc G φ (.agg mdP) = some (.agg #[.int .i64 p0, .int .i64 p1, .int .i64 p2, .int .i64 p3, .int .i64 p4, .int .i64 0]) := fun φ => by simp [mdP, concL, conc, den, s9, s10, s11, s12, s13]
  have ia : ∀ φ, conc G φ (.sint .i64 0 [(0,1)]) = some (.int .i64 a) := fun φ => by simp [conc, den, s0]
  have ib : ∀ φ, conc G φ (.sint .i64 0 [(1,1)]) = some (.int .i64 b) := fun φ => by simp [conc, den, s1]
  have ic : ∀ φ, conc G φ (.sint .i64 0 [(2,1)]) = some (.int .i64 c) := fun φ => by simp [conc, den, s2]
  have iv : ∀ φ, conc G φ (.sint .i64 0 [(17,1)]) = some (.int .i64 v) := fun φ => by simp [conc, den, s17]
  have iB : ∀ φ, conc G φ (.int .i64 1152921504606846977) = some (.int .i64 1152921504606846977) := fun φ => by simp [conc]
  have one : ∀ {x : V} {u : Value}, (∀ φ, conc G φ x = some u) → ∀ φ, concL G φ [x] = some [u] := fun hx φ => concL_cons.2 ⟨_, _, hx φ, concL_nil, rfl⟩
  have two : ∀ {x y : V} {u v : Value}, (∀ φ, conc G φ x = some u) → (∀ φ, conc G φ y = some v) → ∀ φ, concL G φ [x, y] = some [u, v] := fun hx hy φ => concL_cons.2 ⟨_, _, hx φ, one hy φ, rfl⟩
  have three : ∀ {x y z : V} {u v t : Value}, (∀ φ, conc G φ x = some u) → (∀ φ, conc G φ y = some v) → (∀ φ, conc G φ z = some t) → ∀ φ, concL G φ [x, y, z] = some [u, v, t] := fun hx hy hz φ => concL_cons.2 ⟨_, _, hx φ, two hy hz φ, rfl⟩
  have hh : HooksOk Tryz.prog G (hkT mdT) := hkT_ok progOkB mdT (fun t ht => by
    simp only [mdT, List.mem_cons, List.not_mem_nil, or_false] at ht
    rcases ht with rfl | rfl | rfl | rfl | rfl
    · exact HTOk.of Tryz.func413 rfl (one ia) agX cx
    · exact HTOk.of Tryz.func413 rfl (one ib) agY cy
    · exact HTOk.of Tryz.func469 rfl (two agX agY) agP cmul
    · exact HTOk.of Tryz.func413 rfl (one ic) agZ cz
    · exact HTOk.of Tryz.func468 rfl (three agP agZ iB) iv cmost) hm
  unfold mdV
  rw [← hq]
  by_cases hqm : q ≤ 1152921504606846976
  · rw [if_pos (show q ≤ 1152921504606846977 by omega)] at hv
    subst hv
    rw [if_pos hqm]
    exact run_val (G := G) (ge := mdGe false) (nl := []) progOkB ⟨hbd, by simp [mdGe, geOk, den, s17]; omega, trivial⟩ hh Tryz.func415 rfl (three ia ib ic _) mdRun0 (fun φ => by simp [concL, conc, den, s17]) w
  · have hvB : v = 1152921504606846977 := by rw [hv]; split <;> omega
    rw [if_neg hqm]
    exact run_val (G := G) (ge := mdGe true) (nl := []) progOkB ⟨hbd, by simp [mdGe, geOk, den, s17]; omega, trivial⟩ hh Tryz.func415 rfl (three ia ib ic _) mdRun1 (fun φ => by simp [concL, conc]) w

set_option maxRecDepth 100000 in
theorem mdH_ok {G : Gh} (hm : ¬ G.mono) : HookOk Tryz.prog G 415 mdH := by
  intro call _ l h v h' e φ w ul hl r _
  unfold mdH at e
  split at e
  · rename_i a b c
    obtain ⟨hc, e⟩ := bif_ok e
    simp only [Bool.and_eq_true, nble, decide_eq_true_eq] at hc
    obtain ⟨h1, h2, h3, h4⟩ := hc
    have hul : ul = [.int .i64 (a : Int), .int .i64 (b : Int), .int .i64 (c : Int)] := by
      simp [concL, conc] at hl
      exact hl.symm
    subst hul
    rw [run_enter Tryz.func415 (prog_name progOkB Tryz.func415) rfl]
    refine (muldiv_ok a b c (by omega) (by omega) (by omega) w).mono ?_
    rintro e2 w2 ⟨rfl, hb⟩
    have hcast : ((a : Int) * b / c) = ((a * b / c : Nat) : Int) := by push_cast; rfl
    have hV : mdV a b c = if a * b / c ≤ 1152921504606846976 then .tuple #[.int .i64 ((a * b / c : Nat) : Int), .int .i64 0] else .tuple #[.int .i64 0, .int .i64 12] := by
      unfold mdV
      rw [hcast]
      by_cases hq : a * b / c ≤ 1152921504606846976
      · rw [if_pos hq, if_pos (by omega)]
      · rw [if_neg hq, if_neg (by omega)]
    cases hq : Nat.ble (a * b / c) 1152921504606846976 with
    | true =>
      rw [hq, cond_true] at e
      rw [nble, decide_eq_true_eq] at hq
      cases e
      refine ⟨_, rfl, below_post hm r hb ?_⟩
      rw [hV, if_pos hq]
      simp [conc, concL]
    | false =>
      rw [hq, cond_false] at e
      rw [nble, decide_eq_false_iff_not] at hq
      cases e
      refine ⟨_, rfl, below_post hm r hb ?_⟩
      rw [hV, if_neg hq]
      simp [conc, concL]
  · cases e
end Go.Proofs.YtmeifmkmlbbdgaaGreat
