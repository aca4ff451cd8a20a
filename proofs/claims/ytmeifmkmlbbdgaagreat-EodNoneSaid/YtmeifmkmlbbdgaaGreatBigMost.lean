/- The document's big numbers: most, by a loop that is told by what holds at its head. -/
import Derived.Test.YtmeifmkmlbbdgaaGreatBigOf
import Derived.Test.YtmeifmkmlbbdgaaGreatBigMul
import Derived.Test.YtmeifmkmlbbdgaaGreatBigCmp
namespace Go.Proofs.YtmeifmkmlbbdgaaGreat
open Go Go.RowKit Gv

theorem of3 (v : Int) (h0 : 0 ≤ v) (h1 : v < 9223372036854775808) : ∃ d0 d1 d2 : Int, (0 ≤ d0 ∧ d0 ≤ 1073741823) ∧ (0 ≤ d1 ∧ d1 ≤ 1073741823) ∧ (0 ≤ d2 ∧ d2 ≤ 7) ∧ v = d0 + 1073741824 * d1 + 1152921504606846976 * d2 ∧
    ∀ w : World, Calls Tryz.prog 413 #[.int .i64 v] w fun e w' => e = .returned (.agg #[.int .i64 d0, .int .i64 d1, .int .i64 d2, .int .i64 0, .int .i64 0, .int .i64 0]) ∧ Below w.heap.size w w' := by
  obtain ⟨m, rfl⟩ := Int.eq_ofNat_of_zero_le h0
  have e3 : dg m 3 = 0 := by unfold dg; rw [Nat.div_eq_of_lt (by omega)]
  have e4 : dg m 4 = 0 := by unfold dg; rw [Nat.div_eq_of_lt (by omega)]
  have e5 : dg m 5 = 0 := by unfold dg; rw [Nat.div_eq_of_lt (by omega)]
  have e0 : dg m 0 = m % 1073741824 := by unfold dg; rw [Nat.pow_zero, Nat.div_one]
  have e1 : dg m 1 = m / 1073741824 % 1073741824 := by unfold dg; rw [Nat.pow_one]
  have e2 : dg m 2 = m / 1152921504606846976 % 1073741824 := by unfold dg; rfl
  refine ⟨dg m 0, dg m 1, dg m 2, by omega, by omega, by omega, by omega, fun w => ?_⟩
  refine (of_ok m (by omega) w).mono ?_
  rintro e w' ⟨rfl, hb⟩
  refine ⟨?_, hb⟩
  unfold bigV
  rw [e3, e4, e5]
  rfl
/-- What digits stand for, the highest first. -/
def valD : List Int → Int
  | [] => 0
  | x :: l => x * 1073741824 ^ l.length + valD l
theorem valD_rng : ∀ (l : List Int), (∀ x ∈ l, 0 ≤ x ∧ x < 1073741824) → 0 ≤ valD l ∧ valD l < 1073741824 ^ l.length
  | [], _ => by simp [valD]
  | x :: l, h => by
    obtain ⟨h1, h2⟩ := valD_rng l fun y hy => h y (List.mem_cons_of_mem _ hy)
    obtain ⟨h3, h4⟩ := h x (List.mem_cons_self ..)
    have hp : (0 : Int) < 1073741824 ^ l.length := Int.pow_pos (by decide)
    have h5 : 0 ≤ x * 1073741824 ^ l.length := Int.mul_nonneg h3 (by omega)
    have h6 : (x + 1) * 1073741824 ^ l.length ≤ 1073741824 * 1073741824 ^ l.length := Int.mul_le_mul_of_nonneg_right (by omega) (by omega)
    rw [Int.add_mul, Int.one_mul] at h6
    simp only [valD, List.length_cons, Int.pow_succ]
    rw [Int.mul_comm (1073741824 ^ l.length) 1073741824]
    omega
theorem cmpD_ok : ∀ (l m : List Int), l.length = m.length → (∀ x ∈ l, 0 ≤ x ∧ x < 1073741824) → (∀ x ∈ m, 0 ≤ x ∧ x < 1073741824) → (-1 ≤ cmpD l m ∧ cmpD l m ≤ 1) ∧ (cmpD l m ≤ 0 ↔ valD l ≤ valD m)
  | [], [], _, _, _ => by simp [cmpD, valD]
  | [], y :: m, h, _, _ => by simp at h
  | x :: l, [], h, _, _ => by simp at h
  | x :: l, y :: m, hl, hx, hy => by
    have hlen : l.length = m.length := by simpa using hl
    obtain ⟨i1, i2⟩ := cmpD_ok l m hlen (fun z hz => hx z (List.mem_cons_of_mem _ hz)) (fun z hz => hy z (List.mem_cons_of_mem _ hz))
    obtain ⟨a1, a2⟩ := valD_rng l fun z hz => hx z (List.mem_cons_of_mem _ hz)
    obtain ⟨b1, b2⟩ := valD_rng m fun z hz => hy z (List.mem_cons_of_mem _ hz)
    have hp : (0 : Int) < 1073741824 ^ m.length := Int.pow_pos (by decide)
    rw [hlen] at a2
    simp only [cmpD, valD, hlen]
    by_cases h1 : x < y
    · rw [if_pos h1]
      have := Int.mul_le_mul_of_nonneg_right (show x + 1 ≤ y by omega) (show 0 ≤ (1073741824 : Int) ^ m.length by omega)
      rw [Int.add_mul, Int.one_mul] at this
      omega
    · rw [if_neg h1]
      by_cases h2 : x > y
      · rw [if_pos h2]
        have := Int.mul_le_mul_of_nonneg_right (show y + 1 ≤ x by omega) (show 0 ≤ (1073741824 : Int) ^ m.length by omega)
        rw [Int.add_mul, Int.one_mul] at this
        omega
      · rw [if_neg h2]
        obtain rfl : x = y := by omega
        omega
theorem cmp5 (x0 x1 x2 x3 x4 y0 y1 y2 y3 y4 : Int) (hx0 : 0 ≤ x0 ∧ x0 < 1073741824) (hx1 : 0 ≤ x1 ∧ x1 < 1073741824) (hx2 : 0 ≤ x2 ∧ x2 < 1073741824) (hx3 : 0 ≤ x3 ∧ x3 < 1073741824) (hx4 : 0 ≤ x4 ∧ x4 < 1073741824)
    (hy0 : 0 ≤ y0 ∧ y0 < 1073741824) (hy1 : 0 ≤ y1 ∧ y1 < 1073741824) (hy2 : 0 ≤ y2 ∧ y2 < 1073741824) (hy3 : 0 ≤ y3 ∧ y3 < 1073741824) (hy4 : 0 ≤ y4 ∧ y4 < 1073741824) :
    ∃ s : Int, (-1 ≤ s ∧ s ≤ 1) ∧ (s ≤ 0 ↔ x0 + 1073741824 * x1 + 1152921504606846976 * x2 + 1237940039285380274899124224 * x3 + 1329227995784915872903807060280344576 * x4 ≤ y0 + 1073741824 * y1 + 1152921504606846976 * y2 + 1237940039285380274899124224 * y3 + 1329227995784915872903807060280344576 * y4) ∧
    ∀ w : World, Calls Tryz.prog 412 #[.agg #[.int .i64 x0, .int .i64 x1, .int .i64 x2, .int .i64 x3, .int .i64 x4, .int .i64 0], .agg #[.int .i64 y0, .int .i64 y1, .int .i64 y2, .int .i64 y3, .int .i64 y4, .int .i64 0]] w
      fun e w' => e = .returned (.int .i64 s) ∧ Below w.heap.size w w' := by
  obtain ⟨h1, h2⟩ := cmpD_ok [0, x4, x3, x2, x1, x0] [0, y4, y3, y2, y1, y0] rfl (by simp; omega) (by simp; omega)
  refine ⟨cmpD [0, x4, x3, x2, x1, x0] [0, y4, y3, y2, y1, y0], h1, h2.trans ?_, fun w => cmp_ok x0 x1 x2 x3 x4 0 y0 y1 y2 y3 y4 0 w⟩
  simp only [valD, List.length_cons, List.length_nil, Nat.reduceAdd, Int.reducePow]
  omega

def agA : List V := [.sint .i64 0 [(0,1)], .sint .i64 0 [(1,1)], .sint .i64 0 [(2,1)], .sint .i64 0 [(3,1)], .sint .i64 0 [(4,1)], .int .i64 0]
def agC : List V := [.sint .i64 0 [(5,1)], .sint .i64 0 [(6,1)], .sint .i64 0 [(7,1)], .int .i64 0, .int .i64 0, .int .i64 0]
def agM : List V := [.sint .i64 0 [(13,1)], .sint .i64 0 [(14,1)], .sint .i64 0 [(15,1)], .int .i64 0, .int .i64 0, .int .i64 0]
def agP : List V := [.sint .i64 0 [(16,1)], .sint .i64 0 [(17,1)], .sint .i64 0 [(18,1)], .sint .i64 0 [(19,1)], .sint .i64 0 [(20,1)], .int .i64 0]
def mostT : List HT := [⟨413, [.sint .i64 0 [(12,1),(11,1),(9,1)]], .agg agM⟩, ⟨469, [.agg agM, .agg agC], .agg agP⟩, ⟨412, [.agg agP, .agg agA], .sint .i64 0 [(21,1)]⟩]
def mostBd : List (Int × Int) := [(0, 1073741823), (0, 1073741823), (0, 1073741823), (0, 1073741823), (0, 1073741823), (0, 1073741823), (0, 1073741823), (0, 7), (0, 1152921504606846977), (0, 1152921504606846977), (0, 1152921504606846977), (0, 576460752303423488), (0, 1), (0, 1073741823), (0, 1073741823), (0, 7), (0, 1073741823), (0, 1073741823), (0, 1073741823), (0, 1073741823), (0, 1073741823), (-1, 1)]
def mostNl : List NL := [⟨1, .i64, (0,[(10,1),(9,-1)]), (2,[]), 11⟩, ⟨2, .i64, (0,[(10,1),(9,-1)]), (2,[]), 12⟩]
def mostGe (i : Nat) : List (Int × List (Nat × Int)) := match i with
  | 0 => [(0,[(9,1),(10,-1)]), (0,[(9,1),(8,-1)]), (0,[(8,1),(9,-1)])]
  | 1 => [(-1,[(10,1),(9,-1)]), (0,[(21,-1)])]
  | _ => [(-1,[(10,1),(9,-1)]), (-1,[(21,1)])]
def mostBd0 : List (Int × Int) := mostBd.take 9
noncomputable def mostE0 : Env := evE Tryz.prog (fun _ => none) mostBd0 [] []
noncomputable def mostE (i : Nat) : Env := evE Tryz.prog (hkT mostT) mostBd (mostGe i) mostNl
noncomputable def mostS : LSpec where
  K := 9
  id := 0
  body := bodyOf 0 Tryz.f468
  W := [7, 8, 9, 11, 12, 13, 14, 15, 16, 17, 18, 19, 20, 21, 22, 23, 24, 25, 26, 27, 28, 29, 30, 31, 32, 33, 34]
  inv := [(7, .sint .i64 0 [(9,1)]), (8, .sint .i64 0 [(10,1)])]
  init := [(0, []), (1152921504606846977, [])]
  cases := [⟨mostE 0, 10, false, []⟩, ⟨mostE 1, 10, true, [(0, [(12,1),(11,1),(9,1)]), (0, [(10,1)])]⟩, ⟨mostE 2, 10, true, [(0, [(9,1)]), (-1, [(12,1),(11,1),(9,1)])]⟩]
  fin := [(7, .sint .i64 0 [(8,1)])]
  need := [3, 4]
noncomputable def mostLk (i : Nat) : Option (Fr → H → RX) := bif Nat.beq i 0 then some (loopG mostS Tryz.f468.ntmps) else none
theorem mostRun : ((runL mostE0 mostLk 10 Tryz.f468 [.agg agA, .agg agC, .int .i64 1152921504606846977] H0).isV (.sint .i64 0 [(8,1)])) = true := by kernel_rfl

def mostGood (σ : Nat → Int) : Prop := 0 ≤ σ 9 ∧ σ 9 ≤ σ 8 ∧ σ 8 ≤ σ 10 ∧ σ 10 ≤ 1152921504606846977

set_option maxRecDepth 100000 in
set_option maxHeartbeats 2000000 in
theorem most_ok (a0 a1 a2 a3 a4 c0 c1 c2 : Int) (ha0 : 0 ≤ a0 ∧ a0 ≤ 1073741823) (ha1 : 0 ≤ a1 ∧ a1 ≤ 1073741823) (ha2 : 0 ≤ a2 ∧ a2 ≤ 1073741823) (ha3 : 0 ≤ a3 ∧ a3 ≤ 1073741823) (ha4 : 0 ≤ a4 ∧ a4 ≤ 1073741823)
    (hc0 : 0 ≤ c0 ∧ c0 ≤ 1073741823) (hc1 : 0 ≤ c1 ∧ c1 ≤ 1073741823) (hc2 : 0 ≤ c2 ∧ c2 ≤ 7) (hC : 1 ≤ (c0 + 1073741824 * c1 + 1152921504606846976 * c2)) (v : Int) (hv : 0 ≤ v ∧ v ≤ 1152921504606846977)
    (hlo : v * (c0 + 1073741824 * c1 + 1152921504606846976 * c2) ≤ a0 + 1073741824 * a1 + 1152921504606846976 * a2 + 1237940039285380274899124224 * a3 + 1329227995784915872903807060280344576 * a4) (hhi : v = 1152921504606846977 ∨ a0 + 1073741824 * a1 + 1152921504606846976 * a2 + 1237940039285380274899124224 * a3 + 1329227995784915872903807060280344576 * a4 < (v + 1) * (c0 + 1073741824 * c1 + 1152921504606846976 * c2)) (w : World) :
    Calls Tryz.prog 468 #[.agg #[.int .i64 a0, .int .i64 a1, .int .i64 a2, .int .i64 a3, .int .i64 a4, .int .i64 0], .agg #[.int .i64 c0, .int .i64 c1, .int .i64 c2, .int .i64 0, .int .i64 0, .int .i64 0], .int .i64 1152921504606846977] w
      fun e w' => e = .returned (.int .i64 v) ∧ Below w.heap.size w w' := by
  obtain ⟨Av, hAv⟩ : ∃ z, z = a0 + 1073741824 * a1 + 1152921504606846976 * a2 + 1237940039285380274899124224 * a3 + 1329227995784915872903807060280344576 * a4 := ⟨_, rfl⟩
  obtain ⟨Cv, hCv⟩ : ∃ z, z = (c0 + 1073741824 * c1 + 1152921504606846976 * c2) := ⟨_, rfl⟩
  rw [← hAv, ← hCv] at hlo hhi
  rw [← hCv] at hC
  -- what a product with a middle says
  have hle : ∀ m : Int, m ≤ v → m * Cv ≤ Av := fun m hm => Int.le_trans (Int.mul_le_mul_of_nonneg_right hm (by omega)) hlo
  have hgt : ∀ m : Int, m ≤ 1152921504606846977 → v < m → Av < m * Cv := fun m hm hvm => by
    rcases hhi with h | h
    · omega
    · exact Int.lt_of_lt_of_le h (Int.mul_le_mul_of_nonneg_right (by omega) (by omega))
  obtain ⟨G, hG⟩ : ∃ G, G = mkGh [] [a0, a1, a2, a3, a4, c0, c1, c2, v] rfl := ⟨_, rfl⟩
  have g0 : G.σ 0 = a0 := by rw [hG]; rfl
  have g1 : G.σ 1 = a1 := by rw [hG]; rfl
  have g2 : G.σ 2 = a2 := by rw [hG]; rfl
  have g3 : G.σ 3 = a3 := by rw [hG]; rfl
  have g4 : G.σ 4 = a4 := by rw [hG]; rfl
  have g5 : G.σ 5 = c0 := by rw [hG]; rfl
  have g6 : G.σ 6 = c1 := by rw [hG]; rfl
  have g7 : G.σ 7 = c2 := by rw [hG]; rfl
  have g8 : G.σ 8 = v := by rw [hG]; rfl
  have hm : G.mono = False := by rw [hG]; rfl
  have hsem : LSem Tryz.prog mostS G mostGood (fun σ => (σ 10 - σ 9).toNat) := by
    refine ⟨fun σ' hσ hi => ?_, fun σ' hσ hgood => ?_⟩
    · have e8 : σ' 8 = v := (hσ 8 (by decide)).trans g8
      have e9 : σ' 9 = 0 := hi 0 (0, []) rfl
      have e10 : σ' 10 = 1152921504606846977 := hi 1 (1152921504606846977, []) rfl
      unfold mostGood
      omega
    · obtain ⟨k1, k2, k3, k4⟩ := hgood
      have e0 : σ' 0 = a0 := (hσ 0 (by decide)).trans g0
      have e1 : σ' 1 = a1 := (hσ 1 (by decide)).trans g1
      have e2 : σ' 2 = a2 := (hσ 2 (by decide)).trans g2
      have e3 : σ' 3 = a3 := (hσ 3 (by decide)).trans g3
      have e4 : σ' 4 = a4 := (hσ 4 (by decide)).trans g4
      have e5 : σ' 5 = c0 := (hσ 5 (by decide)).trans g5
      have e6 : σ' 6 = c1 := (hσ 6 (by decide)).trans g6
      have e7 : σ' 7 = c2 := (hσ 7 (by decide)).trans g7
      have e8 : σ' 8 = v := (hσ 8 (by decide)).trans g8
      obtain ⟨lo, hlo9⟩ : ∃ z, z = σ' 9 := ⟨_, rfl⟩
      obtain ⟨hi, hhi10⟩ : ∃ z, z = σ' 10 := ⟨_, rfl⟩
      rw [← hlo9] at k1 k2
      rw [← hhi10] at k3 k4
      rw [e8] at k2 k3
      obtain ⟨q, hq⟩ : ∃ z : Int, z = (hi - lo) / 2 := ⟨_, rfl⟩
      obtain ⟨r, hr⟩ : ∃ z : Int, z = (hi - lo) % 2 := ⟨_, rfl⟩
      obtain ⟨d0, d1, d2, rd0, rd1, rd2, hd, cof⟩ := of3 (lo + q + r) (by omega) (by omega)
      obtain ⟨p0, p1, p2, p3, p4, p5, rp0, rp1, rp2, rp3, rp4, rp5, hp, cmul⟩ := mul3 d0 d1 d2 c0 c1 c2 rd0 rd1 rd2 hc0 hc1 hc2
      subst rp5
      obtain ⟨s, rs, hs, ccmp⟩ := cmp5 p0 p1 p2 p3 p4 a0 a1 a2 a3 a4 rp0 rp1 rp2 rp3 rp4 (by omega) (by omega) (by omega) (by omega) (by omega)
      have hprod : (lo + q + r) * Cv = d0 * c0 + 1073741824 * (d0 * c1 + d1 * c0) + 1152921504606846976 * (d0 * c2 + d1 * c1 + d2 * c0) + 1237940039285380274899124224 * (d1 * c2 + d2 * c1) + 1329227995784915872903807060280344576 * (d2 * c2) := by
        rw [hd, hCv]
        simp only [Int.add_mul, Int.mul_add, Int.mul_assoc, Int.mul_left_comm d0 1073741824 c1, Int.mul_left_comm d0 1152921504606846976 c2, Int.mul_left_comm d1 1073741824 c1, Int.mul_left_comm d1 1152921504606846976 c2, Int.mul_left_comm d2 1073741824 c1, Int.mul_left_comm d2 1152921504606846976 c2]
        omega
      have hsle : s ≤ 0 ↔ (lo + q + r) * Cv ≤ Av := by rw [hprod, ← hp, hAv]; exact hs
      obtain ⟨σ2, hσ2⟩ : ∃ z, z = extσ σ' 11 [q, r, d0, d1, d2, p0, p1, p2, p3, p4, s] := ⟨_, rfl⟩
      have hbd : bdOk σ2 mostBd 0 := by
        rw [hσ2]
        simp only [mostBd, bdOk, Nat.reduceAdd]
        simp only [extσ, Nat.reduceLT, if_true, if_false, Nat.reduceSub, List.getD_cons_succ, List.getD_cons_zero, e0, e1, e2, e3, e4, e5, e6, e7, e8, ← hlo9, ← hhi10]
        and_intros <;> first | trivial | omega
      have hfacts : ∀ i, geOk σ2 (mostGe i) → ∀ G2 : Gh, G2.σ = σ2 → (∀ i, i < 1000 → G2.ε i = G.ε i) → G2.mono = G.mono → EnvOk (mostE i) Tryz.prog G2 ∧ FnOk (mostE i) Tryz.prog G2 := by
        intro i hge G2 hσ2' _ hmono
        have hm2 : ¬ G2.mono := by rw [hmono, hm]; exact id
        have s0 : G2.σ 0 = a0 := by rw [hσ2', hσ2]; exact e0
        have s1 : G2.σ 1 = a1 := by rw [hσ2', hσ2]; exact e1
        have s2 : G2.σ 2 = a2 := by rw [hσ2', hσ2]; exact e2
        have s3 : G2.σ 3 = a3 := by rw [hσ2', hσ2]; exact e3
        have s4 : G2.σ 4 = a4 := by rw [hσ2', hσ2]; exact e4
        have s5 : G2.σ 5 = c0 := by rw [hσ2', hσ2]; exact e5
        have s6 : G2.σ 6 = c1 := by rw [hσ2', hσ2]; exact e6
        have s7 : G2.σ 7 = c2 := by rw [hσ2', hσ2]; exact e7
        have s9 : G2.σ 9 = lo := by rw [hσ2', hσ2]; exact hlo9.symm
        have s10 : G2.σ 10 = hi := by rw [hσ2', hσ2]; exact hhi10.symm
        have s11 : G2.σ 11 = q := by rw [hσ2', hσ2]; rfl
        have s12 : G2.σ 12 = r := by rw [hσ2', hσ2]; rfl
        have s13 : G2.σ 13 = d0 := by rw [hσ2', hσ2]; rfl
        have s14 : G2.σ 14 = d1 := by rw [hσ2', hσ2]; rfl
        have s15 : G2.σ 15 = d2 := by rw [hσ2', hσ2]; rfl
        have s16 : G2.σ 16 = p0 := by rw [hσ2', hσ2]; rfl
        have s17 : G2.σ 17 = p1 := by rw [hσ2', hσ2]; rfl
        have s18 : G2.σ 18 = p2 := by rw [hσ2', hσ2]; rfl
        have s19 : G2.σ 19 = p3 := by rw [hσ2', hσ2]; rfl
        have s20 : G2.σ 20 = p4 := by rw [hσ2', hσ2]; rfl
        have s21 : G2.σ 21 = s := by rw [hσ2', hσ2]; rfl
        have hnl : nlOk G2 mostNl := by
          refine ⟨.inr (.inl ⟨rfl, by show (2 + 0 : Int) ≠ 0; omega, ?_⟩), .inr (.inr (.inl ⟨rfl, by show (2 + 0 : Int) ≠ 0; omega, ?_⟩)), trivial⟩
          · show IntKind.i64.wrap (((0 + (1 * G2.σ 10 + (-1 * G2.σ 9 + 0)))).tdiv (2 + 0)) = G2.σ 11
            rw [s9, s10, s11, Int.tdiv_eq_ediv_of_nonneg (by omega), IntKind.wrap_i64]
            omega
          · show ((0 + (1 * G2.σ 10 + (-1 * G2.σ 9 + 0)))).tmod (2 + 0) = G2.σ 12
            rw [s9, s10, s12, Int.tmod_eq_emod_of_nonneg (by omega)]
            omega
        have F : Facts G2 mostBd (mostGe i) mostNl := ⟨by rw [hσ2']; exact hbd, by rw [hσ2']; exact hge, hnl⟩
        have cM : ∀ φ, conc G2 φ (.agg agM) = some (.agg #[.int .i64 d0, .int .i64 d1, .int .i64 d2, .int .i64 0, .int .i64 0, .int .i64 0]) := fun φ => by simp [agM, concL, conc, den, s13, s14, s15]
        have cC : ∀ φ, conc G2 φ (.agg agC) = some (.agg #[.int .i64 c0, .int .i64 c1, .int .i64 c2, .int .i64 0, .int .i64 0, .int .i64 0]) := fun φ => by simp [agC, concL, conc, den, s5, s6, s7]
        have cP : ∀ φ, conc G2 φ (.agg agP) = some (.agg #[.int .i64 p0, .int .i64 p1, .int .i64 p2, .int .i64 p3, .int .i64 p4, .int .i64 0]) := fun φ => by simp [agP, concL, conc, den, s16, s17, s18, s19, s20]
        have cA : ∀ φ, conc G2 φ (.agg agA) = some (.agg #[.int .i64 a0, .int .i64 a1, .int .i64 a2, .int .i64 a3, .int .i64 a4, .int .i64 0]) := fun φ => by simp [agA, concL, conc, den, s0, s1, s2, s3, s4]
        have cm : ∀ φ, conc G2 φ (.sint .i64 0 [(12,1),(11,1),(9,1)]) = some (.int .i64 (lo + q + r)) := fun φ => by
          rw [conc]
          show some (Value.int .i64 (0 + (1 * G2.σ 12 + (1 * G2.σ 11 + (1 * G2.σ 9 + 0))))) = _
          rw [s9, s11, s12, show (0 : Int) + (1 * r + (1 * q + (1 * lo + 0))) = lo + q + r from by omega]
        have cs : ∀ φ, conc G2 φ (.sint .i64 0 [(21,1)]) = some (.int .i64 s) := fun φ => by simp [conc, den, s21]
        have two : ∀ {x y : V} {u v : Value}, (∀ φ, conc G2 φ x = some u) → (∀ φ, conc G2 φ y = some v) → ∀ φ, concL G2 φ [x, y] = some [u, v] := fun hx hy φ => concL_cons.2 ⟨_, _, hx φ, concL_cons.2 ⟨_, _, hy φ, concL_nil, rfl⟩, rfl⟩
        have one : ∀ {x : V} {u : Value}, (∀ φ, conc G2 φ x = some u) → ∀ φ, concL G2 φ [x] = some [u] := fun hx φ => concL_cons.2 ⟨_, _, hx φ, concL_nil, rfl⟩
        refine ⟨evE_ok progOkB F.ends (geOk_at F.ge) (nlOk_at F.nl), evE_fn progOkB (hkT_ok progOkB mostT (fun t ht => ?_) hm2)⟩
        simp only [mostT, List.mem_cons, List.not_mem_nil, or_false] at ht
        rcases ht with rfl | rfl | rfl
        · exact HTOk.of Tryz.func413 rfl (one cm) cM cof
        · exact HTOk.of Tryz.func469 rfl (two cM cC) cP cmul
        · exact HTOk.of Tryz.func412 rfl (two cP cA) cs ccmp
      have t8 : σ2 8 = v := by rw [hσ2]; exact e8
      have t9 : σ2 9 = lo := by rw [hσ2]; exact hlo9.symm
      have t10 : σ2 10 = hi := by rw [hσ2]; exact hhi10.symm
      have t11 : σ2 11 = q := by rw [hσ2]; rfl
      have t12 : σ2 12 = r := by rw [hσ2]; rfl
      have t21 : σ2 21 = s := by rw [hσ2]; rfl
      have hlow : ∀ i, i < mostS.K + mostS.init.length → σ2 i = σ' i := fun i hi => by rw [hσ2]; exact extσ_lo hi
      by_cases hlh : lo < hi
      · by_cases hcm : s ≤ 0
        · have hmid : (lo + q + r) * Cv ≤ Av := hsle.1 hcm
          have hmv : lo + q + r ≤ v := by
            by_cases hx : lo + q + r ≤ v
            · exact hx
            · have := hgt (lo + q + r) (by omega) (by omega)
              omega
          refine ⟨⟨mostE 1, 10, true, [(0, [(12,1),(11,1),(9,1)]), (0, [(10,1)])]⟩, by simp [mostS], σ2, hlow, hfacts 1 (by simp [mostGe, geOk, den, t9, t10, t21]; omega), fun _ σ3 h3 hsub => ?_⟩
          have u8 : σ3 8 = v := (h3 8 (by decide)).trans g8
          have u9 : σ3 9 = 0 + (1 * σ2 12 + (1 * σ2 11 + (1 * σ2 9 + 0))) := hsub 0 _ rfl
          have u10 : σ3 10 = 0 + (1 * σ2 10 + 0) := hsub 1 _ rfl
          rw [t9, t11, t12] at u9
          rw [t10] at u10
          unfold mostGood
          rw [u8, u9, u10, ← hlo9, ← hhi10]
          omega
        · have hmid : ¬ (lo + q + r) * Cv ≤ Av := fun h => hcm (hsle.2 h)
          have hmv : v < lo + q + r := by
            by_cases hx : v < lo + q + r
            · exact hx
            · exact absurd (hle (lo + q + r) (by omega)) hmid
          refine ⟨⟨mostE 2, 10, true, [(0, [(9,1)]), (-1, [(12,1),(11,1),(9,1)])]⟩, by simp [mostS], σ2, hlow, hfacts 2 (by simp [mostGe, geOk, den, t9, t10, t21]; omega), fun _ σ3 h3 hsub => ?_⟩
          have u8 : σ3 8 = v := (h3 8 (by decide)).trans g8
          have u9 : σ3 9 = 0 + (1 * σ2 9 + 0) := hsub 0 _ rfl
          have u10 : σ3 10 = -1 + (1 * σ2 12 + (1 * σ2 11 + (1 * σ2 9 + 0))) := hsub 1 _ rfl
          rw [t9] at u9
          rw [t9, t11, t12] at u10
          unfold mostGood
          rw [u8, u9, u10, ← hlo9, ← hhi10]
          omega
      · exact ⟨⟨mostE 0, 10, false, []⟩, by simp [mostS], σ2, hlow, hfacts 0 (by simp [mostGe, geOk, den, t8, t9, t10]; omega), fun h => by cases h⟩
  have hE : ∀ G1, GLe 9 G G1 → EnvOk mostE0 Tryz.prog G1 := fun G1 gg => by
    have b : bdOk G1.σ mostBd0 0 := by
      simp only [mostBd0, mostBd, List.take, bdOk, Nat.reduceAdd]
      rw [gg.σ 0 (by decide), gg.σ 1 (by decide), gg.σ 2 (by decide), gg.σ 3 (by decide), gg.σ 4 (by decide), gg.σ 5 (by decide), gg.σ 6 (by decide), gg.σ 7 (by decide), gg.σ 8 (by decide), g0, g1, g2, g3, g4, g5, g6, g7, g8]
      and_intros <;> first | trivial | omega
    exact evE_ok progOkB (Facts.ends (ge := []) (nl := []) ⟨b, trivial, trivial⟩) (fun f hf => by cases hf) (fun n hn => by cases hn)
  have hF : ∀ G1, GLe 9 G G1 → FnOk mostE0 Tryz.prog G1 := fun G1 gg => evE_fn progOkB (fun _ _ h => (nomatch h))
  have hrun := mostRun
  unfold RV.isV at hrun
  cases hr : runL mostE0 mostLk 10 Tryz.f468 [.agg agA, .agg agC, .int .i64 1152921504606846977] H0 with
  | bad m i => rw [hr] at hrun; cases hrun
  | ok x h' =>
    rw [hr] at hrun
    have hx := sameV_eq hrun
    subst hx
    have r0 : HRel G (fun _ => none) H0 w := ⟨fun b x l hb => (nomatch hb), fun b b' x x' l l' hb => (nomatch hb), fun b _ => rfl⟩
    have hul : concL G (fun _ => none) [.agg agA, .agg agC, .int .i64 1152921504606846977] = some [.agg #[.int .i64 a0, .int .i64 a1, .int .i64 a2, .int .i64 a3, .int .i64 a4, .int .i64 0], .agg #[.int .i64 c0, .int .i64 c1, .int .i64 c2, .int .i64 0, .int .i64 0, .int .i64 0], .int .i64 1152921504606846977] := by
      simp [agA, agC, concL, conc, den, g0, g1, g2, g3, g4, g5, g6, g7]
    refine (runL_ok (K := 9) (G := G) hE hF Tryz.func468 rfl (lk_one (by kernel_rfl) (loop_piece hsem)) hr hul r0 (fun _ _ _ => rfl)).mono ?_
    rintro e w' ⟨u, rfl, G2, gg, φ', hu, r', f', x⟩
    have hv2 : conc G2 φ' (.sint .i64 0 [(8,1)]) = some (.int .i64 v) := by
      rw [conc]
      show some (Value.int .i64 (0 + (1 * G2.σ 8 + 0))) = _
      rw [gg.σ 8 (by decide), g8, show (0 : Int) + (1 * v + 0) = v from by omega]
    rw [hv2] at hu
    cases hu
    refine ⟨rfl, f'.os, f'.tape, f'.output, f'.size, fun k hk => f'.block k hk ?_⟩
    rintro ⟨b, y, l, hb, _⟩
    exact (nomatch hb)
end Go.Proofs.YtmeifmkmlbbdgaaGreat
