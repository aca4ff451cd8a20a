/- The document's big numbers: most, by a loop that is told by what holds at its head. -/
import Derived.Test.YtmfmjhklajmhoaaGreatBa
import Derived.Test.YtmfmjhklajmhoaaGreatBigCmp
import Derived.Test.YtmfmjhklajmhoaaGreatLib
import Derived.Test.YtmfmjhklajmhoaaGreatDv
namespace Go.Proofs.YtmfmjhklajmhoaaGreat
open Go Go.RowKit Gv
theorem of3 (v : Int) (h0 : 0 ≤ v) (h1 : v < 9223372036854775808) : ∃ d0 d1 d2 : Int, (0 ≤ d0 ∧ d0 ≤ 1073741823) ∧ (0 ≤ d1 ∧ d1 ≤ 1073741823) ∧ (0 ≤ d2 ∧ d2 ≤ 7) ∧ v = d0 + 1073741824 * d1 + 1152921504606846976 * d2 ∧
 ∀ w : World, Calls Tryz.prog 486 #[.int .i64 v] w fun e w' => e = .returned (.agg #[.int .i64 d0, .int .i64 d1, .int .i64 d2, .int .i64 0, .int .i64 0, .int .i64 0]) ∧ Below w.heap.size w w' := by
 obtain ⟨m, rfl⟩ := Int.eq_ofNat_of_zero_le h0
 have e3 : dg m 3 = 0 := by unfold dg; rw [Nat.div_eq_of_lt (by omega)]
 have e4 : dg m 4 = 0 := by unfold dg; rw [Nat.div_eq_of_lt (by omega)]
 have e5 : dg m 5 = 0 := by unfold dg; rw [Nat.div_eq_of_lt (by omega)]
 have e0 : dg m 0 = m % 1073741824 := by unfold dg; rw [Nat.pow_zero, Nat.div_one]
 have e1 : dg m 1 = m / 1073741824 % 1073741824 := by unfold dg; rw [Nat.pow_one]
 have e2 : dg m 2 = m / 1152921504606846976 % 1073741824 := by unfold dg; rfl
 refine ⟨dg m 0, dg m 1, dg m 2, by omega, by omega, by omega, by omega, fun w => ?_⟩
 refine (of_ok m (by omega) w).mono ?_
 rintro e w' ⟨rfl, hb⟩
 refine ⟨?_, hb⟩
 unfold bigV
 rw [e3, e4, e5]
 rfl
def valD : List Int → Int
 | [] => 0
 | x :: l => x * 1073741824 ^ l.length + valD l
theorem valD_rng : ∀ (l : List Int), (∀ x ∈ l, 0 ≤ x ∧ x < 1073741824) → 0 ≤ valD l ∧ valD l < 1073741824 ^ l.length
 | [], _ => by simp [valD]
 | x :: l, h => by
   obtain ⟨h1, h2⟩ := valD_rng l fun y hy => h y (List.mem_cons_of_mem _ hy)
   obtain ⟨h3, h4⟩ := h x (List.mem_cons_self ..)
   have hp : (0 : Int) < 1073741824 ^ l.length := Int.pow_pos (by decide)
   have h5 : 0 ≤ x * 1073741824 ^ l.length := Int.mul_nonneg h3 (by omega)
   have h6 : (x + 1) * 1073741824 ^ l.length ≤ 1073741824 * 1073741824 ^ l.length := Int.mul_le_mul_of_nonneg_right (by omega) (by omega)
   rw [Int.add_mul, Int.one_mul] at h6
   simp only [valD, List.length_cons, Int.pow_succ]
   rw [Int.mul_comm (1073741824 ^ l.length) 1073741824]
   omega
theorem cmpD_ok : ∀ (l m : List Int), l.length = m.length → (∀ x ∈ l, 0 ≤ x ∧ x < 1073741824) → (∀ x ∈ m, 0 ≤ x ∧ x < 1073741824) → (-1 ≤ cmpD l m ∧ cmpD l m ≤ 1) ∧ (cmpD l m ≤ 0 ↔ valD l ≤ valD m)
 | [], [], _, _, _ => by simp [cmpD, valD]
 | [], y :: m, h, _, _ => by simp at h
 | x :: l, [], h, _, _ => by simp at h
 | x :: l, y :: m, hl, hx, hy => by
   have hlen : l.length = m.length := by simpa using hl
   obtain ⟨i1, i2⟩ := cmpD_ok l m hlen (fun z hz => hx z (List.mem_cons_of_mem _ hz)) (fun z hz => hy z (List.mem_cons_of_mem _ hz))
   obtain ⟨a1, a2⟩ := valD_rng l fun z hz => hx z (List.mem_cons_of_mem _ hz)
   obtain ⟨b1, b2⟩ := valD_rng m fun z hz => hy z (List.mem_cons_of_mem _ hz)
   have hp : (0 : Int) < 1073741824 ^ m.length := Int.pow_pos (by decide)
   rw [hlen] at a2
   simp only [cmpD, valD, hlen]
   by_cases h1 : x < y
   · rw [if_pos h1]
     have := Int.mul_le_mul_of_nonneg_right (show x + 1 ≤ y by omega) (show 0 ≤ (1073741824 : Int) ^ m.length by omega)
     rw [Int.add_mul, Int.one_mul] at this
     omega
   · rw [if_neg h1]
     by_cases h2 : x > y
     · rw [if_pos h2]
       have := Int.mul_le_mul_of_nonneg_right (show y + 1 ≤ x by omega) (show 0 ≤ (1073741824 : Int) ^ m.length by omega)
       rw [Int.add_mul, Int.one_mul] at this
       omega
     · rw [if_neg h2]
       obtain rfl : x = y := by omega
       omega
theorem cmp5 (x0 x1 x2 x3 x4 y0 y1 y2 y3 y4 : Int) (hx0 : 0 ≤ x0 ∧ x0 < 1073741824) (hx1 : 0 ≤ x1 ∧ x1 < 1073741824) (hx2 : 0 ≤ x2 ∧ x2 < 1073741824) (hx3 : 0 ≤ x3 ∧ x3 < 1073741824) (hx4 : 0 ≤ x4 ∧ x4 < 1073741824)
 (hy0 : 0 ≤ y0 ∧ y0 < 1073741824) (hy1 : 0 ≤ y1 ∧ y1 < 1073741824) (hy2 : 0 ≤ y2 ∧ y2 < 1073741824) (hy3 : 0 ≤ y3 ∧ y3 < 1073741824) (hy4 : 0 ≤ y4 ∧ y4 < 1073741824) :
 ∃ s : Int, (-1 ≤ s ∧ s ≤ 1) ∧ (s ≤ 0 ↔ x0 + 1073741824 * x1 + 1152921504606846976 * x2 + 1237940039285380274899124224 * x3 + 1329227995784915872903807060280344576 * x4 ≤ y0 + 1073741824 * y1 + 1152921504606846976 * y2 + 1237940039285380274899124224 * y3 + 1329227995784915872903807060280344576 * y4) ∧
 ∀ w : World, Calls Tryz.prog 485 #[.agg #[.int .i64 x0, .int .i64 x1, .int .i64 x2, .int .i64 x3, .int .i64 x4, .int .i64 0], .agg #[.int .i64 y0, .int .i64 y1, .int .i64 y2, .int .i64 y3, .int .i64 y4, .int .i64 0]] w
  fun e w' => e = .returned (.int .i64 s) ∧ Below w.heap.size w w' := by
 obtain ⟨h1, h2⟩ := cmpD_ok [0, x4, x3, x2, x1, x0] [0, y4, y3, y2, y1, y0] rfl (by simp; omega) (by simp; omega)
 refine ⟨cmpD [0, x4, x3, x2, x1, x0] [0, y4, y3, y2, y1, y0], h1, h2.trans ?_, fun w => cmp_ok x0 x1 x2 x3 x4 0 y0 y1 y2 y3 y4 0 w⟩
 simp only [valD, List.length_cons, List.length_nil, Nat.reduceAdd, Int.reducePow]
 omega
def agA : List V := [.sint .i64 0 [(0,1)], .sint .i64 0 [(1,1)], .sint .i64 0 [(2,1)], .sint .i64 0 [(3,1)], .sint .i64 0 [(4,1)], .int .i64 0]
def agC : List V := [.sint .i64 0 [(5,1)], .sint .i64 0 [(6,1)], .sint .i64 0 [(7,1)], .int .i64 0, .int .i64 0, .int .i64 0]
def agM : List V := [.sint .i64 0 [(13,1)], .sint .i64 0 [(14,1)], .sint .i64 0 [(15,1)], .int .i64 0, .int .i64 0, .int .i64 0]
def agP : List V := [.sint .i64 0 [(16,1)], .sint .i64 0 [(17,1)], .sint .i64 0 [(18,1)], .sint .i64 0 [(19,1)], .sint .i64 0 [(20,1)], .int .i64 0]
def mostT : List HT := [⟨486, [.sint .i64 0 [(12,1),(11,1),(9,1)]], .agg agM⟩, ⟨548, [.agg agM, .agg agC], .agg agP⟩, ⟨485, [.agg agP, .agg agA], .sint .i64 0 [(21,1)]⟩]
def mostBd : List (Int × Int) := [(0, 1073741823), (0, 1073741823), (0, 1073741823), (0, 1073741823), (0, 1073741823), (0, 1073741823), (0, 1073741823), (0, 7), (0, 1152921504606846977), (0, 1152921504606846977), (0, 1152921504606846977), (0, 576460752303423488), (0, 1), (0, 1073741823), (0, 1073741823), (0, 7), (0, 1073741823), (0, 1073741823), (0, 1073741823), (0, 1073741823), (0, 1073741823), (-1, 1)]
def mostNl : List NL := [⟨1, .i64, (0,[(10,1),(9,-1)]), (2,[]), 11⟩, ⟨2, .i64, (0,[(10,1),(9,-1)]), (2,[]), 12⟩]
def mostGe (i : Nat) : List (Int × List (Nat × Int)) := match i with
 | 0 => [(0,[(9,1),(10,-1)]), (0,[(9,1),(8,-1)]), (0,[(8,1),(9,-1)])]
 | 1 => [(-1,[(10,1),(9,-1)]), (0,[(21,-1)])]
 | _ => [(-1,[(10,1),(9,-1)]), (-1,[(21,1)])]
def mostBd0 : List (Int × Int) := mostBd.take 9
noncomputable def mostE0 : Env := evE Tryz.prog (fun _ => none) mostBd0 [] []
noncomputable def mostE (i : Nat) : Env := evE Tryz.prog (hkT mostT) mostBd (mostGe i) mostNl
noncomputable def mostS : LSpec where
 K := 9
 id := 0
 body := bodyOf 0 Tryz.f547
 W := [7, 8, 9, 11, 12, 13, 14, 15, 16, 17, 18, 19, 20, 21, 22, 23, 24, 25, 26, 27, 28, 29, 30, 31, 32, 33, 34]
 inv := [(7, .sint .i64 0 [(9,1)]), (8, .sint .i64 0 [(10,1)])]
 init := [(0, []), (1152921504606846977, [])]
 cases := [⟨mostE 0, 10, false, []⟩, ⟨mostE 1, 10, true, [(0, [(12,1),(11,1),(9,1)]), (0, [(10,1)])]⟩, ⟨mostE 2, 10, true, [(0, [(9,1)]), (-1, [(12,1),(11,1),(9,1)])]⟩]
 fin := [(7, .sint .i64 0 [(8,1)])]
 need := [3, 4]
noncomputable def mostLk (i : Nat) : Option (Fr → H → RX) := bif Nat.beq i 0 then some (loopG mostS Tryz.f547.ntmps) else none
theorem mostRun : ((runL mostE0 mostLk 10 Tryz.f547 [.agg agA, .agg agC, .int .i64 1152921504606846977] H0).isV (.sint .i64 0 [(8,1)])) = true := by kernel_rfl
def mostGood (σ : Nat → Int) : Prop := 0 ≤ σ 9 ∧ σ 9 ≤ σ 8 ∧ σ 8 ≤ σ 10 ∧ σ 10 ≤ 1152921504606846977
set_option maxRecDepth 100000 in
set_option maxHeartbeats 2000000 in
theorem most_ok (a0 a1 a2 a3 a4 c0 c1 c2 : Int) (ha0 : 0 ≤ a0 ∧ a0 ≤ 1073741823) (ha1 : 0 ≤ a1 ∧ a1 ≤ 1073741823) (ha2 : 0 ≤ a2 ∧ a2 ≤ 1073741823) (ha3 : 0 ≤ a3 ∧ a3 ≤ 1073741823) (ha4 : 0 ≤ a4 ∧ a4 ≤ 1073741823)
 (hc0 : 0 ≤ c0 ∧ c0 ≤ 1073741823) (hc1 : 0 ≤ c1 ∧ c1 ≤ 1073741823) (hc2 : 0 ≤ c2 ∧ c2 ≤ 7) (hC : 1 ≤ (c0 + 1073741824 * c1 + 1152921504606846976 * c2)) (v : Int) (hv : 0 ≤ v ∧ v ≤ 1152921504606846977)
 (hlo : v * (c0 + 1073741824 * c1 + 1152921504606846976 * c2) ≤ a0 + 1073741824 * a1 + 1152921504606846976 * a2 + 1237940039285380274899124224 * a3 + 1329227995784915872903807060280344576 * a4) (hhi : v = 1152921504606846977 ∨ a0 + 1073741824 * a1 + 1152921504606846976 * a2 + 1237940039285380274899124224 * a3 + 1329227995784915872903807060280344576 * a4 < (v + 1) * (c0 + 1073741824 * c1 + 1152921504606846976 * c2)) (w : World) :
 Calls Tryz.prog 547 #[.agg #[.int .i64 a0, .int .i64 a1, .int .i64 a2, .int .i64 a3, .int .i64 a4, .int .i64 0], .agg #[.int .i64 c0, .int .i64 c1, .int .i64 c2, .int .i64 0, .int .i64 0, .int .i64 0], .int .i64 1152921504606846977] w
  fun e w' => e = .returned (.int .i64 v) ∧ Below w.heap.size w w' := by
 obtain ⟨Av, hAv⟩ : ∃ z, z = a0 + 1073741824 * a1 + 1152921504606846976 * a2 + 1237940039285380274899124224 * a3 + 1329227995784915872903807060280344576 * a4 := ⟨_, rfl⟩
 obtain ⟨Cv, hCv⟩ : ∃ z, z = (c0 + 1073741824 * c1 + 1152921504606846976 * c2) := ⟨_, rfl⟩
 rw [← hAv, ← hCv] at hlo hhi
 rw [← hCv] at hC
 have hle : ∀ m : Int, m ≤ v → m * Cv ≤ Av := fun m hm => Int.le_trans (Int.mul_le_mul_of_nonneg_right hm (by omega)) hlo
 have hgt : ∀ m : Int, m ≤ 1152921504606846977 → v < m → Av < m * Cv := fun m hm hvm => by
  rcases hhi with h | h
  · omega
  · exact Int.lt_of_lt_of_le h (Int.mul_le_mul_of_nonneg_right (by omega) (by omega))
 obtain ⟨G, hG⟩ : ∃ G, G = mkGh [] [a0, a1, a2, a3, a4, c0, c1, c2, v] rfl := ⟨_, rfl⟩
 have g0 : G.σ 0 = a0 := by rw [hG]; rfl
 have g1 : G.σ 1 = a1 := by rw [hG]; rfl
 have g2 : G.σ 2 = a2 := by rw [hG]; rfl
 have g3 : G.σ 3 = a3 := by rw [hG]; rfl
 have g4 : G.σ 4 = a4 := by rw [hG]; rfl
 have g5 : G.σ 5 = c0 := by rw [hG]; rfl
 have g6 : G.σ 6 = c1 := by rw [hG]; rfl
 have g7 : G.σ 7 = c2 := by rw [hG]; rfl
 have g8 : G.σ 8 = v := by rw [hG]; rfl
 have hm : G.mono = False := by rw [hG]; rfl
 have hsem : LSem Tryz.prog mostS G mostGood (fun σ => (σ 10 - σ 9).toNat) := by
  refine ⟨fun σ' hσ hi => ?_, fun σ' hσ hgood => ?_⟩
  · have e8 : σ' 8 = v := (hσ 8 (by decide)).trans g8
    have e9 : σ' 9 = 0 := hi 0 (0, []) rfl
    have e10 : σ' 10 = 1152921504606846977 := hi 1 (1152921504606846977, []) rfl
    unfold mostGood
    omega
  · obtain ⟨k1, k2, k3, k4⟩ := hgood
    have e0 : σ' 0 = a0 := (hσ 0 (by decide)).trans g0
    have e1 : σ' 1 = a1 := (hσ 1 (by decide)).trans g1
    have e2 : σ' 2 = a2 := (hσ 2 (by decide)).trans g2
    have e3 : σ' 3 = a3 := (hσ 3 (by decide)).trans g3
    have e4 : σ' 4 = a4 := (hσ 4 (by decide)).trans g4
    have e5 : σ' 5 = c0 := (hσ 5 (by decide)).trans g5
    have e6 : σ' 6 = c1 := (hσ 6 (by decide)).trans g6
    have e7 : σ' 7 = c2 := (hσ 7 (by decide)).trans g7
    have e8 : σ' 8 = v := (hσ 8 (by decide)).trans g8
    obtain ⟨lo, hlo9⟩ : ∃ z, z = σ' 9 := ⟨_, rfl⟩
    obtain ⟨hi, hhi10⟩ : ∃ z, z = σ' 10 := ⟨_, rfl⟩
    rw [← hlo9] at k1 k2
    rw [← hhi10] at k3 k4
    rw [e8] at k2 k3
    obtain ⟨q, hq⟩ : ∃ z : Int, z = (hi - lo) / 2 := ⟨_, rfl⟩
    obtain ⟨r, hr⟩ : ∃ z : Int, z = (hi - lo) % 2 := ⟨_, rfl⟩
    obtain ⟨d0, d1, d2, rd0, rd1, rd2, hd, cof⟩ := of3 (lo + q + r) (by omega) (by omega)
    obtain ⟨p0, p1, p2, p3, p4, p5, rp0, rp1, rp2, rp3, rp4, rp5, hp, cmul⟩ := mul3 d0 d1 d2 c0 c1 c2 rd0 rd1 rd2 hc0 hc1 hc2
    subst rp5
    obtain ⟨s, rs, hs, ccmp⟩ := cmp5 p0 p1 p2 p3 p4 a0 a1 a2 a3 a4 rp0 rp1 rp2 rp3 rp4 (by omega) (by omega) (by omega) (by omega) (by omega)
    have hprod : (lo + q + r) * Cv = d0 * c0 + 1073741824 * (d0 * c1 + d1 * c0) + 1152921504606846976 * (d0 * c2 + d1 * c1 + d2 * c0) + 1237940039285380274899124224 * (d1 * c2 + d2 * c1) + 1329227995784915872903807060280344576 * (d2 * c2) := by
     rw [hd, hCv]
     simp only [Int.add_mul, Int.mul_add, Int.mul_assoc, Int.mul_left_comm d0 1073741824 c1, Int.mul_left_comm d0 1152921504606846976 c2, Int.mul_left_comm d1 1073741824 c1, Int.mul_left_comm d1 1152921504606846976 c2, Int.mul_left_comm d2 1073741824 c1, Int.mul_left_comm d2 1152921504606846976 c2]
     omega
    have hsle : s ≤ 0 ↔ (lo + q + r) * Cv ≤ Av := by rw [hprod, ← hp, hAv]; exact hs
    obtain ⟨σ2, hσ2⟩ : ∃ z, z = extσ σ' 11 [q, r, d0, d1, d2, p0, p1, p2, p3, p4, s] := ⟨_, rfl⟩
    have hbd : bdOk σ2 mostBd 0 := by
     rw [hσ2]
     simp only [mostBd, bdOk, Nat.reduceAdd]
     simp only [extσ, Nat.reduceLT, if_true, if_false, Nat.reduceSub, List.getD_cons_succ, List.getD_cons_zero, e0, e1, e2, e3, e4, e5, e6, e7, e8, ← hlo9, ← hhi10]
     and_intros <;> first | trivial | omega
    have hfacts : ∀ i, geOk σ2 (mostGe i) → ∀ G2 : Gh, G2.σ = σ2 → (∀ i, i < 1000 → G2.ε i = G.ε i) → G2.mono = G.mono → EnvOk (mostE i) Tryz.prog G2 ∧ FnOk (mostE i) Tryz.prog G2 := by
     intro i hge G2 hσ2' _ hmono
     have hm2 : ¬ G2.mono := by rw [hmono, hm]; exact id
     have s0 : G2.σ 0 = a0 := by rw [hσ2', hσ2]; exact e0
     have s1 : G2.σ 1 = a1 := by rw [hσ2', hσ2]; exact e1
     have s2 : G2.σ 2 = a2 := by rw [hσ2', hσ2]; exact e2
     have s3 : G2.σ 3 = a3 := by rw [hσ2', hσ2]; exact e3
     have s4 : G2.σ 4 = a4 := by rw [hσ2', hσ2]; exact e4
     have s5 : G2.σ 5 = c0 := by rw [hσ2', hσ2]; exact e5
     have s6 : G2.σ 6 = c1 := by rw [hσ2', hσ2]; exact e6
     have s7 : G2.σ 7 = c2 := by rw [hσ2', hσ2]; exact e7
     have s9 : G2.σ 9 = lo := by rw [hσ2', hσ2]; exact hlo9.symm
     have s10 : G2.σ 10 = hi := by rw [hσ2', hσ2]; exact hhi10.symm
     have s11 : G2.σ 11 = q := by rw [hσ2', hσ2]; rfl
     have s12 : G2.σ 12 = r := by rw [hσ2', hσ2]; rfl
     have s13 : G2.σ 13 = d0 := by rw [hσ2', hσ2]; rfl
     have s14 : G2.σ 14 = d1 := by rw [hσ2', hσ2]; rfl
     have s15 : G2.σ 15 = d2 := by rw [hσ2', hσ2]; rfl
     have s16 : G2.σ 16 = p0 := by rw [hσ2', hσ2]; rfl
     have s17 : G2.σ 17 = p1 := by rw [hσ2', hσ2]; rfl
     have s18 : G2.σ 18 = p2 := by rw [hσ2', hσ2]; rfl
     have s19 : G2.σ 19 = p3 := by rw [hσ2', hσ2]; rfl
     have s20 : G2.σ 20 = p4 := by rw [hσ2', hσ2]; rfl
     have s21 : G2.σ 21 = s := by rw [hσ2', hσ2]; rfl
     have hnl : nlOk G2 mostNl := by
      refine ⟨.inr (.inl ⟨rfl, by show (2 + 0 : Int) ≠ 0; omega, ?_⟩), .inr (.inr (.inl ⟨rfl, by show (2 + 0 : Int) ≠ 0; omega, ?_⟩)), trivial⟩
      · show IntKind.i64.wrap (((0 + (1 * G2.σ 10 + (-1 * G2.σ 9 + 0)))).tdiv (2 + 0)) = G2.σ 11
        rw [s9, s10, s11, Int.tdiv_eq_ediv_of_nonneg (by omega), IntKind.wrap_i64]
        omega
      · show ((0 + (1 * G2.σ 10 + (-1 * G2.σ 9 + 0)))).tmod (2 + 0) = G2.σ 12
        rw [s9, s10, s12, Int.tmod_eq_emod_of_nonneg (by omega)]
        omega
     have F : Facts G2 mostBd (mostGe i) mostNl := ⟨by rw [hσ2']; exact hbd, by rw [hσ2']; exact hge, hnl⟩
     have cM : ∀ φ, conc G2 φ (.agg agM) = some (.agg #[.int .i64 d0, .int .i64 d1, .int .i64 d2, .int .i64 0, .int .i64 0, .int .i64 0]) := fun φ => by simp [agM, concL, conc, den, s13, s14, s15]
     have cC : ∀ φ, conc G2 φ (.agg agC) = some (.agg #[.int .i64 c0, .int .i64 c1, .int .i64 c2, .int .i64 0, .int .i64 0, .int .i64 0]) := fun φ => by simp [agC, concL, conc, den, s5, s6, s7]
     have cP : ∀ φ, conc G2 φ (.agg agP) = some (.agg #[.int .i64 p0, .int .i64 p1, .int .i64 p2, .int .i64 p3, .int .i64 p4, .int .i64 0]) := fun φ => by simp [agP, concL, conc, den, s16, s17, s18, s19, s20]
     have cA : ∀ φ, conc G2 φ (.agg agA) = some (.agg #[.int .i64 a0, .int .i64 a1, .int .i64 a2, .int .i64 a3, .int .i64 a4, .int .i64 0]) := fun φ => by simp [agA, concL, conc, den, s0, s1, s2, s3, s4]
     have cm : ∀ φ, conc G2 φ (.sint .i64 0 [(12,1),(11,1),(9,1)]) = some (.int .i64 (lo + q + r)) := fun φ => by
      rw [conc]
      show some (Value.int .i64 (0 + (1 * G2.σ 12 + (1 * G2.σ 11 + (1 * G2.σ 9 + 0))))) = _
      rw [s9, s11, s12, show (0 : Int) + (1 * r + (1 * q + (1 * lo + 0))) = lo + q + r from by omega]
     have cs : ∀ φ, conc G2 φ (.sint .i64 0 [(21,1)]) = some (.int .i64 s) := fun φ => by simp [conc, den, s21]
     have two : ∀ {x y : V} {u v : Value}, (∀ φ, conc G2 φ x = some u) → (∀ φ, conc G2 φ y = some v) → ∀ φ, concL G2 φ [x, y] = some [u, v] := fun hx hy φ => concL_cons.2 ⟨_, _, hx φ, concL_cons.2 ⟨_, _, hy φ, concL_nil, rfl⟩, rfl⟩
     have one : ∀ {x : V} {u : Value}, (∀ φ, conc G2 φ x = some u) → ∀ φ, concL G2 φ [x] = some [u] := fun hx φ => concL_cons.2 ⟨_, _, hx φ, concL_nil, rfl⟩
     refine ⟨evE_ok progOkB F.ends (geOk_at F.ge) (nlOk_at F.nl), evE_fn progOkB (hkT_ok progOkB mostT (fun t ht => ?_) hm2)⟩
     simp only [mostT, List.mem_cons, List.not_mem_nil, or_false] at ht
     rcases ht with rfl | rfl | rfl
     · exact HTOk.of Tryz.func486 rfl (one cm) cM cof
     · exact HTOk.of Tryz.func548 rfl (two cM cC) cP cmul
     · exact HTOk.of Tryz.func485 rfl (two cP cA) cs ccmp
    have t8 : σ2 8 = v := by rw [hσ2]; exact e8
    have t9 : σ2 9 = lo := by rw [hσ2]; exact hlo9.symm
    have t10 : σ2 10 = hi := by rw [hσ2]; exact hhi10.symm
    have t11 : σ2 11 = q := by rw [hσ2]; rfl
    have t12 : σ2 12 = r := by rw [hσ2]; rfl
    have t21 : σ2 21 = s := by rw [hσ2]; rfl
    have hlow : ∀ i, i < mostS.K + mostS.init.length → σ2 i = σ' i := fun i hi => by rw [hσ2]; exact extσ_lo hi
    by_cases hlh : lo < hi
    · by_cases hcm : s ≤ 0
      · have hmid : (lo + q + r) * Cv ≤ Av := hsle.1 hcm
        have hmv : lo + q + r ≤ v := by
         by_cases hx : lo + q + r ≤ v
         · exact hx
         · have := hgt (lo + q + r) (by omega) (by omega)
           omega
        refine ⟨⟨mostE 1, 10, true, [(0, [(12,1),(11,1),(9,1)]), (0, [(10,1)])]⟩, by simp [mostS], σ2, hlow, hfacts 1 (by simp [mostGe, geOk, den, t9, t10, t21]; omega), fun _ σ3 h3 hsub => ?_⟩
        have u8 : σ3 8 = v := (h3 8 (by decide)).trans g8
        have u9 : σ3 9 = 0 + (1 * σ2 12 + (1 * σ2 11 + (1 * σ2 9 + 0))) := hsub 0 _ rfl
        have u10 : σ3 10 = 0 + (1 * σ2 10 + 0) := hsub 1 _ rfl
        rw [t9, t11, t12] at u9
        rw [t10] at u10
        unfold mostGood
        rw [u8, u9, u10, ← hlo9, ← hhi10]
        omega
      · have hmid : ¬ (lo + q + r) * Cv ≤ Av := fun h => hcm (hsle.2 h)
        have hmv : v < lo + q + r := by
         by_cases hx : v < lo + q + r
         · exact hx
         · exact absurd (hle (lo + q + r) (by omega)) hmid
        refine ⟨⟨mostE 2, 10, true, [(0, [(9,1)]), (-1, [(12,1),(11,1),(9,1)])]⟩, by simp [mostS], σ2, hlow, hfacts 2 (by simp [mostGe, geOk, den, t9, t10, t21]; omega), fun _ σ3 h3 hsub => ?_⟩
        have u8 : σ3 8 = v := (h3 8 (by decide)).trans g8
        have u9 : σ3 9 = 0 + (1 * σ2 9 + 0) := hsub 0 _ rfl
        have u10 : σ3 10 = -1 + (1 * σ2 12 + (1 * σ2 11 + (1 * σ2 9 + 0))) := hsub 1 _ rfl
        rw [t9] at u9
        rw [t9, t11, t12] at u10
        unfold mostGood
        rw [u8, u9, u10, ← hlo9, ← hhi10]
        omega
    · exact ⟨⟨mostE 0, 10, false, []⟩, by simp [mostS], σ2, hlow, hfacts 0 (by simp [mostGe, geOk, den, t8, t9, t10]; omega), fun h => by cases h⟩
 have hE : ∀ G1, GLe 9 G G1 → EnvOk mostE0 Tryz.prog G1 := fun G1 gg => by
  have b : bdOk G1.σ mostBd0 0 := by
   simp only [mostBd0, mostBd, List.take, bdOk, Nat.reduceAdd]
   rw [gg.σ 0 (by decide), gg.σ 1 (by decide), gg.σ 2 (by decide), gg.σ 3 (by decide), gg.σ 4 (by decide), gg.σ 5 (by decide), gg.σ 6 (by decide), gg.σ 7 (by decide), gg.σ 8 (by decide), g0, g1, g2, g3, g4, g5, g6, g7, g8]
   and_intros <;> first | trivial | omega
  exact evE_ok progOkB (Facts.ends (ge := []) (nl := []) ⟨b, trivial, trivial⟩) (fun f hf => by cases hf) (fun n hn => by cases hn)
 have hF : ∀ G1, GLe 9 G G1 → FnOk mostE0 Tryz.prog G1 := fun G1 gg => evE_fn progOkB (fun _ _ h => (nomatch h))
 have hrun := mostRun
 unfold RV.isV at hrun
 cases hr : runL mostE0 mostLk 10 Tryz.f547 [.agg agA, .agg agC, .int .i64 1152921504606846977] H0 with
 | bad m i => rw [hr] at hrun; cases hrun
 | ok x h' =>
   rw [hr] at hrun
   have hx := sameV_eq hrun
   subst hx
   have r0 : HRel G (fun _ => none) H0 w := ⟨fun b x l hb => (nomatch hb), fun b b' x x' l l' hb => (nomatch hb), fun b _ => rfl⟩
   have hul : concL G (fun _ => none) [.agg agA, .agg agC, .int .i64 1152921504606846977] = some [.agg #[.int .i64 a0, .int .i64 a1, .int .i64 a2, .int .i64 a3, .int .i64 a4, .int .i64 0], .agg #[.int .i64 c0, .int .i64 c1, .int .i64 c2, .int .i64 0, .int .i64 0, .int .i64 0], .int .i64 1152921504606846977] := by
    simp [agA, agC, concL, conc, den, g0, g1, g2, g3, g4, g5, g6, g7]
   refine (runL_ok (K := 9) (G := G) hE hF Tryz.func547 rfl (lk_one (by kernel_rfl) (loop_piece hsem)) hr hul r0 (fun _ _ _ => rfl)).mono ?_
   rintro e w' ⟨u, rfl, G2, gg, φ', hu, r', f', x⟩
   have hv2 : conc G2 φ' (.sint .i64 0 [(8,1)]) = some (.int .i64 v) := by
    rw [conc]
    show some (Value.int .i64 (0 + (1 * G2.σ 8 + 0))) = _
    rw [gg.σ 8 (by decide), g8, show (0 : Int) + (1 * v + 0) = v from by omega]
   rw [hv2] at hu
   cases hu
   refine ⟨rfl, f'.os, f'.tape, f'.output, f'.size, fun k hk => f'.block k hk ?_⟩
   rintro ⟨b, y, l, hb, _⟩
   exact (nomatch hb)
end Go.Proofs.YtmfmjhklajmhoaaGreat
/- The document's MulDiv: a contract, and a hook at numbers. -/
namespace Go.Proofs.YtmfmjhklajmhoaaGreat
open Go Go.RowKit Gv
def mdX : List V := [.sint .i64 0 [(3,1)], .sint .i64 0 [(4,1)], .sint .i64 0 [(5,1)], .int .i64 0, .int .i64 0, .int .i64 0]
def mdY : List V := [.sint .i64 0 [(6,1)], .sint .i64 0 [(7,1)], .sint .i64 0 [(8,1)], .int .i64 0, .int .i64 0, .int .i64 0]
def mdP : List V := [.sint .i64 0 [(9,1)], .sint .i64 0 [(10,1)], .sint .i64 0 [(11,1)], .sint .i64 0 [(12,1)], .sint .i64 0 [(13,1)], .int .i64 0]
def mdZ : List V := [.sint .i64 0 [(14,1)], .sint .i64 0 [(15,1)], .sint .i64 0 [(16,1)], .int .i64 0, .int .i64 0, .int .i64 0]
def mdT : List HT := [⟨486, [.sint .i64 0 [(0,1)]], .agg mdX⟩, ⟨486, [.sint .i64 0 [(1,1)]], .agg mdY⟩, ⟨548, [.agg mdX, .agg mdY], .agg mdP⟩, ⟨486, [.sint .i64 0 [(2,1)]], .agg mdZ⟩, ⟨547, [.agg mdP, .agg mdZ, .int .i64 1152921504606846977], .sint .i64 0 [(17,1)]⟩]
def mdBd : List (Int × Int) := [(0, 9223372036854775807), (0, 9223372036854775807), (1, 9223372036854775807), (0, 1073741823), (0, 1073741823), (0, 7), (0, 1073741823), (0, 1073741823), (0, 7), (0, 1073741823), (0, 1073741823), (0, 1073741823), (0, 1073741823), (0, 1073741823), (0, 1073741823), (0, 1073741823), (0, 7), (0, 1152921504606846977)]
def mdGe (o : Bool) : List (Int × List (Nat × Int)) := if o then [(-1152921504606846977,[(17,1)])] else [(1152921504606846976,[(17,-1)])]
theorem mdRun0 : ((callN (evE Tryz.prog (hkT mdT) mdBd (mdGe false) []) 10 488 [.sint .i64 0 [(0,1)], .sint .i64 0 [(1,1)], .sint .i64 0 [(2,1)]] H0).isV (.tuple [.sint .i64 0 [(17,1)], .int .i64 0])) = true := by kernel_rfl
theorem mdRun1 : ((callN (evE Tryz.prog (hkT mdT) mdBd (mdGe true) []) 10 488 [.sint .i64 0 [(0,1)], .sint .i64 0 [(1,1)], .sint .i64 0 [(2,1)]] H0).isV (.tuple [.int .i64 0, .int .i64 12])) = true := by kernel_rfl
set_option maxRecDepth 100000 in
set_option maxHeartbeats 2000000 in
theorem muldiv_ok (a b c : Int) (ha : 0 ≤ a ∧ a ≤ 9223372036854775807) (hb : 0 ≤ b ∧ b ≤ 9223372036854775807) (hc : 1 ≤ c ∧ c ≤ 9223372036854775807) (w : World) :
 Calls Tryz.prog 488 #[.int .i64 a, .int .i64 b, .int .i64 c] w fun e w' => e = .returned (mdV a b c) ∧ Below w.heap.size w w' := by
 obtain ⟨x0, x1, x2, rx0, rx1, rx2, hx, cx⟩ := of3 a ha.1 (by omega)
 obtain ⟨y0, y1, y2, ry0, ry1, ry2, hy, cy⟩ := of3 b hb.1 (by omega)
 obtain ⟨z0, z1, z2, rz0, rz1, rz2, hz, cz⟩ := of3 c (by omega) (by omega)
 obtain ⟨p0, p1, p2, p3, p4, p5, rp0, rp1, rp2, rp3, rp4, rp5, hp, cmul⟩ := mul3 x0 x1 x2 y0 y1 y2 rx0 rx1 rx2 ry0 ry1 ry2
 subst rp5
 have hprod : a * b = p0 + 1073741824 * p1 + 1152921504606846976 * p2 + 1237940039285380274899124224 * p3 + 1329227995784915872903807060280344576 * p4 := by
  rw [hp, hx, hy]
  simp only [Int.add_mul, Int.mul_add, Int.mul_assoc, Int.mul_left_comm x0 1073741824 y1, Int.mul_left_comm x0 1152921504606846976 y2, Int.mul_left_comm x1 1073741824 y1, Int.mul_left_comm x1 1152921504606846976 y2, Int.mul_left_comm x2 1073741824 y1, Int.mul_left_comm x2 1152921504606846976 y2]
  omega
 obtain ⟨q, hq⟩ : ∃ z, z = a * b / c := ⟨_, rfl⟩
 have hab : 0 ≤ a * b := Int.mul_nonneg ha.1 hb.1
 have hq0 : 0 ≤ q := by rw [hq]; exact Int.ediv_nonneg hab (by omega)
 have hq1 : q * c ≤ a * b := by rw [hq]; exact Int.ediv_mul_le _ (by omega)
 have hq2 : a * b < (q + 1) * c := by rw [hq]; exact Int.lt_ediv_add_one_mul_self _ (by omega)
 obtain ⟨v, hv⟩ : ∃ z : Int, z = if q ≤ 1152921504606846977 then q else 1152921504606846977 := ⟨_, rfl⟩
 have hv0 : 0 ≤ v ∧ v ≤ 1152921504606846977 := by rw [hv]; split <;> omega
 have hvq : v ≤ q := by rw [hv]; split <;> omega
 have hv1 : v * c ≤ a * b := Int.le_trans (Int.mul_le_mul_of_nonneg_right hvq (by omega)) hq1
 have hv2 : v = 1152921504606846977 ∨ a * b < (v + 1) * c := by
  by_cases hqb : q ≤ 1152921504606846977
  · rw [if_pos hqb] at hv; subst hv; exact .inr hq2
  · rw [if_neg hqb] at hv; exact .inl hv
 have cmost := most_ok p0 p1 p2 p3 p4 z0 z1 z2 (by omega) (by omega) (by omega) (by omega) (by omega) rz0 rz1 rz2 (by omega) v hv0 (by rw [← hprod, ← hz]; exact hv1) (by rw [← hprod, ← hz]; exact hv2)
 obtain ⟨G, hG⟩ : ∃ G, G = mkGh [] [a, b, c, x0, x1, x2, y0, y1, y2, p0, p1, p2, p3, p4, z0, z1, z2, v] rfl := ⟨_, rfl⟩
 have s0 : G.σ 0 = a := by rw [hG]; rfl
 have s1 : G.σ 1 = b := by rw [hG]; rfl
 have s2 : G.σ 2 = c := by rw [hG]; rfl
 have s3 : G.σ 3 = x0 := by rw [hG]; rfl
 have s4 : G.σ 4 = x1 := by rw [hG]; rfl
 have s5 : G.σ 5 = x2 := by rw [hG]; rfl
 have s6 : G.σ 6 = y0 := by rw [hG]; rfl
 have s7 : G.σ 7 = y1 := by rw [hG]; rfl
 have s8 : G.σ 8 = y2 := by rw [hG]; rfl
 have s9 : G.σ 9 = p0 := by rw [hG]; rfl
 have s10 : G.σ 10 = p1 := by rw [hG]; rfl
 have s11 : G.σ 11 = p2 := by rw [hG]; rfl
 have s12 : G.σ 12 = p3 := by rw [hG]; rfl
 have s13 : G.σ 13 = p4 := by rw [hG]; rfl
 have s14 : G.σ 14 = z0 := by rw [hG]; rfl
 have s15 : G.σ 15 = z1 := by rw [hG]; rfl
 have s16 : G.σ 16 = z2 := by rw [hG]; rfl
 have s17 : G.σ 17 = v := by rw [hG]; rfl
 have hm : ¬ G.mono := by rw [hG]; exact fun h => h
 have hbd : bdOk G.σ mdBd 0 := by
  simp only [mdBd, bdOk, Nat.reduceAdd, s0, s1, s2, s3, s4, s5, s6, s7, s8, s9, s10, s11, s12, s13, s14, s15, s16, s17]
  and_intros <;> first | trivial | omega
 have agX : ∀ φ, conc G φ (.agg mdX) = some (.agg #[.int .i64 x0, .int .i64 x1, .int .i64 x2, .int .i64 0, .int .i64 0, .int .i64 0]) := fun φ => by simp [mdX, concL, conc, den, s3, s4, s5]
 have agY : ∀ φ, conc G φ (.agg mdY) = some (.agg #[.int .i64 y0, .int .i64 y1, .int .i64 y2, .int .i64 0, .int .i64 0, .int .i64 0]) := fun φ => by simp [mdY, concL, conc, den, s6, s7, s8]
 have agZ : ∀ φ, conc G φ (.agg mdZ) = some (.agg #[.int .i64 z0, .int .i64 z1, .int .i64 z2, .int .i64 0, .int .i64 0, .int .i64 0]) := fun φ => by simp [mdZ, concL, conc, den, s14, s15, s16]
 have agP : ∀ φ, conc G φ (.agg mdP) = some (.agg #[.int .i64 p0, .int .i64 p1, .int .i64 p2, .int .i64 p3, .int .i64 p4, .int .i64 0]) := fun φ => by simp [mdP, concL, conc, den, s9, s10, s11, s12, s13]
 have ia : ∀ φ, conc G φ (.sint .i64 0 [(0,1)]) = some (.int .i64 a) := fun φ => by simp [conc, den, s0]
 have ib : ∀ φ, conc G φ (.sint .i64 0 [(1,1)]) = some (.int .i64 b) := fun φ => by simp [conc, den, s1]
 have ic : ∀ φ, conc G φ (.sint .i64 0 [(2,1)]) = some (.int .i64 c) := fun φ => by simp [conc, den, s2]
 have iv : ∀ φ, conc G φ (.sint .i64 0 [(17,1)]) = some (.int .i64 v) := fun φ => by simp [conc, den, s17]
 have iB : ∀ φ, conc G φ (.int .i64 1152921504606846977) = some (.int .i64 1152921504606846977) := fun φ => by simp [conc]
 have one : ∀ {x : V} {u : Value}, (∀ φ, conc G φ x = some u) → ∀ φ, concL G φ [x] = some [u] := fun hx φ => concL_cons.2 ⟨_, _, hx φ, concL_nil, rfl⟩
 have two : ∀ {x y : V} {u v : Value}, (∀ φ, conc G φ x = some u) → (∀ φ, conc G φ y = some v) → ∀ φ, concL G φ [x, y] = some [u, v] := fun hx hy φ => concL_cons.2 ⟨_, _, hx φ, one hy φ, rfl⟩
 have three : ∀ {x y z : V} {u v t : Value}, (∀ φ, conc G φ x = some u) → (∀ φ, conc G φ y = some v) → (∀ φ, conc G φ z = some t) → ∀ φ, concL G φ [x, y, z] = some [u, v, t] := fun hx hy hz φ => concL_cons.2 ⟨_, _, hx φ, two hy hz φ, rfl⟩
 have hh : HooksOk Tryz.prog G (hkT mdT) := hkT_ok progOkB mdT (fun t ht => by
  simp only [mdT, List.mem_cons, List.not_mem_nil, or_false] at ht
  rcases ht with rfl | rfl | rfl | rfl | rfl
  · exact HTOk.of Tryz.func486 rfl (one ia) agX cx
  · exact HTOk.of Tryz.func486 rfl (one ib) agY cy
  · exact HTOk.of Tryz.func548 rfl (two agX agY) agP cmul
  · exact HTOk.of Tryz.func486 rfl (one ic) agZ cz
  · exact HTOk.of Tryz.func547 rfl (three agP agZ iB) iv cmost) hm
 unfold mdV
 rw [← hq]
 by_cases hqm : q ≤ 1152921504606846976
 · rw [if_pos (show q ≤ 1152921504606846977 by omega)] at hv
   subst hv
   rw [if_pos hqm]
   exact run_val (G := G) (ge := mdGe false) (nl := []) progOkB ⟨hbd, by simp [mdGe, geOk, den, s17]; omega, trivial⟩ hh Tryz.func488 rfl (three ia ib ic _) mdRun0 (fun φ => by simp [concL, conc, den, s17]) w
 · have hvB : v = 1152921504606846977 := by rw [hv]; split <;> omega
   rw [if_neg hqm]
   exact run_val (G := G) (ge := mdGe true) (nl := []) progOkB ⟨hbd, by simp [mdGe, geOk, den, s17]; omega, trivial⟩ hh Tryz.func488 rfl (three ia ib ic _) mdRun1 (fun φ => by simp [concL, conc]) w
set_option maxRecDepth 100000 in
theorem mdH_ok {G : Gh} (hm : ¬ G.mono) : HookOk Tryz.prog G 488 mdH := by
 intro call _ l h v h' e φ w ul hl r _
 unfold mdH at e
 split at e
 · rename_i a b c
   obtain ⟨hc, e⟩ := bif_ok e
   simp only [Bool.and_eq_true, nble, decide_eq_true_eq] at hc
   obtain ⟨h1, h2, h3, h4⟩ := hc
   have hul : ul = [.int .i64 (a : Int), .int .i64 (b : Int), .int .i64 (c : Int)] := by
    simp [concL, conc] at hl
    exact hl.symm
   subst hul
   rw [run_enter Tryz.func488 (prog_name progOkB Tryz.func488) rfl]
   refine (muldiv_ok a b c (by omega) (by omega) (by omega) w).mono ?_
   rintro e2 w2 ⟨rfl, hb⟩
   have hcast : ((a : Int) * b / c) = ((a * b / c : Nat) : Int) := by push_cast; rfl
   have hV : mdV a b c = if a * b / c ≤ 1152921504606846976 then .tuple #[.int .i64 ((a * b / c : Nat) : Int), .int .i64 0] else .tuple #[.int .i64 0, .int .i64 12] := by
    unfold mdV
    rw [hcast]
    by_cases hq : a * b / c ≤ 1152921504606846976
    · rw [if_pos hq, if_pos (by omega)]
    · rw [if_neg hq, if_neg (by omega)]
   cases hq : Nat.ble (a * b / c) 1152921504606846976 with
   | true =>
     rw [hq, cond_true] at e
     rw [nble, decide_eq_true_eq] at hq
     cases e
     refine ⟨_, rfl, below_post hm r hb ?_⟩
     rw [hV, if_pos hq]
     simp [conc, concL]
   | false =>
     rw [hq, cond_false] at e
     rw [nble, decide_eq_false_iff_not] at hq
     cases e
     refine ⟨_, rfl, below_post hm r hb ?_⟩
     rw [hV, if_neg hq]
     simp [conc, concL]
 · cases e
end Go.Proofs.YtmfmjhklajmhoaaGreat
/- The document's big numbers: Add; Of, Add and Cmp as hooks at numbers. -/
namespace Go.Proofs.YtmfmjhklajmhoaaGreat
open Go Go.RowKit Gv
def addD : Int → List Int → List Int → List Int
 | c, x :: l, y :: m => ((c + x + y) % 1073741824) :: addD ((c + x + y) / 1073741824) l m
 | _, _, _ => []
def bdA : List (Int × Int) := [(0, 1073741823), (0, 1073741823), (0, 1073741823), (0, 1073741823), (0, 1073741823), (0, 1073741823), (0, 1073741823), (0, 1073741823), (0, 1073741823), (0, 1073741823), (0, 1073741823), (0, 1073741823), (0, 1073741823), (0, 1), (0, 1073741823), (0, 1), (0, 1073741823), (0, 1), (0, 1073741823), (0, 1), (0, 1073741823), (0, 1), (0, 1073741823), (0, 1)]
def nlA : List NL := [⟨2, .i64, (0,[(6,1),(0,1)]), (1073741824,[]), 12⟩, ⟨1, .i64, (0,[(6,1),(0,1)]), (1073741824,[]), 13⟩, ⟨2, .i64, (0,[(7,1),(1,1),(13,1)]), (1073741824,[]), 14⟩, ⟨1, .i64, (0,[(7,1),(1,1),(13,1)]), (1073741824,[]), 15⟩, ⟨2, .i64, (0,[(8,1),(2,1),(15,1)]), (1073741824,[]), 16⟩, ⟨1, .i64, (0,[(8,1),(2,1),(15,1)]), (1073741824,[]), 17⟩, ⟨2, .i64, (0,[(9,1),(3,1),(17,1)]), (1073741824,[]), 18⟩, ⟨1, .i64, (0,[(9,1),(3,1),(17,1)]), (1073741824,[]), 19⟩, ⟨2, .i64, (0,[(10,1),(4,1),(19,1)]), (1073741824,[]), 20⟩, ⟨1, .i64, (0,[(10,1),(4,1),(19,1)]), (1073741824,[]), 21⟩, ⟨2, .i64, (0,[(11,1),(5,1),(21,1)]), (1073741824,[]), 22⟩, ⟨1, .i64, (0,[(11,1),(5,1),(21,1)]), (1073741824,[]), 23⟩]
def argA : List V := [.agg [.sint .i64 0 [(0,1)], .sint .i64 0 [(1,1)], .sint .i64 0 [(2,1)], .sint .i64 0 [(3,1)], .sint .i64 0 [(4,1)], .sint .i64 0 [(5,1)]], .agg [.sint .i64 0 [(6,1)], .sint .i64 0 [(7,1)], .sint .i64 0 [(8,1)], .sint .i64 0 [(9,1)], .sint .i64 0 [(10,1)], .sint .i64 0 [(11,1)]]]
def resA : V := .agg [.sint .i64 0 [(12,1)], .sint .i64 0 [(14,1)], .sint .i64 0 [(16,1)], .sint .i64 0 [(18,1)], .sint .i64 0 [(20,1)], .sint .i64 0 [(22,1)]]
theorem addRun : ((callN (evE Tryz.prog (fun _ => none) bdA [] nlA) 100 484 argA H0).isV resA) = true := by kernel_rfl
set_option maxRecDepth 100000 in
set_option maxHeartbeats 4000000 in
theorem add_ok (x0 x1 x2 x3 x4 x5 y0 y1 y2 y3 y4 y5 : Int) (rx0 : 0 ≤ x0 ∧ x0 ≤ 1073741823) (rx1 : 0 ≤ x1 ∧ x1 ≤ 1073741823) (rx2 : 0 ≤ x2 ∧ x2 ≤ 1073741823) (rx3 : 0 ≤ x3 ∧ x3 ≤ 1073741823) (rx4 : 0 ≤ x4 ∧ x4 ≤ 1073741823) (rx5 : 0 ≤ x5 ∧ x5 ≤ 1073741823) (ry0 : 0 ≤ y0 ∧ y0 ≤ 1073741823) (ry1 : 0 ≤ y1 ∧ y1 ≤ 1073741823) (ry2 : 0 ≤ y2 ∧ y2 ≤ 1073741823) (ry3 : 0 ≤ y3 ∧ y3 ≤ 1073741823) (ry4 : 0 ≤ y4 ∧ y4 ≤ 1073741823) (ry5 : 0 ≤ y5 ∧ y5 ≤ 1073741823) (w : World) :
 Calls Tryz.prog 484 #[.agg #[.int .i64 x0, .int .i64 x1, .int .i64 x2, .int .i64 x3, .int .i64 x4, .int .i64 x5], .agg #[.int .i64 y0, .int .i64 y1, .int .i64 y2, .int .i64 y3, .int .i64 y4, .int .i64 y5]] w fun e w' => e = .returned (.agg (((addD 0 [x0, x1, x2, x3, x4, x5] [y0, y1, y2, y3, y4, y5]).map (Value.int .i64)).toArray)) ∧ Below w.heap.size w w' := by
 obtain ⟨r0, h0⟩ : ∃ z : Int, z = (y0 + x0) % 1073741824 := ⟨_, rfl⟩
 obtain ⟨q0, g0⟩ : ∃ z : Int, z = (y0 + x0) / 1073741824 := ⟨_, rfl⟩
 have a0 : 0 ≤ r0 ∧ r0 ≤ 1073741823 := h0 ▸ rmod _
 have b0 : 0 ≤ q0 ∧ q0 ≤ 1 := by omega
 have p0 : 0 ≤ y0 + x0 := by omega
 have c0 : (0 + x0 + y0) % 1073741824 = r0 := by rw [h0]; congr 1; omega
 have d0 : (0 + x0 + y0) / 1073741824 = q0 := by rw [g0]; congr 1; omega
 obtain ⟨r1, h1⟩ : ∃ z : Int, z = (y1 + x1 + q0) % 1073741824 := ⟨_, rfl⟩
 obtain ⟨q1, g1⟩ : ∃ z : Int, z = (y1 + x1 + q0) / 1073741824 := ⟨_, rfl⟩
 have a1 : 0 ≤ r1 ∧ r1 ≤ 1073741823 := h1 ▸ rmod _
 have b1 : 0 ≤ q1 ∧ q1 ≤ 1 := by omega
 have p1 : 0 ≤ y1 + x1 + q0 := by omega
 have c1 : (q0 + x1 + y1) % 1073741824 = r1 := by rw [h1]; congr 1; omega
 have d1 : (q0 + x1 + y1) / 1073741824 = q1 := by rw [g1]; congr 1; omega
 obtain ⟨r2, h2⟩ : ∃ z : Int, z = (y2 + x2 + q1) % 1073741824 := ⟨_, rfl⟩
 obtain ⟨q2, g2⟩ : ∃ z : Int, z = (y2 + x2 + q1) / 1073741824 := ⟨_, rfl⟩
 have a2 : 0 ≤ r2 ∧ r2 ≤ 1073741823 := h2 ▸ rmod _
 have b2 : 0 ≤ q2 ∧ q2 ≤ 1 := by omega
 have p2 : 0 ≤ y2 + x2 + q1 := by omega
 have c2 : (q1 + x2 + y2) % 1073741824 = r2 := by rw [h2]; congr 1; omega
 have d2 : (q1 + x2 + y2) / 1073741824 = q2 := by rw [g2]; congr 1; omega
 obtain ⟨r3, h3⟩ : ∃ z : Int, z = (y3 + x3 + q2) % 1073741824 := ⟨_, rfl⟩
 obtain ⟨q3, g3⟩ : ∃ z : Int, z = (y3 + x3 + q2) / 1073741824 := ⟨_, rfl⟩
 have a3 : 0 ≤ r3 ∧ r3 ≤ 1073741823 := h3 ▸ rmod _
 have b3 : 0 ≤ q3 ∧ q3 ≤ 1 := by omega
 have p3 : 0 ≤ y3 + x3 + q2 := by omega
 have c3 : (q2 + x3 + y3) % 1073741824 = r3 := by rw [h3]; congr 1; omega
 have d3 : (q2 + x3 + y3) / 1073741824 = q3 := by rw [g3]; congr 1; omega
 obtain ⟨r4, h4⟩ : ∃ z : Int, z = (y4 + x4 + q3) % 1073741824 := ⟨_, rfl⟩
 obtain ⟨q4, g4⟩ : ∃ z : Int, z = (y4 + x4 + q3) / 1073741824 := ⟨_, rfl⟩
 have a4 : 0 ≤ r4 ∧ r4 ≤ 1073741823 := h4 ▸ rmod _
 have b4 : 0 ≤ q4 ∧ q4 ≤ 1 := by omega
 have p4 : 0 ≤ y4 + x4 + q3 := by omega
 have c4 : (q3 + x4 + y4) % 1073741824 = r4 := by rw [h4]; congr 1; omega
 have d4 : (q3 + x4 + y4) / 1073741824 = q4 := by rw [g4]; congr 1; omega
 obtain ⟨r5, h5⟩ : ∃ z : Int, z = (y5 + x5 + q4) % 1073741824 := ⟨_, rfl⟩
 obtain ⟨q5, g5⟩ : ∃ z : Int, z = (y5 + x5 + q4) / 1073741824 := ⟨_, rfl⟩
 have a5 : 0 ≤ r5 ∧ r5 ≤ 1073741823 := h5 ▸ rmod _
 have b5 : 0 ≤ q5 ∧ q5 ≤ 1 := by omega
 have p5 : 0 ≤ y5 + x5 + q4 := by omega
 have c5 : (q4 + x5 + y5) % 1073741824 = r5 := by rw [h5]; congr 1; omega
 have d5 : (q4 + x5 + y5) / 1073741824 = q5 := by rw [g5]; congr 1; omega
 have hv : addD 0 [x0, x1, x2, x3, x4, x5] [y0, y1, y2, y3, y4, y5] = [r0, r1, r2, r3, r4, r5] := by
  simp only [addD, c0, c1, c2, c3, c4, c5, d0, d1, d2, d3, d4]
 rw [hv]
 obtain ⟨G, hG⟩ : ∃ G, G = mkGh [] [x0, x1, x2, x3, x4, x5, y0, y1, y2, y3, y4, y5, r0, q0, r1, q1, r2, q2, r3, q3, r4, q4, r5, q5] rfl := ⟨_, rfl⟩
 have hbd : bdOk G.σ bdA 0 := by rw [hG]; exact ⟨rx0, rx1, rx2, rx3, rx4, rx5, ry0, ry1, ry2, ry3, ry4, ry5, a0, b0, a1, b1, a2, b2, a3, b3, a4, b4, a5, b5, trivial⟩
 have hnl : nlOk G nlA := by
  rw [hG]
  exact ⟨.inr (.inr (.inl ⟨rfl, nz, wrem (S := (0 + (1 * y0 + (1 * x0 + 0)))) (s := y0 + x0) (by simp only [Int.zero_add, Int.add_zero, Int.one_mul]) p0 h0⟩)),
   .inr (.inl ⟨rfl, nz, wquo (S := (0 + (1 * y0 + (1 * x0 + 0)))) (s := y0 + x0) (by simp only [Int.zero_add, Int.add_zero, Int.one_mul]) p0 g0 ⟨b0.1, Int.le_trans b0.2 (by decide)⟩⟩),
   .inr (.inr (.inl ⟨rfl, nz, wrem (S := (0 + (1 * y1 + (1 * x1 + (1 * q0 + 0))))) (s := y1 + x1 + q0) (by simp only [Int.zero_add, Int.add_zero, Int.one_mul, Int.add_assoc]) p1 h1⟩)),
   .inr (.inl ⟨rfl, nz, wquo (S := (0 + (1 * y1 + (1 * x1 + (1 * q0 + 0))))) (s := y1 + x1 + q0) (by simp only [Int.zero_add, Int.add_zero, Int.one_mul, Int.add_assoc]) p1 g1 ⟨b1.1, Int.le_trans b1.2 (by decide)⟩⟩),
   .inr (.inr (.inl ⟨rfl, nz, wrem (S := (0 + (1 * y2 + (1 * x2 + (1 * q1 + 0))))) (s := y2 + x2 + q1) (by simp only [Int.zero_add, Int.add_zero, Int.one_mul, Int.add_assoc]) p2 h2⟩)),
   .inr (.inl ⟨rfl, nz, wquo (S := (0 + (1 * y2 + (1 * x2 + (1 * q1 + 0))))) (s := y2 + x2 + q1) (by simp only [Int.zero_add, Int.add_zero, Int.one_mul, Int.add_assoc]) p2 g2 ⟨b2.1, Int.le_trans b2.2 (by decide)⟩⟩),
   .inr (.inr (.inl ⟨rfl, nz, wrem (S := (0 + (1 * y3 + (1 * x3 + (1 * q2 + 0))))) (s := y3 + x3 + q2) (by simp only [Int.zero_add, Int.add_zero, Int.one_mul, Int.add_assoc]) p3 h3⟩)),
   .inr (.inl ⟨rfl, nz, wquo (S := (0 + (1 * y3 + (1 * x3 + (1 * q2 + 0))))) (s := y3 + x3 + q2) (by simp only [Int.zero_add, Int.add_zero, Int.one_mul, Int.add_assoc]) p3 g3 ⟨b3.1, Int.le_trans b3.2 (by decide)⟩⟩),
   .inr (.inr (.inl ⟨rfl, nz, wrem (S := (0 + (1 * y4 + (1 * x4 + (1 * q3 + 0))))) (s := y4 + x4 + q3) (by simp only [Int.zero_add, Int.add_zero, Int.one_mul, Int.add_assoc]) p4 h4⟩)),
   .inr (.inl ⟨rfl, nz, wquo (S := (0 + (1 * y4 + (1 * x4 + (1 * q3 + 0))))) (s := y4 + x4 + q3) (by simp only [Int.zero_add, Int.add_zero, Int.one_mul, Int.add_assoc]) p4 g4 ⟨b4.1, Int.le_trans b4.2 (by decide)⟩⟩),
   .inr (.inr (.inl ⟨rfl, nz, wrem (S := (0 + (1 * y5 + (1 * x5 + (1 * q4 + 0))))) (s := y5 + x5 + q4) (by simp only [Int.zero_add, Int.add_zero, Int.one_mul, Int.add_assoc]) p5 h5⟩)),
   .inr (.inl ⟨rfl, nz, wquo (S := (0 + (1 * y5 + (1 * x5 + (1 * q4 + 0))))) (s := y5 + x5 + q4) (by simp only [Int.zero_add, Int.add_zero, Int.one_mul, Int.add_assoc]) p5 g5 ⟨b5.1, Int.le_trans b5.2 (by decide)⟩⟩), trivial⟩
 exact run_val (G := G) progOkB (⟨hbd, trivial, hnl⟩ : Facts G bdA [] nlA) noHooks Tryz.func484 rfl (by rw [hG]; simp [argA, concL, conc, den, mkGh]) addRun (fun φ => by rw [hG]; simp [resA, concL, conc, den, mkGh]) w
noncomputable def natsV (l : List V) : Option (List Nat) := List.rec (motive := fun _ => Option (List Nat)) (some []) (fun v _ ih => match v with
 | .int .i64 (.ofNat x) => (match ih with | some r => some (x :: r) | none => none)
 | _ => none) l
noncomputable def addN (l : List Nat) : Nat → List Nat → List Nat := List.rec (motive := fun _ => Nat → List Nat → List Nat) (fun _ _ => []) (fun x _ ih c m => match m with
 | y :: m => ((c + x + y) % 1073741824) :: ih ((c + x + y) / 1073741824) m
 | [] => []) l
noncomputable def allD (l : List Nat) : Bool := List.rec (motive := fun _ => Bool) true (fun x _ ih => bif Nat.blt x 1073741824 then ih else false) l
noncomputable def cmpN (l : List Nat) : List Nat → Int := List.rec (motive := fun _ => List Nat → Int) (fun _ => 0) (fun x _ ih m => match m with
 | y :: m => bif Nat.blt x y then -1 else bif Nat.blt y x then 1 else ih m
 | [] => 0) l
noncomputable def ofB (_ : Gv.Call) (l : List V) (h : H) : RV := match l with
 | [.int .i64 (.ofNat v)] => bif Nat.blt v 9223372036854775808 then .ok (.agg [.int .i64 (.ofNat (v % 1073741824)), .int .i64 (.ofNat (v / 1073741824 % 1073741824)), .int .i64 (.ofNat (v / 1152921504606846976 % 1073741824)), .int .i64 0, .int .i64 0, .int .i64 0]) h else .bad "Of" 1
 | _ => .bad "Of" 0
noncomputable def addB (_ : Gv.Call) (l : List V) (h : H) : RV := match l with
 | [.agg a, .agg b] => (match natsV a, natsV b with
   | some x, some y => bif Nat.beq x.length 6 && (Nat.beq y.length 6 && (allD x && allD y)) then .ok (.agg ((addN x 0 y).map fun n => .int .i64 (.ofNat n))) h else .bad "Add" 2
   | _, _ => .bad "Add" 1)
 | _ => .bad "Add" 0
noncomputable def cmpB (_ : Gv.Call) (l : List V) (h : H) : RV := match l with
 | [.agg a, .agg b] => (match natsV a, natsV b with
   | some x, some y => bif Nat.beq x.length 6 && Nat.beq y.length 6 then .ok (.int .i64 (cmpN x.reverse y.reverse)) h else .bad "Cmp" 2
   | _, _ => .bad "Cmp" 1)
 | _ => .bad "Cmp" 0
theorem natsV_cons {v : V} {l : List V} : natsV (v :: l) = (match v with | .int .i64 (.ofNat n) => (match natsV l with | some r => some (n :: r) | none => none) | _ => none) := rfl
theorem natsV_conc {G : Gh} {φ : Mp} : ∀ {l : List V} {x : List Nat}, natsV l = some x → concL G φ l = some (x.map fun n : Nat => Value.int .i64 (n : Int))
 | [], x, e => by cases e; rfl
 | v :: l, x, e => by
   rw [natsV_cons] at e
   split at e
   · rename_i n
     cases hr : natsV l with
     | none => rw [hr] at e; cases e
     | some r =>
       rw [hr] at e
       cases e
       exact concL_cons.2 ⟨_, _, by rw [conc]; rfl, natsV_conc hr, rfl⟩
   · cases e
theorem addN_addD : ∀ (x : List Nat) (c : Nat) (d : Int) (y : List Nat), d = c → (addN x c y).map (fun n : Nat => (n : Int)) = addD d (x.map fun n : Nat => (n : Int)) (y.map fun n : Nat => (n : Int))
 | [], _, _, _, _ => rfl
 | _ :: _, _, _, [], _ => rfl
 | x :: l, c, d, y :: m, hd => by
   have h1 : (((c + x + y) % 1073741824 : Nat) : Int) = (d + x + y) % 1073741824 := by omega
   have h2 : (d + x + y) / 1073741824 = (((c + x + y) / 1073741824 : Nat) : Int) := by omega
   have h3 := addN_addD l _ _ m h2
   have h4 : addN (x :: l) c (y :: m) = ((c + x + y) % 1073741824) :: addN l ((c + x + y) / 1073741824) m := rfl
   rw [h4, List.map_cons, h3, h1, List.map_cons, List.map_cons, addD]
theorem mapI (l : List Nat) : (l.map fun n : Nat => Value.int .i64 (n : Int)) = (l.map fun n : Nat => (n : Int)).map (Value.int .i64) := by rw [List.map_map]; rfl
theorem add_six (x0 x1 x2 x3 x4 x5 y0 y1 y2 y3 y4 y5 : Nat) : (addN [x0, x1, x2, x3, x4, x5] 0 [y0, y1, y2, y3, y4, y5]).map (fun n : Nat => (n : Int)) = addD 0 [(x0 : Int), x1, x2, x3, x4, x5] [(y0 : Int), y1, y2, y3, y4, y5] := by
 rw [addN_addD _ 0 0 _ rfl]
 simp only [List.map_cons, List.map_nil]
theorem cmpN_cmpD : ∀ (x y : List Nat), cmpN x y = cmpD (x.map fun n : Nat => (n : Int)) (y.map fun n : Nat => (n : Int))
 | [], _ => rfl
 | _ :: _, [] => rfl
 | x :: l, y :: m => by
   show (bif Nat.blt x y then (-1 : Int) else bif Nat.blt y x then 1 else cmpN l m) = if (x : Int) < y then -1 else if (x : Int) > y then 1 else cmpD _ _
   rw [nblt, nblt, cmpN_cmpD l m]
   by_cases h : x < y
   · rw [if_pos (by omega), decide_eq_true h, cond_true]
   · rw [if_neg (by omega), decide_eq_false h, cond_false]
     by_cases h : y < x
     · rw [if_pos (by omega), decide_eq_true h, cond_true]
     · rw [if_neg (by omega), decide_eq_false h, cond_false]
theorem cmp_six (x0 x1 x2 x3 x4 x5 y0 y1 y2 y3 y4 y5 : Nat) : cmpN [x0, x1, x2, x3, x4, x5].reverse [y0, y1, y2, y3, y4, y5].reverse = cmpD [(x5 : Int), x4, x3, x2, x1, x0] [(y5 : Int), y4, y3, y2, y1, y0] := by
 rw [show [x0, x1, x2, x3, x4, x5].reverse = [x5, x4, x3, x2, x1, x0] from rfl, show [y0, y1, y2, y3, y4, y5].reverse = [y5, y4, y3, y2, y1, y0] from rfl, cmpN_cmpD]
 simp only [List.map_cons, List.map_nil]
theorem allD_lt : ∀ {l : List Nat}, allD l = true → ∀ x ∈ l, x < 1073741824
 | [], _, x, hx => by cases hx
 | y :: l, e, x, hx => by
   have e : (bif Nat.blt y 1073741824 then allD l else false) = true := e
   rw [nblt] at e
   by_cases h : y < 1073741824
   · rw [decide_eq_true h, cond_true] at e
     rcases List.mem_cons.1 hx with rfl | hx
     · exact h
     · exact allD_lt e x hx
   · rw [decide_eq_false h, cond_false] at e
     cases e
theorem six {l : List Nat} (h : l.length = 6) : ∃ a b c d e f, l = [a, b, c, d, e, f] := by
 match l, h with
 | [a, b, c, d, e, f], _ => exact ⟨a, b, c, d, e, f, rfl⟩
theorem agg_conc {G : Gh} {φ : Mp} {l : List V} {x : List Nat} (e : natsV l = some x) : conc G φ (.agg l) = some (.agg (x.map fun n : Nat => Value.int .i64 (n : Int)).toArray) := by
 rw [conc, natsV_conc e]
theorem twoA {G : Gh} {φ : Mp} {a b : List V} {x y : List Nat} {ul : List Value} (ha : natsV a = some x) (hb : natsV b = some y) (hl : concL G φ [.agg a, .agg b] = some ul) : ul = [.agg (x.map fun n : Nat => Value.int .i64 (n : Int)).toArray, .agg (y.map fun n : Nat => Value.int .i64 (n : Int)).toArray] := by
 rw [concL_cons.2 ⟨_, _, agg_conc ha, concL_cons.2 ⟨_, _, agg_conc hb, concL_nil, rfl⟩, rfl⟩] at hl
 exact (Option.some.inj hl).symm
theorem numsL {G : Gh} {φ : Mp} : ∀ (l : List Nat), concL G φ (l.map fun n : Nat => V.int .i64 (.ofNat n)) = some (l.map fun n : Nat => Value.int .i64 (n : Int))
 | [] => concL_nil
 | n :: l => concL_cons.2 ⟨_, _, by rw [conc]; rfl, numsL l, rfl⟩
set_option maxRecDepth 100000 in
theorem ofB_ok {G : Gh} (hm : ¬ G.mono) : HookOk Tryz.prog G 486 ofB := by
 intro call _ l h v h' e φ w ul hl r _
 unfold ofB at e
 split at e
 · rename_i n
   obtain ⟨hc, e⟩ := bif_ok e
   rw [nblt, decide_eq_true_eq] at hc
   cases e
   have hul : ul = [.int .i64 (n : Int)] := by
    simp [concL, conc] at hl
    exact hl.symm
   subst hul
   rw [run_enter Tryz.func486 (prog_name progOkB Tryz.func486) rfl]
   refine (of_ok n hc w).mono ?_
   rintro e2 w2 ⟨rfl, hb⟩
   refine ⟨_, rfl, below_post hm r hb ?_⟩
   have e3 : dg n 3 = 0 := by unfold dg; rw [Nat.div_eq_of_lt (by omega)]
   have e4 : dg n 4 = 0 := by unfold dg; rw [Nat.div_eq_of_lt (by omega)]
   have e5 : dg n 5 = 0 := by unfold dg; rw [Nat.div_eq_of_lt (by omega)]
   unfold bigV
   rw [e3, e4, e5]
   unfold dg
   rw [Nat.pow_zero, Nat.div_one, Nat.pow_one]
   simp [concL, conc]
 · cases e
set_option maxRecDepth 100000 in
theorem addB_ok {G : Gh} (hm : ¬ G.mono) : HookOk Tryz.prog G 484 addB := by
 intro call _ l h v h' e φ w ul hl r _
 unfold addB at e
 split at e
 · rename_i a b
   cases ha : natsV a with
   | none => rw [ha] at e; cases e
   | some x =>
     cases hb : natsV b with
     | none => rw [ha, hb] at e; cases e
     | some y =>
       rw [ha, hb] at e
       dsimp only at e
       obtain ⟨hc, e⟩ := bif_ok e
       simp only [Bool.and_eq_true, nbeq, decide_eq_true_eq] at hc
       obtain ⟨h1, h2, h3, h4⟩ := hc
       cases e
       have := twoA ha hb hl
       subst this
       clear ha hb hl
       have k3 := allD_lt h3
       have k4 := allD_lt h4
       have hs := numsL (G := G) (φ := φ) (addN x 0 y)
       obtain ⟨x0, x1, x2, x3, x4, x5, rfl⟩ := six h1
       obtain ⟨y0, y1, y2, y3, y4, y5, rfl⟩ := six h2
       simp only [List.mem_cons, List.not_mem_nil, or_false, forall_eq_or_imp, forall_eq] at k3 k4
       rw [run_enter Tryz.func484 (prog_name progOkB Tryz.func484) rfl]
       refine (add_ok x0 x1 x2 x3 x4 x5 y0 y1 y2 y3 y4 y5 (by omega) (by omega) (by omega) (by omega) (by omega) (by omega) (by omega) (by omega) (by omega) (by omega) (by omega) (by omega) w).mono ?_
       rintro e2 w2 ⟨rfl, hb⟩
       refine ⟨_, rfl, below_post hm r hb ?_⟩
       rw [conc, hs, mapI, add_six]
 · cases e
set_option maxRecDepth 100000 in
theorem cmpB_ok {G : Gh} (hm : ¬ G.mono) : HookOk Tryz.prog G 485 cmpB := by
 intro call _ l h v h' e φ w ul hl r _
 unfold cmpB at e
 split at e
 · rename_i a b
   cases ha : natsV a with
   | none => rw [ha] at e; cases e
   | some x =>
     cases hb : natsV b with
     | none => rw [ha, hb] at e; cases e
     | some y =>
       rw [ha, hb] at e
       dsimp only at e
       obtain ⟨hc, e⟩ := bif_ok e
       simp only [Bool.and_eq_true, nbeq, decide_eq_true_eq] at hc
       obtain ⟨h1, h2⟩ := hc
       cases e
       have := twoA ha hb hl
       subst this
       clear ha hb hl
       obtain ⟨x0, x1, x2, x3, x4, x5, rfl⟩ := six h1
       obtain ⟨y0, y1, y2, y3, y4, y5, rfl⟩ := six h2
       rw [run_enter Tryz.func485 (prog_name progOkB Tryz.func485) rfl]
       refine (cmp_ok x0 x1 x2 x3 x4 x5 y0 y1 y2 y3 y4 y5 w).mono ?_
       rintro e2 w2 ⟨rfl, hb⟩
       refine ⟨_, rfl, below_post hm r hb ?_⟩
       rw [conc, cmp_six]
 · cases e
end Go.Proofs.YtmfmjhklajmhoaaGreat
/- complinelaw27.alive: what is hooked in. -/
namespace Go.Proofs.YtmfmjhklajmhoaaGreat
open Go Go.RowKit Gv
noncomputable def mapsMd (bd : List (Int × Int)) (ge : List LF) : Nat → Option (Gv.Call → List V → H → RV) := orHk (oneH 488 mdH) (orHk (oneH 456 mdH) (orHk (oneH 486 ofB) (orHk (oneH 484 addB) (orHk (oneH 485 cmpB) (mapsH bd ge [] nilH)))))
set_option maxRecDepth 100000 in
theorem mapsMd_ok {G : Gh} {bd : List (Int × Int)} {ge : List LF} (hm : ¬ G.mono) (F : Facts G bd ge []) : HooksOk Tryz.prog G (mapsMd bd ge) := orHk_ok (oneH_ok (mdH_ok hm)) (orHk_ok (oneH_ok (mmH_ok hm)) (orHk_ok (oneH_ok (ofB_ok hm)) (orHk_ok (oneH_ok (addB_ok hm)) (orHk_ok (oneH_ok (cmpB_ok hm)) (mapsH_ok F nilH_ok hm)))))
end Go.Proofs.YtmfmjhklajmhoaaGreat
