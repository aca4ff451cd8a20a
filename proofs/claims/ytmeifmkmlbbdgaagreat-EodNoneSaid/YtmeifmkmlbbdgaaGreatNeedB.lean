/- Need, the program's and the document's: contracts, and hooks at numbers. -/
import Derived.Test.YtmeifmkmlbbdgaaGreatNeed
namespace Go.Proofs.YtmeifmkmlbbdgaaGreat
open Go Go.RowKit Gv
def neNl : List NL := [⟨1, .i64, (1152921504606846976,[]), (0,[(1,1)]), 3⟩]
def neA : List V := [.sint .i64 0 [(0,1)], .sint .i64 0 [(1,1)], .sint .i64 0 [(2,1)]]
def neGm (o : Bool) : List (Int × List (Nat × Int)) := if o then [(0,[(3,1),(4,-1)])] else [(-1,[(4,1),(3,-1)])]
noncomputable def neSm : LSpec := ndS Tryz.f496 486 9 10 [9, 10, 11, 12, 13, 24, 25, 26, 27, 28, 29, 30, 31, 32, 33, 34, 35, 36, 37, 38, 39, 40, 41, 42, 43, 44, 45] (1,[(3,1)])
noncomputable def neEm (o : Bool) : Env := evE Tryz.prog (fun _ => none) ndBd0 (neGm o) neNl
noncomputable def neLm (i : Nat) : Option (Fr → H → RX) := bif Nat.beq i 0 then some (loopG neSm Tryz.f496.ntmps) else none
theorem neRunM : ((runL (neEm true) neLm 10 Tryz.f496 neA H0).isV (.tuple [.sint .i64 0 [(4,1)], .int .i64 0])) = true := by kernel_rfl
theorem neRunM0 : ((runL (neEm false) neLm 10 Tryz.f496 neA H0).isV (.tuple [.int .i64 0, .int .i64 32])) = true := by kernel_rfl
/-- What Need hands back: the least quantity that is worth so much. -/
def neV (val p c : Int) : Value := if (val * 10000 + p * (10000 - c) - 1) / (p * (10000 - c)) ≤ 1152921504606846976 / p then .tuple #[.int .i64 ((val * 10000 + p * (10000 - c) - 1) / (p * (10000 - c))), .int .i64 0] else .tuple #[.int .i64 0, .int .i64 32]
set_option maxRecDepth 100000 in
set_option maxHeartbeats 2000000 in
theorem needM (val p c : Int) (hval : 0 ≤ val ∧ val ≤ 9223372036854775807) (hp : 2 ≤ p ∧ p ≤ 9223372036854775807) (hc : 0 ≤ c ∧ c ≤ 9999) (w : World) :
    Calls Tryz.prog 496 #[.int .i64 val, .int .i64 p, .int .i64 c] w fun e w' => e = .returned (neV val p c) ∧ Below w.heap.size w w' := by
  obtain ⟨k, hk⟩ : ∃ z : Int, z = p * (10000 - c) := ⟨_, rfl⟩
  have hk0 : 0 < k := by rw [hk]; exact Int.mul_pos (by omega) (by omega)
  obtain ⟨V, hV⟩ : ∃ z : Int, z = (val * 10000 + k - 1) / k := ⟨_, rfl⟩
  have hV1 : V * k ≤ val * 10000 + k - 1 := by rw [hV]; exact div_lo hk0
  have hV2 : val * 10000 + k - 1 < (V + 1) * k := by rw [hV]; exact div_hi hk0
  have hV0 : 0 ≤ V := by rw [hV]; exact Int.ediv_nonneg (by omega) (by omega)
  rw [Int.add_mul, Int.one_mul] at hV2
  obtain ⟨top, htop⟩ : ∃ z : Int, z = 1152921504606846976 / p := ⟨_, rfl⟩
  have htp : top * p ≤ 1152921504606846976 := by rw [htop]; exact div_lo (by omega)
  have rtop : 0 ≤ top ∧ top ≤ 1152921504606846976 := by
    rw [htop]
    exact ⟨Int.ediv_nonneg (by omega) (by omega), Int.ediv_le_self _ (by omega)⟩
  have hWk : ∀ m : Int, ndW p c m = m * k / 10000 := fun m => by unfold ndW; rw [hk, Int.mul_assoc]
  have up : ∀ m : Int, V ≤ m → val ≤ ndW p c m := fun m hm => by
    rw [hWk]
    have := Int.mul_le_mul_of_nonneg_right hm (show 0 ≤ k by omega)
    exact (Int.le_ediv_iff_mul_le (by omega)).2 (by omega)
  have down : ∀ m : Int, m < V → ndW p c m < val := fun m hm => by
    rw [hWk]
    have := Int.mul_le_mul_of_nonneg_right (show m + 1 ≤ V by omega) (show 0 ≤ k by omega)
    rw [Int.add_mul, Int.one_mul] at this
    exact (Int.ediv_lt_iff_lt_mul (by omega)).2 (by omega)
  have inM : ∀ m : Int, 0 ≤ m → m ≤ top → m * p ≤ 1152921504606846976 := fun m h0 hm => Int.le_trans (Int.mul_le_mul_of_nonneg_right hm (by omega)) htp
  have rW : ∀ m : Int, 0 ≤ m → m ≤ top → 0 ≤ ndW p c m ∧ ndW p c m ≤ 1152921504606846976 := fun m h0 hm => ndW_rng h0 (by omega) (by omega) (inM m h0 hm)
  have cW := fun (m : Int) (h0 : 0 ≤ m) (hm : m ≤ top) (w : World) => worthM m p c ⟨h0, by omega⟩ (by omega) (by omega) (inM m h0 hm) w
  obtain ⟨wt, hwt⟩ : ∃ z : Int, z = ndW p c top := ⟨_, rfl⟩
  have rwt : 0 ≤ wt ∧ wt ≤ 1152921504606846976 := by rw [hwt]; exact rW top rtop.1 (Int.le_refl _)
  obtain ⟨v, hv⟩ : ∃ z : Int, z = if V ≤ top then V else top + 1 := ⟨_, rfl⟩
  have rv : 0 ≤ v ∧ v ≤ 1152921504606846977 := by rw [hv]; split <;> omega
  have hvt : v ≤ top + 1 := by rw [hv]; split <;> omega
  obtain ⟨G, hG⟩ : ∃ G, G = mkGh [] [val, p, c, top, v, wt] rfl := ⟨_, rfl⟩
  have s0 : G.σ 0 = val := by rw [hG]; rfl
  have s1 : G.σ 1 = p := by rw [hG]; rfl
  have s2 : G.σ 2 = c := by rw [hG]; rfl
  have s3 : G.σ 3 = top := by rw [hG]; rfl
  have s4 : G.σ 4 = v := by rw [hG]; rfl
  have s5 : G.σ 5 = wt := by rw [hG]; rfl
  have hm : G.mono = False := by rw [hG]; rfl
  have hc' : 0 ≤ c ∧ c ≤ 10000 := by omega
  have hbd : bdOk G.σ ndBd0 0 := by rw [hG]; exact ⟨hval, hp, hc', rtop, rv, rwt, trivial⟩
  have harg : concL G (fun _ => none) neA = some [.int .i64 val, .int .i64 p, .int .i64 c] := by simp [neA, concL, conc, den, s0, s1, s2]
  have fp : (0 + (1 * p + 0) : Int) ≠ 0 := by omega
  have hdivp : IntKind.i64.wrap ((1152921504606846976 + 0 : Int).tdiv (0 + (1 * p + 0))) = top := by
    simp only [Int.zero_add, Int.add_zero, Int.one_mul]
    rw [Int.tdiv_eq_ediv_of_nonneg (by omega), ← htop, IntKind.wrap_i64]
    omega
  have hnl : nlOk G neNl := by
    rw [hG]
    exact ⟨.inr (.inl ⟨rfl, fp, hdivp⟩), trivial⟩
  have agree : ∀ {G1 : Gh}, GLe 6 G G1 → bdOk G1.σ ndBd0 0 ∧ nlOk G1 neNl := by
    intro G1 g
    refine ⟨bd_congr (σ := G.σ) (fun i hi => g.σ i (by simpa [ndBd0] using hi)) hbd, ?_⟩
    simp only [neNl, nlOk, NLOk, nlMore, den] at hnl ⊢
    rw [g.σ 1 (by decide), g.σ 3 (by decide)]
    exact hnl
  have upG : ∀ m : Int, G.σ 4 ≤ m → m ≤ G.σ 3 → G.σ 0 ≤ ndW (G.σ 1) (G.σ 2) m := fun m h1 h2 => by
    rw [s0, s1, s2]
    rw [s4] at h1
    rw [s3] at h2
    refine up m ?_
    rw [hv] at h1
    split at h1 <;> omega
  have downG : ∀ m : Int, 0 ≤ m → m < G.σ 4 → ndW (G.σ 1) (G.σ 2) m < G.σ 0 := fun m _ h1 => by
    rw [s0, s1, s2]
    rw [s4] at h1
    refine down m ?_
    rw [hv] at h1
    split at h1 <;> omega
  unfold neV
  rw [← hk, ← hV, ← htop]
  have hE : ∀ o : Bool, (if o then v ≤ top else top < v) → ∀ G1, GLe 6 G G1 → EnvOk (neEm o) Tryz.prog G1 := fun o ho G1 g => by
    obtain ⟨x1, x2⟩ := agree g
    have F : Facts G1 ndBd0 (neGm o) neNl := ⟨x1, by
      cases o with
      | true => simp only [if_true] at ho; simp only [neGm, if_true, geOk, and_true, den]; rw [g.σ 3 (by decide), g.σ 4 (by decide), s3, s4]; omega
      | false => simp only [Bool.false_eq_true, if_false] at ho; simp only [neGm, Bool.false_eq_true, if_false, geOk, and_true, den]; rw [g.σ 3 (by decide), g.σ 4 (by decide), s3, s4]; omega, x2⟩
    exact evE_ok progOkB F.ends (geOk_at F.ge) (nlOk_at F.nl)
  have hlk : LkOk Tryz.prog G 6 Tryz.f496.ntmps neLm (blocksC ((Tryz.f496.body).getD .skip)) := lk_one (by kernel_rfl) (loop_piece (nd_sem hm hbd _ _ 9 10 _ (1,[(3,1)]) (top + 1) (by show 1 + (1 * G.σ 3 + 0) = top + 1; rw [s3]; omega) (by omega) (by rw [s3]; omega) Tryz.func486 rfl
      (fun m h0 h1 => by rw [s3] at h1; rw [s1, s2]; exact ⟨rW m h0 h1, fun w => cW m h0 h1 w⟩) upG downG (by rw [s4]; exact rv.1) (by rw [s4]; exact hvt)))
  by_cases h : V ≤ top
  · rw [if_pos h] at hv
    subst hv
    rw [if_pos h]
    refine runL_val (K := 6) (G := G) (hE true (by simpa using h)) (fun G1 g => evE_fn progOkB (fun _ _ h => (nomatch h))) Tryz.func496 rfl hlk neRunM harg (fun G1 g φ => ?_) w
    simp [concL, conc, den, g.σ 4 (by decide), s4]
  · rw [if_neg h] at hv
    rw [if_neg h]
    exact runL_val (K := 6) (G := G) (hE false (by simp; omega)) (fun G1 g => evE_fn progOkB (fun _ _ h => (nomatch h))) Tryz.func496 rfl hlk neRunM0 harg (fun G1 g φ => by simp [concL, conc]) w

noncomputable def neH (_ : Gv.Call) (l : List V) (h : H) : RV :=
  match l with
  | [.int .i64 (.ofNat a), .int .i64 (.ofNat p), .int .i64 (.ofNat c)] => bif Nat.ble a 9223372036854775807 && (Nat.ble 2 p && (Nat.ble p 9223372036854775807 && Nat.ble c 9999)) then
      (bif Nat.ble ((a * 10000 + p * (10000 - c) - 1) / (p * (10000 - c))) (1152921504606846976 / p) then .ok (.tuple [.int .i64 (.ofNat ((a * 10000 + p * (10000 - c) - 1) / (p * (10000 - c)))), .int .i64 0]) h else .ok (.tuple [.int .i64 0, .int .i64 32]) h) else .bad "Need" 1
  | _ => .bad "Need" 0
theorem neV_nat (a p c : Nat) (hp : 2 ≤ p) (hc : c ≤ 9999) : neV a p c = if (a * 10000 + p * (10000 - c) - 1) / (p * (10000 - c)) ≤ 1152921504606846976 / p then .tuple #[.int .i64 (((a * 10000 + p * (10000 - c) - 1) / (p * (10000 - c)) : Nat) : Int), .int .i64 0] else .tuple #[.int .i64 0, .int .i64 32] := by
  have hk : (p : Int) * (10000 - (c : Int)) = ((p * (10000 - c) : Nat) : Int) := by rw [Int.natCast_mul, Int.natCast_sub (by omega)]; rfl
  have hk1 : 1 ≤ p * (10000 - c) := Nat.mul_pos (by omega) (by omega)
  obtain ⟨k, hkk⟩ : ∃ k, k = p * (10000 - c) := ⟨_, rfl⟩
  unfold neV
  rw [hk]
  rw [← hkk] at hk1 ⊢
  have h1 : ((a : Int) * 10000 + (k : Int) - 1) / (k : Int) = (((a * 10000 + k - 1) / k : Nat) : Int) := by
    rw [Int.natCast_ediv, Int.natCast_sub (by omega), Int.natCast_add, Int.natCast_mul]; rfl
  have h2 : (1152921504606846976 : Int) / (p : Int) = ((1152921504606846976 / p : Nat) : Int) := by rw [Int.natCast_ediv]; rfl
  rw [h1, h2]
  by_cases h : (a * 10000 + k - 1) / k ≤ 1152921504606846976 / p
  · rw [if_pos h, if_pos (by exact_mod_cast h)]
  · rw [if_neg h, if_neg (by exact_mod_cast h)]
set_option maxRecDepth 100000 in
theorem neM_ok {G : Gh} (hm : ¬ G.mono) : HookOk Tryz.prog G 496 neH := by
  intro call _ l h v h' e φ w ul hl r _
  unfold neH at e
  split at e
  · rename_i a p c
    obtain ⟨hc, e⟩ := bif_ok e
    simp only [Bool.and_eq_true, nble, decide_eq_true_eq] at hc
    obtain ⟨h1, h2, h3, h4⟩ := hc
    have hul : ul = [.int .i64 (a : Int), .int .i64 (p : Int), .int .i64 (c : Int)] := by
      simp [concL, conc] at hl
      exact hl.symm
    subst hul
    rw [run_enter Tryz.func496 (prog_name progOkB Tryz.func496) rfl]
    refine (needM a p c (by omega) (by omega) (by omega) w).mono ?_
    rintro e2 w2 ⟨rfl, hb⟩
    have hV := neV_nat a p c h2 h4
    cases hq : Nat.ble ((a * 10000 + p * (10000 - c) - 1) / (p * (10000 - c))) (1152921504606846976 / p) with
    | true =>
      rw [hq, cond_true] at e
      rw [nble, decide_eq_true_eq] at hq
      cases e
      refine ⟨_, rfl, below_post hm r hb ?_⟩
      rw [hV, if_pos hq]
      simp [conc, concL]
    | false =>
      rw [hq, cond_false] at e
      rw [nble, decide_eq_false_iff_not] at hq
      cases e
      refine ⟨_, rfl, below_post hm r hb ?_⟩
      rw [hV, if_neg hq]
      simp [conc, concL]
  · cases e
end Go.Proofs.YtmeifmkmlbbdgaaGreat
