/- part.paid: the most that so much money pays. -/
import Derived.Test.YtdfgedemolielaaGreatLoopKit
namespace Go.Proofs.YtdfgedemolielaaGreat
open Go Go.RowKit Gv
def pdBd0 : List (Int × Int) := [(0, 2199023255552), (0, 2199023255552), (0, 2305843009213693952), (0, 2199023255552)]
def pdBd : List (Int × Int) := pdBd0 ++ [(0, 2199023255552), (0, 2199023255552), (0, 2199023255552), (0, 2305843009213693952)]
def pdX : V := .agg [.opq 0, .opq 1, .opq 2, .opq 3, .opq 4, .opq 5, .opq 6, .opq 7, .opq 8, .sint .i64 0 [(0,1)], .opq 10, .opq 11, .opq 12, .opq 13, .opq 14, .opq 15, .opq 16, .opq 17, .opq 18, .sint .i64 0 [(1,1)], .opq 20]
def pdMid : List (Nat × Int) := [(5,1),(6,-1)]
def pdGe : Nat → List (Int × List (Nat × Int))
  | 0 => [(0,[(4,1),(5,-1)]), (0,[(4,1),(3,-1)]), (0,[(3,1),(4,-1)])]
  | 1 => [(-1,[(5,1),(4,-1)]), (0,[(2,1),(7,-1)])]
  | _ => [(-1,[(5,1),(4,-1)]), (-1,[(7,1),(2,-1)])]
def pdNl : List NL := [⟨1, .i64, (0,[(5,1),(4,-1)]), (2,[]), 6⟩]
def pdT (i : Nat) : List HT := if i = 0 then [] else [⟨253, [pdX, .sint .i64 0 pdMid], .tuple [.sint .i64 0 [(7,1)], .int .i64 0]⟩]
noncomputable def pdC (i : Nat) : Env := evE Tryz.prog (hkT (pdT i)) pdBd (pdGe i) pdNl
noncomputable def pdS : LSpec where
  K := 4
  id := 0
  body := bodyOf 0 Tryz.f360
  W := [5, 6, 7, 8, 9, 12, 13, 14, 15, 16, 17, 18, 19, 20, 21, 22, 23, 24, 25, 26, 27, 28, 29, 30, 31, 32, 33, 34, 35, 36]
  inv := [(5, .sint .i64 0 [(4,1)]), (6, .sint .i64 0 [(5,1)])]
  init := [(0,[]), (0,[(0,1),(1,-1)])]
  cases := [⟨pdC 0, 10, false, []⟩, ⟨pdC 1, 10, true, [(0,pdMid), (0,[(5,1)])]⟩, ⟨pdC 2, 10, true, [(0,[(4,1)]), (-1,pdMid)]⟩]
  fin := [(5, .sint .i64 0 [(3,1)])]
  need := [2]
def pdGood (G : Gh) (σ : Nat → Int) : Prop := 0 ≤ σ 4 ∧ σ 4 ≤ G.σ 3 ∧ G.σ 3 ≤ σ 5 ∧ σ 5 ≤ G.σ 0 - G.σ 1
set_option maxRecDepth 100000 in
set_option maxHeartbeats 1000000 in
theorem pd_sem {G : Gh} (hm : G.mono = False) (hbd : bdOk G.σ pdBd0 0) {X : Value} (hX : ∀ G2 : Gh, (∀ i, i < 4 → G2.σ i = G.σ i) → (∀ i, i < 1000 → G2.ε i = G.ε i) → ∀ φ, conc G2 φ pdX = some X) (S : Int → Int)
    (hS : ∀ m : Int, 1 ≤ m → m ≤ G.σ 0 - G.σ 1 → (0 ≤ S m ∧ S m ≤ 2305843009213693952) ∧ ∀ w : World, Calls Tryz.prog 253 #[X, .int .i64 m] w fun e w' => e = .returned (.tuple #[.int .i64 (S m), .int .i64 0]) ∧ Below w.heap.size w w')
    (down : ∀ m : Int, 1 ≤ m → m ≤ G.σ 3 → S m ≤ G.σ 2) (up : ∀ m : Int, G.σ 3 < m → m ≤ G.σ 0 - G.σ 1 → G.σ 2 < S m) (h3 : 0 ≤ G.σ 3) (h3l : G.σ 3 ≤ G.σ 0 - G.σ 1) :
    LSem Tryz.prog pdS G (pdGood G) (fun σ => (σ 5 - σ 4).toNat) := by
  have b0 := hbd.1
  have b1 := hbd.2.1
  have b2 := hbd.2.2.1
  refine ⟨fun σ' hσ hi => ?_, fun σ' hσ hgood => ?_⟩
  · have e4 : σ' 4 = 0 := hi 0 (0, []) rfl
    have e5 : σ' 5 = 0 + (1 * G.σ 0 + (-1 * G.σ 1 + 0)) := hi 1 (0,[(0,1),(1,-1)]) rfl
    unfold pdGood
    rw [e4, e5]
    omega
  · obtain ⟨k1, k2, k3, k4⟩ := hgood
    obtain ⟨lo, hlo⟩ : ∃ z, z = σ' 4 := ⟨_, rfl⟩
    obtain ⟨hi, hhi⟩ : ∃ z, z = σ' 5 := ⟨_, rfl⟩
    rw [← hlo] at k1 k2
    rw [← hhi] at k3 k4
    obtain ⟨q, hq⟩ : ∃ z : Int, z = (hi - lo) / 2 := ⟨_, rfl⟩
    obtain ⟨V, hV⟩ : ∃ z, z = G.σ 3 := ⟨_, rfl⟩
    obtain ⟨left, hleft⟩ : ∃ z, z = G.σ 0 - G.σ 1 := ⟨_, rfl⟩
    obtain ⟨M, hM⟩ : ∃ z, z = G.σ 2 := ⟨_, rfl⟩
    obtain ⟨n, hn⟩ : ∃ z : Int, z = if lo < hi then S (hi - q) else 0 := ⟨_, rfl⟩
    rw [← hV] at k2 k3 up down h3 h3l
    rw [← hleft] at k4 up h3l hS
    rw [← hM] at up down
    have b0 : 0 ≤ G.σ 0 ∧ G.σ 0 ≤ 2199023255552 := b0
    have b1 : 0 ≤ G.σ 1 ∧ G.σ 1 ≤ 2199023255552 := b1
    have rn : 0 ≤ n ∧ n ≤ 2305843009213693952 := by
      rw [hn]
      by_cases h : lo < hi
      · rw [if_pos h]; exact (hS (hi - q) (by omega) (by omega)).1
      · rw [if_neg h]; omega
    obtain ⟨σ2, hσ2⟩ : ∃ z, z = extσ σ' 6 [q, n] := ⟨_, rfl⟩
    have hlow : ∀ i, i < 6 → σ2 i = σ' i := fun i hi => by rw [hσ2]; exact extσ_lo hi
    have h4 : ∀ i, i < 4 → σ2 i = G.σ i := fun i hi => (hlow i (by omega)).trans (hσ i hi)
    have t4 : σ2 4 = lo := (hlow 4 (by decide)).trans hlo.symm
    have t5 : σ2 5 = hi := (hlow 5 (by decide)).trans hhi.symm
    have t6 : σ2 6 = q := by rw [hσ2]; rfl
    have t7 : σ2 7 = n := by rw [hσ2]; rfl
    have t2 : σ2 2 = M := (h4 2 (by decide)).trans hM.symm
    have t3 : σ2 3 = V := (h4 3 (by decide)).trans hV.symm
    have hb2 : bdOk σ2 pdBd 0 := by
      refine bd_app (bd_congr (σ := G.σ) (fun i hi => h4 i (by simpa [pdBd0] using hi)) hbd) ⟨?_, ?_, ?_, ?_, trivial⟩
      · show 0 ≤ σ2 4 ∧ σ2 4 ≤ _
        rw [t4]; omega
      · show 0 ≤ σ2 5 ∧ σ2 5 ≤ _
        rw [t5]; omega
      · show 0 ≤ σ2 6 ∧ σ2 6 ≤ _
        rw [t6]; omega
      · show 0 ≤ σ2 7 ∧ σ2 7 ≤ _
        rw [t7]; exact rn
    have hfacts : ∀ i, geOk σ2 (pdGe i) → (lo < hi ∨ i = 0) → ∀ G2 : Gh, G2.σ = σ2 → (∀ i, i < 1000 → G2.ε i = G.ε i) → G2.mono = G.mono → EnvOk (pdC i) Tryz.prog G2 ∧ FnOk (pdC i) Tryz.prog G2 := by
      intro i hge hcase G2 h2 he hmono
      have hm2 : ¬ G2.mono := by rw [hmono, hm]; exact id
      have hnl : nlOk G2 pdNl := by
        refine ⟨.inr (.inl ⟨rfl, by show (2 + 0 : Int) ≠ 0; omega, ?_⟩), trivial⟩
        show IntKind.i64.wrap (((0 + (1 * G2.σ 5 + (-1 * G2.σ 4 + 0)))).tdiv (2 + 0)) = G2.σ 6
        rw [h2, t4, t5, t6, Int.tdiv_eq_ediv_of_nonneg (by omega), IntKind.wrap_i64]
        omega
      have F : Facts G2 pdBd (pdGe i) pdNl := ⟨by rw [h2]; exact hb2, by rw [h2]; exact hge, hnl⟩
      refine ⟨evE_ok progOkB F.ends (geOk_at F.ge) (nlOk_at F.nl), evE_fn progOkB (hkT_ok progOkB (pdT i) (fun t ht => ?_) hm2)⟩
      unfold pdT at ht
      by_cases h0 : i = 0
      · rw [if_pos h0] at ht; cases ht
      · rw [if_neg h0] at ht
        simp only [List.mem_cons, List.not_mem_nil, or_false] at ht
        subst ht
        have hlh : lo < hi := hcase.resolve_right h0
        rw [if_pos hlh] at hn
        have im : ∀ φ, conc G2 φ (.sint .i64 0 pdMid) = some (.int .i64 (hi - q)) := fun φ => by
          rw [conc]
          show some (Value.int .i64 (0 + (1 * G2.σ 5 + (-1 * G2.σ 6 + 0)))) = _
          rw [h2, t5, t6, show (0 : Int) + (1 * hi + (-1 * q + 0)) = hi - q from by omega]
        refine HTOk.of Tryz.func253 rfl (fun φ => concL_cons.2 ⟨_, _, hX G2 (fun i hi => by rw [h2]; exact h4 i hi) he φ, concL_cons.2 ⟨_, _, im φ, concL_nil, rfl⟩, rfl⟩) (u := .tuple #[.int .i64 n, .int .i64 0]) (fun φ => by simp [concL, conc, den, h2, t7]) (fun w => ?_)
        have := (hS (hi - q) (by omega) (by omega)).2 w
        rwa [← hn] at this
    have hlow2 : ∀ i, i < pdS.K + pdS.init.length → σ2 i = σ' i := hlow
    by_cases hlh : lo < hi
    · rw [if_pos hlh] at hn
      by_cases hc : n ≤ M
      · have hv : hi - q ≤ V := by
          by_cases h : hi - q ≤ V
          · exact h
          · have := up (hi - q) (by omega) (by omega)
            omega
        refine ⟨⟨pdC 1, 10, true, [(0,pdMid), (0,[(5,1)])]⟩, by simp [pdS], σ2, hlow2, hfacts 1 (by simp only [pdGe, geOk, and_true, den, t4, t5, t7, t2]; omega) (.inl hlh), fun _ σ3 h3' hs3 => ?_⟩
        have e4 : σ3 4 = 0 + (1 * σ2 5 + (-1 * σ2 6 + 0)) := hs3 0 _ rfl
        have e5 : σ3 5 = 0 + (1 * σ2 5 + 0) := hs3 1 _ rfl
        rw [t5, t6] at e4
        rw [t5] at e5
        unfold pdGood
        rw [e4, e5, ← hlo, ← hhi, ← hV, ← hleft]
        omega
      · have hv : V < hi - q := by
          by_cases h : V < hi - q
          · exact h
          · have := down (hi - q) (by omega) (by omega)
            omega
        refine ⟨⟨pdC 2, 10, true, [(0,[(4,1)]), (-1,pdMid)]⟩, by simp [pdS], σ2, hlow2, hfacts 2 (by simp only [pdGe, geOk, and_true, den, t4, t5, t7, t2]; omega) (.inl hlh), fun _ σ3 h3' hs3 => ?_⟩
        have e4 : σ3 4 = 0 + (1 * σ2 4 + 0) := hs3 0 _ rfl
        have e5 : σ3 5 = -1 + (1 * σ2 5 + (-1 * σ2 6 + 0)) := hs3 1 _ rfl
        rw [t4] at e4
        rw [t5, t6] at e5
        unfold pdGood
        rw [e4, e5, ← hlo, ← hhi, ← hV, ← hleft]
        omega
    · exact ⟨⟨pdC 0, 10, false, []⟩, by simp [pdS], σ2, hlow2, hfacts 0 (by simp only [pdGe, geOk, and_true, den, t4, t5, t3]; omega) (.inr rfl), fun h => by cases h⟩
def pdA : List V := [pdX, .sint .i64 0 [(2,1)]]
noncomputable def pdE : Env := evE Tryz.prog (fun _ => none) pdBd0 [(0,[(0,1),(1,-1)])] []
noncomputable def pdL (i : Nat) : Option (Fr → H → RX) := bif Nat.beq i 0 then some (loopG pdS Tryz.f360.ntmps) else none
theorem pdRun : ((runL pdE pdL 10 Tryz.f360 pdA H0).isV (.sint .i64 0 [(3,1)])) = true := by kernel_rfl
set_option maxRecDepth 100000 in
set_option maxHeartbeats 2000000 in
/-- The greatest quantity of which the money pays the share. -/
theorem paid_ok (x0 x1 x2 x3 x4 x5 x6 x7 x8 x10 x11 x12 x13 x14 x15 x16 x17 x18 x20 : Value) (he : (x0.oneCell' && x1.oneCell' && x2.oneCell' && x3.oneCell' && x4.oneCell' && x5.oneCell' && x6.oneCell' && x7.oneCell' && x8.oneCell' && x10.oneCell' && x11.oneCell' && x12.oneCell' && x13.oneCell' && x14.oneCell' && x15.oneCell' && x16.oneCell' && x17.oneCell' && x18.oneCell' && x20.oneCell') = true) (Q d M v : Int) (S : Int → Int) (hd : 0 ≤ d ∧ d ≤ Q) (hQ : Q ≤ 2199023255552) (hM : 0 ≤ M ∧ M ≤ 2305843009213693952) (hv : 0 ≤ v ∧ v ≤ Q - d)
    (hS : ∀ m : Int, 1 ≤ m → m ≤ Q - d → (0 ≤ S m ∧ S m ≤ 2305843009213693952) ∧ ∀ w : World, Calls Tryz.prog 253 #[.agg #[x0, x1, x2, x3, x4, x5, x6, x7, x8, .int .i64 Q, x10, x11, x12, x13, x14, x15, x16, x17, x18, .int .i64 d, x20], .int .i64 m] w fun e w' => e = .returned (.tuple #[.int .i64 (S m), .int .i64 0]) ∧ Below w.heap.size w w')
    (down : ∀ m : Int, 1 ≤ m → m ≤ v → S m ≤ M) (up : ∀ m : Int, v < m → m ≤ Q - d → M < S m) (w : World) :
    Calls Tryz.prog 360 #[.agg #[x0, x1, x2, x3, x4, x5, x6, x7, x8, .int .i64 Q, x10, x11, x12, x13, x14, x15, x16, x17, x18, .int .i64 d, x20], .int .i64 M] w fun e w' => e = .returned (.int .i64 v) ∧ Below w.heap.size w w' := by
  obtain ⟨G, hG⟩ : ∃ G, G = mkGh [x0, x1, x2, x3, x4, x5, x6, x7, x8, .bool false, x10, x11, x12, x13, x14, x15, x16, x17, x18, .bool false, x20] [Q, d, M, v] (by simpa [and_assoc, Value.oneCell'] using he) := ⟨_, rfl⟩
  have s0 : G.σ 0 = Q := by rw [hG]; rfl
  have s1 : G.σ 1 = d := by rw [hG]; rfl
  have s2 : G.σ 2 = M := by rw [hG]; rfl
  have s3 : G.σ 3 = v := by rw [hG]; rfl
  have hm : G.mono = False := by rw [hG]; rfl
  have hbd : bdOk G.σ pdBd0 0 := by rw [hG]; exact ⟨⟨by show 0 ≤ Q; omega, hQ⟩, ⟨hd.1, by show d ≤ _; omega⟩, hM, ⟨hv.1, by show v ≤ _; omega⟩, trivial⟩
  have ε0 : G.ε 0 = x0 := by rw [hG]; rfl
  have ε1 : G.ε 1 = x1 := by rw [hG]; rfl
  have ε2 : G.ε 2 = x2 := by rw [hG]; rfl
  have ε3 : G.ε 3 = x3 := by rw [hG]; rfl
  have ε4 : G.ε 4 = x4 := by rw [hG]; rfl
  have ε5 : G.ε 5 = x5 := by rw [hG]; rfl
  have ε6 : G.ε 6 = x6 := by rw [hG]; rfl
  have ε7 : G.ε 7 = x7 := by rw [hG]; rfl
  have ε8 : G.ε 8 = x8 := by rw [hG]; rfl
  have ε10 : G.ε 10 = x10 := by rw [hG]; rfl
  have ε11 : G.ε 11 = x11 := by rw [hG]; rfl
  have ε12 : G.ε 12 = x12 := by rw [hG]; rfl
  have ε13 : G.ε 13 = x13 := by rw [hG]; rfl
  have ε14 : G.ε 14 = x14 := by rw [hG]; rfl
  have ε15 : G.ε 15 = x15 := by rw [hG]; rfl
  have ε16 : G.ε 16 = x16 := by rw [hG]; rfl
  have ε17 : G.ε 17 = x17 := by rw [hG]; rfl
  have ε18 : G.ε 18 = x18 := by rw [hG]; rfl
  have ε20 : G.ε 20 = x20 := by rw [hG]; rfl
  have hX : ∀ G2 : Gh, (∀ i, i < 4 → G2.σ i = G.σ i) → (∀ i, i < 1000 → G2.ε i = G.ε i) → ∀ φ, conc G2 φ pdX = some (.agg #[x0, x1, x2, x3, x4, x5, x6, x7, x8, .int .i64 Q, x10, x11, x12, x13, x14, x15, x16, x17, x18, .int .i64 d, x20]) := fun G2 hs2 he2 φ => by
    simp only [pdX, conc, concL, den, he2 0 (by decide), he2 1 (by decide), he2 2 (by decide), he2 3 (by decide), he2 4 (by decide), he2 5 (by decide), he2 6 (by decide), he2 7 (by decide), he2 8 (by decide), he2 10 (by decide), he2 11 (by decide), he2 12 (by decide), he2 13 (by decide), he2 14 (by decide), he2 15 (by decide), he2 16 (by decide), he2 17 (by decide), he2 18 (by decide), he2 20 (by decide), ε0, ε1, ε2, ε3, ε4, ε5, ε6, ε7, ε8, ε10, ε11, ε12, ε13, ε14, ε15, ε16, ε17, ε18, ε20, hs2 0 (by decide), hs2 1 (by decide), s0, s1]
    simp
  have hlk : LkOk Tryz.prog G 4 Tryz.f360.ntmps pdL (blocksC ((Tryz.f360.body).getD .skip)) := lk_one (by kernel_rfl) (loop_piece (pd_sem hm hbd hX S (by rw [s0, s1]; exact hS) (by rw [s2, s3]; exact down) (by rw [s0, s1, s2, s3]; exact up) (by rw [s3]; exact hv.1) (by rw [s0, s1, s3]; exact hv.2)))
  have harg : concL G (fun _ => none) pdA = some [.agg #[x0, x1, x2, x3, x4, x5, x6, x7, x8, .int .i64 Q, x10, x11, x12, x13, x14, x15, x16, x17, x18, .int .i64 d, x20], .int .i64 M] := concL_cons.2 ⟨_, _, hX G (fun _ _ => rfl) (fun _ _ => rfl) _, concL_cons.2 ⟨_, _, by simp [conc, den, s2], concL_nil, rfl⟩, rfl⟩
  have hF : ∀ G1, FnOk pdE Tryz.prog G1 := fun G1 => by unfold pdE; exact evE_fn progOkB (fun _ _ h => (nomatch h))
  refine runL_val (K := 4) (G := G) (E := pdE) (fun G1 g => ?_) (fun G1 g => hF G1) Tryz.func360 rfl hlk pdRun harg (fun G1 g φ => by simp [conc, den, g.σ 3 (by decide), s3]) w
  have F : Facts G1 pdBd0 [(0,[(0,1),(1,-1)])] [] := ⟨bd_congr (σ := G.σ) (fun i hi => g.σ i (by simpa [pdBd0] using hi)) hbd, by simp only [geOk, and_true, den]; rw [g.σ 0 (by decide), g.σ 1 (by decide), s0, s1]; omega, trivial⟩
  exact evE_ok progOkB F.ends (geOk_at F.ge) (nlOk_at F.nl)
end Go.Proofs.YtdfgedemolielaaGreat
