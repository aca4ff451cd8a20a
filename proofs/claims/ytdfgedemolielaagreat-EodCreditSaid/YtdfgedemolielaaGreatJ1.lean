/- Worth and what Need's loop is: the program's. -/
import Derived.Test.YtdfgedemolielaaGreatJ0
import Derived.WalkKit
import Derived.LoopN
import Derived.Below
import Derived.Laws.Rows
namespace Go.Proofs.YtdfgedemolielaaGreat
open Go Go.RowKit Gv
def ndW (p c q : Int) : Int := q * p * (10000 - c) / 10000
theorem ndW_rng {p c q : Int} (hq : 0 ≤ q) (hp : 0 ≤ p) (hc : 0 ≤ c ∧ c ≤ 10000) (h : q * p ≤ 1152921504606846976) : 0 ≤ ndW p c q ∧ ndW p c q ≤ 1152921504606846976 := by
 unfold ndW
 have h0 : 0 ≤ q * p := Int.mul_nonneg hq hp
 have h1 : 0 ≤ q * p * (10000 - c) := Int.mul_nonneg h0 (by omega)
 have h2 : q * p * (10000 - c) ≤ q * p * 10000 := Int.mul_le_mul_of_nonneg_left (by omega) h0
 omega
def woBd : List (Int × Int) := [(0, 9223372036854775807), (0, 9223372036854775807), (0, 10000), (0, 1152921504606846976), (0, 1152921504606846976)]
def woA : List V := [.sint .i64 0 [(0,1)], .sint .i64 0 [(1,1)], .sint .i64 0 [(2,1)]]
def woM : List HT := [⟨446, [.sint .u64 0 [(0,1)], .sint .u64 0 [(1,1)]], .tuple [.int .u64 0, .sint .u64 0 [(3,1)]]⟩, ⟨386, [.sint .i64 0 [(3,1)], .sint .i64 10000 [(2,-1)], .int .i64 10000], .tuple [.sint .i64 0 [(4,1)], .int .i64 0]⟩]
theorem woRunM : ((callN (evE Tryz.prog (hkT woM) woBd [] []) 10 487 woA H0).isV (.tuple [.sint .i64 0 [(4,1)], .int .i64 0])) = true := by kernel_rfl
set_option maxRecDepth 100000 in
set_option maxHeartbeats 1000000 in
theorem worthM (q p c : Int) (hq : 0 ≤ q ∧ q ≤ 9223372036854775807) (hp : 0 ≤ p ∧ p ≤ 9223372036854775807) (hc : 0 ≤ c ∧ c ≤ 10000) (h : q * p ≤ 1152921504606846976) (w : World) :
 Calls Tryz.prog 487 #[.int .i64 q, .int .i64 p, .int .i64 c] w fun e w' => e = .returned (.tuple #[.int .i64 (ndW p c q), .int .i64 0]) ∧ Below w.heap.size w w' := by
 obtain ⟨x, hx⟩ : ∃ z : Int, z = q * p := ⟨_, rfl⟩
 have hx0 : 0 ≤ x := by rw [hx]; exact Int.mul_nonneg hq.1 hp.1
 rw [← hx] at h
 obtain ⟨y, hy⟩ : ∃ z : Int, z = ndW p c q := ⟨_, rfl⟩
 have ry : 0 ≤ y ∧ y ≤ 1152921504606846976 := by rw [hy]; exact ndW_rng hq.1 hp.1 hc (by rw [← hx]; exact h)
 have hy2 : x * (10000 - c) / 10000 = y := by rw [hy, hx]; rfl
 rw [← hy]
 obtain ⟨G, hG⟩ : ∃ G, G = mkGh [] [q, p, c, x, y] rfl := ⟨_, rfl⟩
 have s0 : G.σ 0 = q := by rw [hG]; rfl
 have s1 : G.σ 1 = p := by rw [hG]; rfl
 have s2 : G.σ 2 = c := by rw [hG]; rfl
 have s3 : G.σ 3 = x := by rw [hG]; rfl
 have s4 : G.σ 4 = y := by rw [hG]; rfl
 have hm : ¬ G.mono := by rw [hG]; exact fun h => h
 have F : Facts G woBd [] [] := ⟨by rw [hG]; exact ⟨hq, hp, hc, ⟨hx0, h⟩, ry, trivial⟩, trivial, trivial⟩
 have harg : concL G (fun _ => none) woA = some [.int .i64 q, .int .i64 p, .int .i64 c] := by simp [woA, concL, conc, den, s0, s1, s2]
 have hcut : ∀ φ, conc G φ (.sint .i64 10000 [(2,-1)]) = some (.int .i64 (10000 - c)) := fun φ => by
  rw [conc]
  show some (Value.int .i64 (10000 + (-1 * G.σ 2 + 0))) = _
  rw [s2, show (10000 : Int) + (-1 * c + 0) = 10000 - c from by omega]
 have i3 : ∀ φ, conc G φ (.sint .i64 0 [(3,1)]) = some (.int .i64 x) := fun φ => by simp [conc, den, s3]
 have i4 : ∀ φ, conc G φ (.tuple [.sint .i64 0 [(4,1)], .int .i64 0]) = some (.tuple #[.int .i64 y, .int .i64 0]) := fun φ => by simp [concL, conc, den, s4]
 have l2 : ∀ φ, concL G φ [.sint .i64 0 [(3,1)], .sint .i64 10000 [(2,-1)], .int .i64 10000] = some [.int .i64 x, .int .i64 (10000 - c), .int .i64 10000] := fun φ =>
  concL_cons.2 ⟨_, _, i3 φ, concL_cons.2 ⟨_, _, hcut φ, concL_cons.2 ⟨_, _, by rw [conc], concL_nil, rfl⟩, rfl⟩, rfl⟩
 have hh : HooksOk Tryz.prog G (hkT woM) := hkT_ok progOkB woM (fun t ht => by
  simp only [woM, List.mem_cons, List.not_mem_nil, or_false] at ht
  rcases ht with rfl | rfl
  · refine HTOk.of Tryz.func446 rfl (ul := [.int .u64 q, .int .u64 p]) (u := .tuple #[.int .u64 0, .int .u64 x]) (fun φ => by simp [concL, conc, den, s0, s1]) (fun φ => by simp [concL, conc, den, s3]) (fun w => ?_)
    obtain ⟨m, hm⟩ := Int.eq_ofNat_of_zero_le hq.1
    obtain ⟨n, hn⟩ := Int.eq_ofNat_of_zero_le hp.1
    have hmn : ((m * n : Nat) : Int) = x := by rw [hx, hm, hn, Int.natCast_mul]
    refine ((by rw [hm, hn]; exact Tryz.bits_Mul64 m n (by omega) (by omega) w : Calls Tryz.prog 446 #[.int .u64 q, .int .u64 p] w fun e w' => e = .returned (.tuple #[.int .u64 ((m * n / 18446744073709551616 : Nat) : Int), .int .u64 ((m * n % 18446744073709551616 : Nat) : Int)]) ∧ w' = w)).mono ?_
    rintro e w' ⟨rfl, rfl⟩
    have g1 : ((m * n / 18446744073709551616 : Nat) : Int) = 0 := by omega
    have g2 : ((m * n % 18446744073709551616 : Nat) : Int) = x := by omega
    exact ⟨by rw [g1, g2], Below.refl _ _⟩
  · refine HTOk.of Tryz.func386 rfl l2 i4 (fun w => ?_)
    have := mmuldiv_ok x (10000 - c) 10000 (by omega) (by omega) (by omega) w
    rwa [md_val hy2 ry.2] at this) hm
 exact run_val (G := G) progOkB F hh Tryz.func487 rfl harg woRunM i4 w
def ndBd0 : List (Int × Int) := [(0, 9223372036854775807), (2, 9223372036854775807), (0, 10000), (0, 1152921504606846976), (0, 1152921504606846977), (0, 1152921504606846976)]
def ndBd : List (Int × Int) := ndBd0 ++ [(0, 1152921504606846977), (0, 1152921504606846977), (0, 1152921504606846976), (0, 1152921504606846976)]
def ndMid : List (Nat × Int) := [(8,1),(6,1)]
def ndGe : Nat → List (Int × List (Nat × Int))
 | 0 => [(0,[(6,1),(7,-1)]), (0,[(6,1),(4,-1)]), (0,[(4,1),(6,-1)])]
 | 1 => [(-1,[(7,1),(6,-1)]), (0,[(9,1),(0,-1)])]
 | _ => [(-1,[(7,1),(6,-1)]), (-1,[(0,1),(9,-1)])]
def ndNl : List NL := [⟨1, .i64, (0,[(7,1),(6,-1)]), (2,[]), 8⟩]
def ndT (f i : Nat) : List HT := if i = 0 then [] else [⟨f, [.sint .i64 0 ndMid, .sint .i64 0 [(1,1)], .sint .i64 0 [(2,1)]], .tuple [.sint .i64 0 [(9,1)], .int .i64 0]⟩]
noncomputable def ndC (f i : Nat) : Env := evE Tryz.prog (hkT (ndT f i)) ndBd (ndGe i) ndNl
noncomputable def ndS (fn : Func) (f sl sh : Nat) (W : List Nat) (h0 : LF) : LSpec where
 K := 6
 id := 0
 body := bodyOf 0 fn
 W := W
 inv := [(sl, .sint .i64 0 [(6,1)]), (sh, .sint .i64 0 [(7,1)])]
 init := [(0,[]), h0]
 cases := [⟨ndC f 0, 10, false, []⟩, ⟨ndC f 1, 10, true, [(0,[(6,1)]), (0,ndMid)]⟩, ⟨ndC f 2, 10, true, [(1,ndMid), (0,[(7,1)])]⟩]
 fin := [(sl, .sint .i64 0 [(4,1)])]
 need := []
def ndGood (G : Gh) (H : Int) (σ : Nat → Int) : Prop := 0 ≤ σ 6 ∧ σ 6 ≤ G.σ 4 ∧ G.σ 4 ≤ σ 7 ∧ σ 7 ≤ H
set_option maxRecDepth 100000 in
set_option maxHeartbeats 1000000 in
theorem nd_sem {G : Gh} (hm : G.mono = False) (hbd : bdOk G.σ ndBd0 0) (fn : Func) (f sl sh : Nat) (W : List Nat) (h0 : LF) (H : Int) (hH : LF.den G.σ h0 = H) (hHM : H ≤ 1152921504606846977) (hHt : H ≤ G.σ 3 + 1)
 {fw : Func} {cw : Code} (hf : Tryz.prog.funcs[f]? = some fw) (hb : fw.body = some cw)
 (hW : ∀ m : Int, 0 ≤ m → m ≤ G.σ 3 → (0 ≤ ndW (G.σ 1) (G.σ 2) m ∧ ndW (G.σ 1) (G.σ 2) m ≤ 1152921504606846976) ∧ ∀ w : World, Calls Tryz.prog f #[.int .i64 m, .int .i64 (G.σ 1), .int .i64 (G.σ 2)] w fun e w' => e = .returned (.tuple #[.int .i64 (ndW (G.σ 1) (G.σ 2) m), .int .i64 0]) ∧ Below w.heap.size w w')
 (up : ∀ m : Int, G.σ 4 ≤ m → m ≤ G.σ 3 → G.σ 0 ≤ ndW (G.σ 1) (G.σ 2) m) (down : ∀ m : Int, 0 ≤ m → m < G.σ 4 → ndW (G.σ 1) (G.σ 2) m < G.σ 0) (h4 : 0 ≤ G.σ 4) (h4H : G.σ 4 ≤ H) :
 LSem Tryz.prog (ndS fn f sl sh W h0) G (ndGood G H) (fun σ => (σ 7 - σ 6).toNat) := by
 refine ⟨fun σ' hσ hi => ?_, fun σ' hσ hgood => ?_⟩
 · have e6 : σ' 6 = 0 := hi 0 (0, []) rfl
   have e7 : σ' 7 = H := (hi 1 h0 rfl).trans hH
   unfold ndGood
   rw [e6, e7]
   omega
 · obtain ⟨k1, k2, k3, k4⟩ := hgood
   obtain ⟨lo, hlo⟩ : ∃ z, z = σ' 6 := ⟨_, rfl⟩
   obtain ⟨hi, hhi⟩ : ∃ z, z = σ' 7 := ⟨_, rfl⟩
   rw [← hlo] at k1 k2
   rw [← hhi] at k3 k4
   obtain ⟨q, hq⟩ : ∃ z : Int, z = (hi - lo) / 2 := ⟨_, rfl⟩
   obtain ⟨V, hV⟩ : ∃ z, z = G.σ 4 := ⟨_, rfl⟩
   obtain ⟨n, hn⟩ : ∃ z : Int, z = if lo < hi then ndW (G.σ 1) (G.σ 2) (lo + q) else 0 := ⟨_, rfl⟩
   have rn : 0 ≤ n ∧ n ≤ 1152921504606846976 := by
    rw [hn]
    by_cases h : lo < hi
    · rw [if_pos h]; exact (hW (lo + q) (by omega) (by omega)).1
    · rw [if_neg h]; omega
   rw [← hV] at k2 k3 up down h4 h4H
   obtain ⟨σ2, hσ2⟩ : ∃ z, z = extσ σ' 8 [q, n] := ⟨_, rfl⟩
   have hlow : ∀ i, i < 8 → σ2 i = σ' i := fun i hi => by rw [hσ2]; exact extσ_lo hi
   have h6 : ∀ i, i < 6 → σ2 i = G.σ i := fun i hi => (hlow i (by omega)).trans (hσ i hi)
   have t6 : σ2 6 = lo := (hlow 6 (by decide)).trans hlo.symm
   have t7 : σ2 7 = hi := (hlow 7 (by decide)).trans hhi.symm
   have t8 : σ2 8 = q := by rw [hσ2]; rfl
   have t9 : σ2 9 = n := by rw [hσ2]; rfl
   have t0 : σ2 0 = G.σ 0 := h6 0 (by decide)
   have t4 : σ2 4 = V := (h6 4 (by decide)).trans hV.symm
   have hb2 : bdOk σ2 ndBd 0 := by
    refine bd_app (bd_congr (σ := G.σ) (fun i hi => h6 i (by simpa [ndBd0] using hi)) hbd) ⟨?_, ?_, ?_, ?_, trivial⟩
    · show 0 ≤ σ2 6 ∧ σ2 6 ≤ _
      rw [t6]; omega
    · show 0 ≤ σ2 7 ∧ σ2 7 ≤ _
      rw [t7]; omega
    · show 0 ≤ σ2 8 ∧ σ2 8 ≤ _
      rw [t8]; omega
    · show 0 ≤ σ2 9 ∧ σ2 9 ≤ _
      rw [t9]; exact rn
   have hfacts : ∀ i, geOk σ2 (ndGe i) → (lo < hi ∨ i = 0) → ∀ G2 : Gh, G2.σ = σ2 → (∀ i, i < 1000 → G2.ε i = G.ε i) → G2.mono = G.mono → EnvOk (ndC f i) Tryz.prog G2 ∧ FnOk (ndC f i) Tryz.prog G2 := by
    intro i hge hcase G2 h2 _ hmono
    have hm2 : ¬ G2.mono := by rw [hmono, hm]; exact id
    have hnl : nlOk G2 ndNl := by
     refine ⟨.inr (.inl ⟨rfl, by show (2 + 0 : Int) ≠ 0; omega, ?_⟩), trivial⟩
     show IntKind.i64.wrap (((0 + (1 * G2.σ 7 + (-1 * G2.σ 6 + 0)))).tdiv (2 + 0)) = G2.σ 8
     rw [h2, t6, t7, t8, Int.tdiv_eq_ediv_of_nonneg (by omega), IntKind.wrap_i64]
     omega
    have F : Facts G2 ndBd (ndGe i) ndNl := ⟨by rw [h2]; exact hb2, by rw [h2]; exact hge, hnl⟩
    refine ⟨evE_ok progOkB F.ends (geOk_at F.ge) (nlOk_at F.nl), evE_fn progOkB (hkT_ok progOkB (ndT f i) (fun t ht => ?_) hm2)⟩
    unfold ndT at ht
    by_cases h0 : i = 0
    · rw [if_pos h0] at ht; cases ht
    · rw [if_neg h0] at ht
      simp only [List.mem_cons, List.not_mem_nil, or_false] at ht
      subst ht
      have hlh : lo < hi := hcase.resolve_right h0
      rw [if_pos hlh] at hn
      have im : ∀ φ, conc G2 φ (.sint .i64 0 ndMid) = some (.int .i64 (lo + q)) := fun φ => by
       rw [conc]
       show some (Value.int .i64 (0 + (1 * G2.σ 8 + (1 * G2.σ 6 + 0)))) = _
       rw [h2, t6, t8, show (0 : Int) + (1 * q + (1 * lo + 0)) = lo + q from by omega]
      have i1 : ∀ φ, conc G2 φ (.sint .i64 0 [(1,1)]) = some (.int .i64 (G.σ 1)) := fun φ => by simp [conc, den, h2, h6 1 (by decide)]
      have i2 : ∀ φ, conc G2 φ (.sint .i64 0 [(2,1)]) = some (.int .i64 (G.σ 2)) := fun φ => by simp [conc, den, h2, h6 2 (by decide)]
      refine HTOk.of hf hb (fun φ => concL_cons.2 ⟨_, _, im φ, concL_cons.2 ⟨_, _, i1 φ, concL_cons.2 ⟨_, _, i2 φ, concL_nil, rfl⟩, rfl⟩, rfl⟩) (u := .tuple #[.int .i64 n, .int .i64 0]) (fun φ => by simp [concL, conc, den, h2, t9]) (fun w => ?_)
      have := (hW (lo + q) (by omega) (by omega)).2 w
      rwa [← hn] at this
   have mem : ∀ (i : Nat) (b : Bool) (x : List LF), (⟨ndC f i, 10, b, x⟩ : LCase) ∈ [(⟨ndC f 0, 10, false, []⟩ : LCase), ⟨ndC f 1, 10, true, [(0,[(6,1)]), (0,ndMid)]⟩, ⟨ndC f 2, 10, true, [(1,ndMid), (0,[(7,1)])]⟩] → (⟨ndC f i, 10, b, x⟩ : LCase) ∈ (ndS fn f sl sh W h0).cases := fun _ _ _ h => h
   have hlow2 : ∀ i, i < (ndS fn f sl sh W h0).K + (ndS fn f sl sh W h0).init.length → σ2 i = σ' i := hlow
   by_cases hlh : lo < hi
   · rw [if_pos hlh] at hn
     by_cases hc : G.σ 0 ≤ n
     · have hv : V ≤ lo + q := by
        by_cases h : V ≤ lo + q
        · exact h
        · have := down (lo + q) (by omega) (by omega)
          omega
       refine ⟨⟨ndC f 1, 10, true, [(0,[(6,1)]), (0,ndMid)]⟩, mem 1 _ _ (by simp), σ2, hlow2, hfacts 1 (by simp only [ndGe, geOk, and_true, den, t6, t7, t9, t0]; omega) (.inl hlh), fun _ σ3 h3 hs3 => ?_⟩
       have e6 : σ3 6 = 0 + (1 * σ2 6 + 0) := hs3 0 _ rfl
       have e7 : σ3 7 = 0 + (1 * σ2 8 + (1 * σ2 6 + 0)) := hs3 1 _ rfl
       rw [t6] at e6
       rw [t6, t8] at e7
       unfold ndGood
       rw [e6, e7, ← hlo, ← hhi, ← hV]
       omega
     · have hv : lo + q < V := by
        by_cases h : lo + q < V
        · exact h
        · have := up (lo + q) (by omega) (by omega)
          omega
       refine ⟨⟨ndC f 2, 10, true, [(1,ndMid), (0,[(7,1)])]⟩, mem 2 _ _ (by simp), σ2, hlow2, hfacts 2 (by simp only [ndGe, geOk, and_true, den, t6, t7, t9, t0]; omega) (.inl hlh), fun _ σ3 h3 hs3 => ?_⟩
       have e6 : σ3 6 = 1 + (1 * σ2 8 + (1 * σ2 6 + 0)) := hs3 0 _ rfl
       have e7 : σ3 7 = 0 + (1 * σ2 7 + 0) := hs3 1 _ rfl
       rw [t6, t8] at e6
       rw [t7] at e7
       unfold ndGood
       rw [e6, e7, ← hlo, ← hhi, ← hV]
       omega
   · exact ⟨⟨ndC f 0, 10, false, []⟩, mem 0 _ _ (by simp), σ2, hlow2, hfacts 0 (by simp only [ndGe, geOk, and_true, den, t6, t7, t4]; omega) (.inr rfl), fun h => by cases h⟩
end Go.Proofs.YtdfgedemolielaaGreat
/- Need, the program's and the document's: contracts, and hooks at numbers. -/
namespace Go.Proofs.YtdfgedemolielaaGreat
open Go Go.RowKit Gv
def neNl : List NL := [⟨1, .i64, (1152921504606846976,[]), (0,[(1,1)]), 3⟩]
def neA : List V := [.sint .i64 0 [(0,1)], .sint .i64 0 [(1,1)], .sint .i64 0 [(2,1)]]
def neGm (o : Bool) : List (Int × List (Nat × Int)) := if o then [(0,[(3,1),(4,-1)])] else [(-1,[(4,1),(3,-1)])]
noncomputable def neSm : LSpec := ndS Tryz.f485 487 9 10 [9, 10, 11, 12, 13, 24, 25, 26, 27, 28, 29, 30, 31, 32, 33, 34, 35, 36, 37, 38, 39, 40, 41, 42, 43, 44, 45] (1,[(3,1)])
noncomputable def neEm (o : Bool) : Env := evE Tryz.prog (fun _ => none) ndBd0 (neGm o) neNl
noncomputable def neLm (i : Nat) : Option (Fr → H → RX) := bif Nat.beq i 0 then some (loopG neSm Tryz.f485.ntmps) else none
theorem neRunM : ((runL (neEm true) neLm 10 Tryz.f485 neA H0).isV (.tuple [.sint .i64 0 [(4,1)], .int .i64 0])) = true := by kernel_rfl
theorem neRunM0 : ((runL (neEm false) neLm 10 Tryz.f485 neA H0).isV (.tuple [.int .i64 0, .int .i64 32])) = true := by kernel_rfl
def neV (val p c : Int) : Value := if (val * 10000 + p * (10000 - c) - 1) / (p * (10000 - c)) ≤ 1152921504606846976 / p then .tuple #[.int .i64 ((val * 10000 + p * (10000 - c) - 1) / (p * (10000 - c))), .int .i64 0] else .tuple #[.int .i64 0, .int .i64 32]
set_option maxRecDepth 100000 in
set_option maxHeartbeats 2000000 in
theorem needM (val p c : Int) (hval : 0 ≤ val ∧ val ≤ 9223372036854775807) (hp : 2 ≤ p ∧ p ≤ 9223372036854775807) (hc : 0 ≤ c ∧ c ≤ 9999) (w : World) :
 Calls Tryz.prog 485 #[.int .i64 val, .int .i64 p, .int .i64 c] w fun e w' => e = .returned (neV val p c) ∧ Below w.heap.size w w' := by
 obtain ⟨k, hk⟩ : ∃ z : Int, z = p * (10000 - c) := ⟨_, rfl⟩
 have hk0 : 0 < k := by rw [hk]; exact Int.mul_pos (by omega) (by omega)
 obtain ⟨V, hV⟩ : ∃ z : Int, z = (val * 10000 + k - 1) / k := ⟨_, rfl⟩
 have hV1 : V * k ≤ val * 10000 + k - 1 := by rw [hV]; exact div_lo hk0
 have hV2 : val * 10000 + k - 1 < (V + 1) * k := by rw [hV]; exact div_hi hk0
 have hV0 : 0 ≤ V := by rw [hV]; exact Int.ediv_nonneg (by omega) (by omega)
 rw [Int.add_mul, Int.one_mul] at hV2
 obtain ⟨top, htop⟩ : ∃ z : Int, z = 1152921504606846976 / p := ⟨_, rfl⟩
 have htp : top * p ≤ 1152921504606846976 := by rw [htop]; exact div_lo (by omega)
 have rtop : 0 ≤ top ∧ top ≤ 1152921504606846976 := by
  rw [htop]
  exact ⟨Int.ediv_nonneg (by omega) (by omega), Int.ediv_le_self _ (by omega)⟩
 have hWk : ∀ m : Int, ndW p c m = m * k / 10000 := fun m => by unfold ndW; rw [hk, Int.mul_assoc]
 have up : ∀ m : Int, V ≤ m → val ≤ ndW p c m := fun m hm => by
  rw [hWk]
  have := Int.mul_le_mul_of_nonneg_right hm (show 0 ≤ k by omega)
  exact (Int.le_ediv_iff_mul_le (by omega)).2 (by omega)
 have down : ∀ m : Int, m < V → ndW p c m < val := fun m hm => by
  rw [hWk]
  have := Int.mul_le_mul_of_nonneg_right (show m + 1 ≤ V by omega) (show 0 ≤ k by omega)
  rw [Int.add_mul, Int.one_mul] at this
  exact (Int.ediv_lt_iff_lt_mul (by omega)).2 (by omega)
 have inM : ∀ m : Int, 0 ≤ m → m ≤ top → m * p ≤ 1152921504606846976 := fun m h0 hm => Int.le_trans (Int.mul_le_mul_of_nonneg_right hm (by omega)) htp
 have rW : ∀ m : Int, 0 ≤ m → m ≤ top → 0 ≤ ndW p c m ∧ ndW p c m ≤ 1152921504606846976 := fun m h0 hm => ndW_rng h0 (by omega) (by omega) (inM m h0 hm)
 have cW := fun (m : Int) (h0 : 0 ≤ m) (hm : m ≤ top) (w : World) => worthM m p c ⟨h0, by omega⟩ (by omega) (by omega) (inM m h0 hm) w
 obtain ⟨wt, hwt⟩ : ∃ z : Int, z = ndW p c top := ⟨_, rfl⟩
 have rwt : 0 ≤ wt ∧ wt ≤ 1152921504606846976 := by rw [hwt]; exact rW top rtop.1 (Int.le_refl _)
 obtain ⟨v, hv⟩ : ∃ z : Int, z = if V ≤ top then V else top + 1 := ⟨_, rfl⟩
 have rv : 0 ≤ v ∧ v ≤ 1152921504606846977 := by rw [hv]; split <;> omega
 have hvt : v ≤ top + 1 := by rw [hv]; split <;> omega
 obtain ⟨G, hG⟩ : ∃ G, G = mkGh [] [val, p, c, top, v, wt] rfl := ⟨_, rfl⟩
 have s0 : G.σ 0 = val := by rw [hG]; rfl
 have s1 : G.σ 1 = p := by rw [hG]; rfl
 have s2 : G.σ 2 = c := by rw [hG]; rfl
 have s3 : G.σ 3 = top := by rw [hG]; rfl
 have s4 : G.σ 4 = v := by rw [hG]; rfl
 have s5 : G.σ 5 = wt := by rw [hG]; rfl
 have hm : G.mono = False := by rw [hG]; rfl
 have hc' : 0 ≤ c ∧ c ≤ 10000 := by omega
 have hbd : bdOk G.σ ndBd0 0 := by rw [hG]; exact ⟨hval, hp, hc', rtop, rv, rwt, trivial⟩
 have harg : concL G (fun _ => none) neA = some [.int .i64 val, .int .i64 p, .int .i64 c] := by simp [neA, concL, conc, den, s0, s1, s2]
 have fp : (0 + (1 * p + 0) : Int) ≠ 0 := by omega
 have hdivp : IntKind.i64.wrap ((1152921504606846976 + 0 : Int).tdiv (0 + (1 * p + 0))) = top := by
  simp only [Int.zero_add, Int.add_zero, Int.one_mul]
  rw [Int.tdiv_eq_ediv_of_nonneg (by omega), ← htop, IntKind.wrap_i64]
  omega
 have hnl : nlOk G neNl := by
  rw [hG]
  exact ⟨.inr (.inl ⟨rfl, fp, hdivp⟩), trivial⟩
 have agree : ∀ {G1 : Gh}, GLe 6 G G1 → bdOk G1.σ ndBd0 0 ∧ nlOk G1 neNl := by
  intro G1 g
  refine ⟨bd_congr (σ := G.σ) (fun i hi => g.σ i (by simpa [ndBd0] using hi)) hbd, ?_⟩
  simp only [neNl, nlOk, NLOk, nlMore, den] at hnl ⊢
  rw [g.σ 1 (by decide), g.σ 3 (by decide)]
  exact hnl
 have upG : ∀ m : Int, G.σ 4 ≤ m → m ≤ G.σ 3 → G.σ 0 ≤ ndW (G.σ 1) (G.σ 2) m := fun m h1 h2 => by
  rw [s0, s1, s2]
  rw [s4] at h1
  rw [s3] at h2
  refine up m ?_
  rw [hv] at h1
  split at h1 <;> omega
 have downG : ∀ m : Int, 0 ≤ m → m < G.σ 4 → ndW (G.σ 1) (G.σ 2) m < G.σ 0 := fun m _ h1 => by
  rw [s0, s1, s2]
  rw [s4] at h1
  refine down m ?_
  rw [hv] at h1
  split at h1 <;> omega
 unfold neV
 rw [← hk, ← hV, ← htop]
 have hE : ∀ o : Bool, (if o then v ≤ top else top < v) → ∀ G1, GLe 6 G G1 → EnvOk (neEm o) Tryz.prog G1 := fun o ho G1 g => by
  obtain ⟨x1, x2⟩ := agree g
  have F : Facts G1 ndBd0 (neGm o) neNl := ⟨x1, by
   cases o with
   | true => simp only [if_true] at ho; simp only [neGm, if_true, geOk, and_true, den]; rw [g.σ 3 (by decide), g.σ 4 (by decide), s3, s4]; omega
   | false => simp only [Bool.false_eq_true, if_false] at ho; simp only [neGm, Bool.false_eq_true, if_false, geOk, and_true, den]; rw [g.σ 3 (by decide), g.σ 4 (by decide), s3, s4]; omega, x2⟩
  exact evE_ok progOkB F.ends (geOk_at F.ge) (nlOk_at F.nl)
 have hlk : LkOk Tryz.prog G 6 Tryz.f485.ntmps neLm (blocksC ((Tryz.f485.body).getD .skip)) := lk_one (by kernel_rfl) (loop_piece (nd_sem hm hbd _ _ 9 10 _ (1,[(3,1)]) (top + 1) (by show 1 + (1 * G.σ 3 + 0) = top + 1; rw [s3]; omega) (by omega) (by rw [s3]; omega) Tryz.func487 rfl
  (fun m h0 h1 => by rw [s3] at h1; rw [s1, s2]; exact ⟨rW m h0 h1, fun w => cW m h0 h1 w⟩) upG downG (by rw [s4]; exact rv.1) (by rw [s4]; exact hvt)))
 by_cases h : V ≤ top
 · rw [if_pos h] at hv
   subst hv
   rw [if_pos h]
   refine runL_val (K := 6) (G := G) (hE true (by simpa using h)) (fun G1 g => evE_fn progOkB (fun _ _ h => (nomatch h))) Tryz.func485 rfl hlk neRunM harg (fun G1 g φ => ?_) w
   simp [concL, conc, den, g.σ 4 (by decide), s4]
 · rw [if_neg h] at hv
   rw [if_neg h]
   exact runL_val (K := 6) (G := G) (hE false (by simp; omega)) (fun G1 g => evE_fn progOkB (fun _ _ h => (nomatch h))) Tryz.func485 rfl hlk neRunM0 harg (fun G1 g φ => by simp [concL, conc]) w
noncomputable def neH (_ : Gv.Call) (l : List V) (h : H) : RV :=
 match l with
 | [.int .i64 (.ofNat a), .int .i64 (.ofNat p), .int .i64 (.ofNat c)] => bif Nat.ble a 9223372036854775807 && (Nat.ble 2 p && (Nat.ble p 9223372036854775807 && Nat.ble c 9999)) then
  (bif Nat.ble ((a * 10000 + p * (10000 - c) - 1) / (p * (10000 - c))) (1152921504606846976 / p) then .ok (.tuple [.int .i64 (.ofNat ((a * 10000 + p * (10000 - c) - 1) / (p * (10000 - c)))), .int .i64 0]) h else .ok (.tuple [.int .i64 0, .int .i64 32]) h) else .bad "Need" 1
 | _ => .bad "Need" 0
theorem neV_nat (a p c : Nat) (hp : 2 ≤ p) (hc : c ≤ 9999) : neV a p c = if (a * 10000 + p * (10000 - c) - 1) / (p * (10000 - c)) ≤ 1152921504606846976 / p then .tuple #[.int .i64 (((a * 10000 + p * (10000 - c) - 1) / (p * (10000 - c)) : Nat) : Int), .int .i64 0] else .tuple #[.int .i64 0, .int .i64 32] := by
 have hk : (p : Int) * (10000 - (c : Int)) = ((p * (10000 - c) : Nat) : Int) := by rw [Int.natCast_mul, Int.natCast_sub (by omega)]; rfl
 have hk1 : 1 ≤ p * (10000 - c) := Nat.mul_pos (by omega) (by omega)
 obtain ⟨k, hkk⟩ : ∃ k, k = p * (10000 - c) := ⟨_, rfl⟩
 unfold neV
 rw [hk]
 rw [← hkk] at hk1 ⊢
 have h1 : ((a : Int) * 10000 + (k : Int) - 1) / (k : Int) = (((a * 10000 + k - 1) / k : Nat) : Int) := by
  rw [Int.natCast_ediv, Int.natCast_sub (by omega), Int.natCast_add, Int.natCast_mul]; rfl
 have h2 : (1152921504606846976 : Int) / (p : Int) = ((1152921504606846976 / p : Nat) : Int) := by rw [Int.natCast_ediv]; rfl
 rw [h1, h2]
 by_cases h : (a * 10000 + k - 1) / k ≤ 1152921504606846976 / p
 · rw [if_pos h, if_pos (by exact_mod_cast h)]
 · rw [if_neg h, if_neg (by exact_mod_cast h)]
set_option maxRecDepth 100000 in
theorem neM_ok {G : Gh} (hm : ¬ G.mono) : HookOk Tryz.prog G 485 neH := by
 intro call _ l h v h' e φ w ul hl r _
 unfold neH at e
 split at e
 · rename_i a p c
   obtain ⟨hc, e⟩ := bif_ok e
   simp only [Bool.and_eq_true, nble, decide_eq_true_eq] at hc
   obtain ⟨h1, h2, h3, h4⟩ := hc
   have hul : ul = [.int .i64 (a : Int), .int .i64 (p : Int), .int .i64 (c : Int)] := by
    simp [concL, conc] at hl
    exact hl.symm
   subst hul
   rw [run_enter Tryz.func485 (prog_name progOkB Tryz.func485) rfl]
   refine (needM a p c (by omega) (by omega) (by omega) w).mono ?_
   rintro e2 w2 ⟨rfl, hb⟩
   have hV := neV_nat a p c h2 h4
   cases hq : Nat.ble ((a * 10000 + p * (10000 - c) - 1) / (p * (10000 - c))) (1152921504606846976 / p) with
   | true =>
     rw [hq, cond_true] at e
     rw [nble, decide_eq_true_eq] at hq
     cases e
     refine ⟨_, rfl, below_post hm r hb ?_⟩
     rw [hV, if_pos hq]
     simp [conc, concL]
   | false =>
     rw [hq, cond_false] at e
     rw [nble, decide_eq_false_iff_not] at hq
     cases e
     refine ⟨_, rfl, below_post hm r hb ?_⟩
     rw [hV, if_neg hq]
     simp [conc, concL]
 · cases e
end Go.Proofs.YtdfgedemolielaaGreat
/- The document's big numbers: Of. -/
namespace Go.Proofs.YtdfgedemolielaaGreat
open Go Go.RowKit Gv
def dg (v j : Nat) : Nat := v / 1073741824 ^ j % 1073741824
def bigV (v : Nat) : Value := .agg #[.int .i64 (dg v 0), .int .i64 (dg v 1), .int .i64 (dg v 2), .int .i64 (dg v 3), .int .i64 (dg v 4), .int .i64 (dg v 5)]
theorem step_rem (v : Nat) : (v : Int).tmod 1073741824 = ((v % 1073741824 : Nat) : Int) := by
 rw [Int.tmod_eq_emod_of_nonneg (by omega)]; omega
theorem step_quo (v : Nat) : (v : Int).tdiv 1073741824 = ((v / 1073741824 : Nat) : Int) := by
 rw [Int.tdiv_eq_ediv_of_nonneg (by omega)]; omega
theorem wrapI (v : Nat) (h : v < 9223372036854775808) : IntKind.i64.wrap (v : Int) = v := by rw [IntKind.wrap_i64]; omega
set_option maxRecDepth 100000 in
set_option maxHeartbeats 2000000 in
theorem of_ok (v : Nat) (hv : v < 9223372036854775808) (w : World) : Calls Tryz.prog 475 #[.int .i64 (v : Int)] w fun e w' => e = .returned (bigV v) ∧ Below w.heap.size w w' := by
 obtain ⟨v1, h1⟩ : ∃ v1, v / 1073741824 = v1 := ⟨_, rfl⟩
 obtain ⟨v2, h2⟩ : ∃ v2, v1 / 1073741824 = v2 := ⟨_, rfl⟩
 have hv3 : v2 / 1073741824 = 0 := by omega
 obtain ⟨r0, g0⟩ : ∃ r, v % 1073741824 = r := ⟨_, rfl⟩
 obtain ⟨r1, g1⟩ : ∃ r, v1 % 1073741824 = r := ⟨_, rfl⟩
 obtain ⟨r2, g2⟩ : ∃ r, v2 % 1073741824 = r := ⟨_, rfl⟩
 have q0 : (v : Int).tdiv 1073741824 = (v1 : Int) := by rw [step_quo, h1]
 have q1 : (v1 : Int).tdiv 1073741824 = (v2 : Int) := by rw [step_quo, h2]
 have q2 : (v2 : Int).tdiv 1073741824 = 0 := by rw [step_quo, hv3]; rfl
 have m0 : (v : Int).tmod 1073741824 = (r0 : Int) := by rw [step_rem, g0]
 have m1 : (v1 : Int).tmod 1073741824 = (r1 : Int) := by rw [step_rem, g1]
 have m2 : (v2 : Int).tmod 1073741824 = (r2 : Int) := by rw [step_rem, g2]
 have w0 : IntKind.i64.wrap (r0 : Int) = r0 := wrapI _ (by omega)
 have w1 : IntKind.i64.wrap (r1 : Int) = r1 := wrapI _ (by omega)
 have w2 : IntKind.i64.wrap (r2 : Int) = r2 := wrapI _ (by omega)
 have w3 : IntKind.i64.wrap (v1 : Int) = v1 := wrapI _ (by omega)
 have w4 : IntKind.i64.wrap (v2 : Int) = v2 := wrapI _ (by omega)
 have hb : bigV v = .agg #[.int .i64 r0, .int .i64 r1, .int .i64 r2, .int .i64 0, .int .i64 0, .int .i64 0] := by
  have e1 : dg v 0 = r0 := by unfold dg; rw [Nat.pow_zero, Nat.div_one]; exact g0
  have e2 : dg v 1 = r1 := by unfold dg; rw [Nat.pow_one, h1]; exact g1
  have e3 : dg v 2 = r2 := by unfold dg; rw [Nat.pow_succ, Nat.pow_one, ← Nat.div_div_eq_div_mul, h1, h2]; exact g2
  have e4 : dg v 3 = 0 := by unfold dg; rw [Nat.div_eq_of_lt (by omega)]
  have e5 : dg v 4 = 0 := by unfold dg; rw [Nat.div_eq_of_lt (by omega)]
  have e6 : dg v 5 = 0 := by unfold dg; rw [Nat.div_eq_of_lt (by omega)]
  unfold bigV
  rw [e1, e2, e3, e4, e5, e6]
  rfl
 rw [hb]
 have H := And.intro h1 (And.intro h2 (And.intro hv3 (And.intro g0 (And.intro g1 g2))))
 clear h1 h2 hv3 g0 g1 g2 hb H
 go_enter Tryz.func475, Tryz.ntmps475
 go_wp2
 refine wp_loop_rounds 7 ?_
 rw [rounds_succ]; go_wp2
 rw [rounds_succ]; go_wp2
 rw [rounds_succ]; go_wp2
 rw [rounds_succ]; go_wp2
 rw [rounds_succ]; go_wp2
 rw [rounds_succ]; go_wp2
 rw [rounds_succ]; go_wp2
 refine bodyPost_ret (results_cell_row rfl _ _ w.heap.size 552 _ (0, 0) _ rfl ((Below.heap_alloc _ _ _ (by simp)).trans (heap_alloc_new w _)) Tryz.underlying552 rfl rfl) rfl ?_
 refine ⟨rfl, ?_⟩
 exact ((Below.refl _ w).alloc (Nat.le_refl _) _).alloc (by simp) _
end Go.Proofs.YtdfgedemolielaaGreat
/- The document's big numbers: Mul. -/
namespace Go.Proofs.YtdfgedemolielaaGreat
open Go Go.RowKit Gv
theorem rmod (s : Int) : 0 ≤ s % 1073741824 ∧ s % 1073741824 ≤ 1073741823 := by omega
theorem rmod2 {s h : Int} (hs : 0 ≤ s ∧ s ≤ h) : 0 ≤ s % 1073741824 ∧ s % 1073741824 ≤ h := by omega
theorem rdiv {s h : Int} (hs : 0 ≤ s ∧ s ≤ h) : 0 ≤ s / 1073741824 ∧ s / 1073741824 ≤ h / 1073741824 := by omega
theorem radd {a b h k : Int} (ha : 0 ≤ a ∧ a ≤ h) (hb : 0 ≤ b ∧ b ≤ k) : 0 ≤ a + b ∧ a + b ≤ h + k := by omega
theorem rmul {a b h k : Int} (ha : 0 ≤ a ∧ a ≤ h) (hb : 0 ≤ b ∧ b ≤ k) : 0 ≤ a * b ∧ a * b ≤ h * k := ⟨Int.mul_nonneg ha.1 hb.1, Int.mul_le_mul ha.2 hb.2 hb.1 (by omega)⟩
theorem wmul {a b x : Int} (h : x = a * b) (r : 0 ≤ x ∧ x ≤ 9223372036854775807) : IntKind.i64.wrap ((0 + (1 * a + 0)) * (0 + (1 * b + 0))) = x := by
 simp only [Int.zero_add, Int.add_zero, Int.one_mul]; rw [← h, IntKind.wrap_i64]; omega
theorem wquo {S s x : Int} (hS : S = s) (h0 : 0 ≤ s) (h : x = s / 1073741824) (r : 0 ≤ x ∧ x ≤ 9223372036854775807) : IntKind.i64.wrap (S.tdiv (1073741824 + 0)) = x := by
 subst hS; rw [Int.add_zero, Int.tdiv_eq_ediv_of_nonneg h0, ← h, IntKind.wrap_i64]; omega
theorem wrem {S s x : Int} (hS : S = s) (h0 : 0 ≤ s) (h : x = s % 1073741824) : S.tmod (1073741824 + 0) = x := by
 subst hS; rw [Int.add_zero, Int.tmod_eq_emod_of_nonneg h0, ← h]
theorem nz : (1073741824 : Int) + 0 ≠ 0 := by omega
theorem rlt {x : Int} (r : 0 ≤ x ∧ x ≤ 1073741823) : 0 ≤ x ∧ x < 1073741824 := by omega
def bdM : List (Int × Int) := [(0, 1073741823), (0, 1073741823), (0, 7), (0, 1073741823), (0, 1073741823), (0, 7), (0, 1152921502459363329), (0, 1073741823), (0, 1073741822), (0, 1152921502459363329), (0, 1073741823), (0, 1073741822), (0, 7516192761), (0, 1073741823), (0, 7), (0, 7), (0, 0), (0, 0), (0, 0), (0, 0), (0, 0), (0, 1152921502459363329), (0, 1073741823), (0, 1073741823), (0, 1152921502459363329), (0, 1073741823), (0, 1073741823), (0, 7516192761), (0, 1073741823), (0, 7), (0, 7), (0, 0), (0, 0), (0, 0), (0, 7516192761), (0, 1073741823), (0, 7), (0, 7516192761), (0, 1073741823), (0, 7), (0, 49), (0, 63), (0, 0), (0, 0), (0, 0), (0, 1073741823), (0, 0), (0, 63), (0, 0), (0, 0), (0, 0), (0, 63), (0, 0), (0, 0), (0, 0), (0, 0), (0, 0)]
def nlM : List NL := [⟨0, .i64, (0,[(0,1)]), (0,[(3,1)]), 6⟩, ⟨2, .i64, (0,[(6,1)]), (1073741824,[]), 7⟩, ⟨1, .i64, (0,[(6,1)]), (1073741824,[]), 8⟩, ⟨0, .i64, (0,[(0,1)]), (0,[(4,1)]), 9⟩, ⟨2, .i64, (0,[(9,1),(8,1)]), (1073741824,[]), 10⟩, ⟨1, .i64, (0,[(9,1),(8,1)]), (1073741824,[]), 11⟩, ⟨0, .i64, (0,[(0,1)]), (0,[(5,1)]), 12⟩, ⟨2, .i64, (0,[(12,1),(11,1)]), (1073741824,[]), 13⟩, ⟨1, .i64, (0,[(12,1),(11,1)]), (1073741824,[]), 14⟩, ⟨2, .i64, (0,[(14,1)]), (1073741824,[]), 15⟩, ⟨1, .i64, (0,[(14,1)]), (1073741824,[]), 16⟩, ⟨2, .i64, (0,[(16,1)]), (1073741824,[]), 17⟩, ⟨1, .i64, (0,[(16,1)]), (1073741824,[]), 18⟩, ⟨2, .i64, (0,[(18,1)]), (1073741824,[]), 19⟩, ⟨1, .i64, (0,[(18,1)]), (1073741824,[]), 20⟩, ⟨0, .i64, (0,[(1,1)]), (0,[(3,1)]), 21⟩, ⟨2, .i64, (0,[(21,1),(10,1)]), (1073741824,[]), 22⟩, ⟨1, .i64, (0,[(21,1),(10,1)]), (1073741824,[]), 23⟩, ⟨0, .i64, (0,[(1,1)]), (0,[(4,1)]), 24⟩, ⟨2, .i64, (0,[(24,1),(13,1),(23,1)]), (1073741824,[]), 25⟩, ⟨1, .i64, (0,[(24,1),(13,1),(23,1)]), (1073741824,[]), 26⟩, ⟨0, .i64, (0,[(1,1)]), (0,[(5,1)]), 27⟩, ⟨2, .i64, (0,[(27,1),(15,1),(26,1)]), (1073741824,[]), 28⟩, ⟨1, .i64, (0,[(27,1),(15,1),(26,1)]), (1073741824,[]), 29⟩, ⟨2, .i64, (0,[(17,1),(29,1)]), (1073741824,[]), 30⟩, ⟨1, .i64, (0,[(17,1),(29,1)]), (1073741824,[]), 31⟩, ⟨2, .i64, (0,[(19,1),(31,1)]), (1073741824,[]), 32⟩, ⟨1, .i64, (0,[(19,1),(31,1)]), (1073741824,[]), 33⟩, ⟨0, .i64, (0,[(2,1)]), (0,[(3,1)]), 34⟩, ⟨2, .i64, (0,[(34,1),(25,1)]), (1073741824,[]), 35⟩, ⟨1, .i64, (0,[(34,1),(25,1)]), (1073741824,[]), 36⟩, ⟨0, .i64, (0,[(2,1)]), (0,[(4,1)]), 37⟩, ⟨2, .i64, (0,[(37,1),(28,1),(36,1)]), (1073741824,[]), 38⟩, ⟨1, .i64, (0,[(37,1),(28,1),(36,1)]), (1073741824,[]), 39⟩, ⟨0, .i64, (0,[(2,1)]), (0,[(5,1)]), 40⟩, ⟨2, .i64, (0,[(40,1),(30,1),(39,1)]), (1073741824,[]), 41⟩, ⟨1, .i64, (0,[(40,1),(30,1),(39,1)]), (1073741824,[]), 42⟩, ⟨2, .i64, (0,[(32,1),(42,1)]), (1073741824,[]), 43⟩, ⟨1, .i64, (0,[(32,1),(42,1)]), (1073741824,[]), 44⟩, ⟨2, .i64, (0,[(38,1)]), (1073741824,[]), 45⟩, ⟨1, .i64, (0,[(38,1)]), (1073741824,[]), 46⟩, ⟨2, .i64, (0,[(41,1),(46,1)]), (1073741824,[]), 47⟩, ⟨1, .i64, (0,[(41,1),(46,1)]), (1073741824,[]), 48⟩, ⟨2, .i64, (0,[(43,1),(48,1)]), (1073741824,[]), 49⟩, ⟨1, .i64, (0,[(43,1),(48,1)]), (1073741824,[]), 50⟩, ⟨2, .i64, (0,[(47,1)]), (1073741824,[]), 51⟩, ⟨1, .i64, (0,[(47,1)]), (1073741824,[]), 52⟩, ⟨2, .i64, (0,[(49,1),(52,1)]), (1073741824,[]), 53⟩, ⟨1, .i64, (0,[(49,1),(52,1)]), (1073741824,[]), 54⟩, ⟨2, .i64, (0,[(53,1)]), (1073741824,[]), 55⟩, ⟨1, .i64, (0,[(53,1)]), (1073741824,[]), 56⟩]
def argM : List V := [.agg [.sint .i64 0 [(0,1)], .sint .i64 0 [(1,1)], .sint .i64 0 [(2,1)], .int .i64 0, .int .i64 0, .int .i64 0], .agg [.sint .i64 0 [(3,1)], .sint .i64 0 [(4,1)], .sint .i64 0 [(5,1)], .int .i64 0, .int .i64 0, .int .i64 0]]
def resM : V := .agg [.sint .i64 0 [(7,1)], .sint .i64 0 [(22,1)], .sint .i64 0 [(35,1)], .sint .i64 0 [(45,1)], .sint .i64 0 [(51,1)], .sint .i64 0 [(55,1)]]
theorem mulRun : ((callN (evE Tryz.prog (fun _ => none) bdM [] nlM) 100 505 argM H0).isV resM) = true := by kernel_rfl
theorem mulSum (x6 x7 x8 x9 x10 x11 x12 x13 x14 x15 x16 x17 x18 x19 x20 x21 x22 x23 x24 x25 x26 x27 x28 x29 x30 x31 x32 x33 x34 x35 x36 x37 x38 x39 x40 x41 x42 x43 x44 x45 x46 x47 x48 x49 x50 x51 x52 x53 x54 x55 x56 : Int)
 (e8 : x6 = 1073741824 * x8 + x7)
 (e11 : x9 + x8 = 1073741824 * x11 + x10)
 (e14 : x12 + x11 = 1073741824 * x14 + x13)
 (e16 : x14 = 1073741824 * x16 + x15)
 (e18 : x16 = 1073741824 * x18 + x17)
 (e20 : x18 = 1073741824 * x20 + x19)
 (e23 : x21 + x10 = 1073741824 * x23 + x22)
 (e26 : x24 + x13 + x23 = 1073741824 * x26 + x25)
 (e29 : x27 + x15 + x26 = 1073741824 * x29 + x28)
 (e31 : x17 + x29 = 1073741824 * x31 + x30)
 (e33 : x19 + x31 = 1073741824 * x33 + x32)
 (e36 : x34 + x25 = 1073741824 * x36 + x35)
 (e39 : x37 + x28 + x36 = 1073741824 * x39 + x38)
 (e42 : x40 + x30 + x39 = 1073741824 * x42 + x41)
 (e44 : x32 + x42 = 1073741824 * x44 + x43)
 (e46 : x38 = 1073741824 * x46 + x45)
 (e48 : x41 + x46 = 1073741824 * x48 + x47)
 (e50 : x43 + x48 = 1073741824 * x50 + x49)
 (e52 : x47 = 1073741824 * x52 + x51)
 (e54 : x49 + x52 = 1073741824 * x54 + x53)
 (e56 : x53 = 1073741824 * x56 + x55)
 (z16 : x16 = 0)
 (z17 : x17 = 0)
 (z19 : x19 = 0)
 (z31 : x31 = 0)
 (z32 : x32 = 0)
 (z42 : x42 = 0)
 (z43 : x43 = 0)
 (z48 : x48 = 0)
 (z49 : x49 = 0)
 (z52 : x52 = 0)
 : x7 + 1073741824 * x22 + 1152921504606846976 * x35 + 1237940039285380274899124224 * x45 + 1329227995784915872903807060280344576 * x51 =
  x6 + 1073741824 * (x9 + x21) + 1152921504606846976 * (x12 + x24 + x34) + 1237940039285380274899124224 * (x27 + x37) + 1329227995784915872903807060280344576 * x40 := by omega
set_option maxRecDepth 100000 in
set_option maxHeartbeats 4000000 in
theorem mul3 (a0 a1 a2 b0 b1 b2 : Int) (r0 : 0 ≤ a0 ∧ a0 ≤ 1073741823) (r1 : 0 ≤ a1 ∧ a1 ≤ 1073741823) (r2 : 0 ≤ a2 ∧ a2 ≤ 7) (r3 : 0 ≤ b0 ∧ b0 ≤ 1073741823) (r4 : 0 ≤ b1 ∧ b1 ≤ 1073741823) (r5 : 0 ≤ b2 ∧ b2 ≤ 7) :
 ∃ o0 o1 o2 o3 o4 o5 : Int, (0 ≤ o0 ∧ o0 < 1073741824) ∧ (0 ≤ o1 ∧ o1 < 1073741824) ∧ (0 ≤ o2 ∧ o2 < 1073741824) ∧ (0 ≤ o3 ∧ o3 < 1073741824) ∧ (0 ≤ o4 ∧ o4 < 1073741824) ∧ o5 = 0 ∧
  o0 + 1073741824 * o1 + 1152921504606846976 * o2 + 1237940039285380274899124224 * o3 + 1329227995784915872903807060280344576 * o4 =
   a0 * b0 + 1073741824 * (a0 * b1 + a1 * b0) + 1152921504606846976 * (a0 * b2 + a1 * b1 + a2 * b0) + 1237940039285380274899124224 * (a1 * b2 + a2 * b1) + 1329227995784915872903807060280344576 * (a2 * b2) ∧
  ∀ w : World, Calls Tryz.prog 505 #[.agg #[.int .i64 a0, .int .i64 a1, .int .i64 a2, .int .i64 0, .int .i64 0, .int .i64 0], .agg #[.int .i64 b0, .int .i64 b1, .int .i64 b2, .int .i64 0, .int .i64 0, .int .i64 0]] w
   fun e w' => e = .returned (.agg #[.int .i64 o0, .int .i64 o1, .int .i64 o2, .int .i64 o3, .int .i64 o4, .int .i64 o5]) ∧ Below w.heap.size w w' := by
 obtain ⟨x6, h6⟩ : ∃ z : Int, z = (a0) * (b0) := ⟨_, rfl⟩
 have r6 : 0 ≤ x6 ∧ x6 ≤ 1152921502459363329 := h6 ▸ rmul r0 r3
 obtain ⟨x7, h7⟩ : ∃ z : Int, z = (x6) % 1073741824 := ⟨_, rfl⟩
 have r7 : 0 ≤ x7 ∧ x7 ≤ 1073741823 := h7 ▸ rmod _
 obtain ⟨x8, h8⟩ : ∃ z : Int, z = (x6) / 1073741824 := ⟨_, rfl⟩
 have r8 : 0 ≤ x8 ∧ x8 ≤ 1073741822 := h8 ▸ rdiv r6
 obtain ⟨x9, h9⟩ : ∃ z : Int, z = (a0) * (b1) := ⟨_, rfl⟩
 have r9 : 0 ≤ x9 ∧ x9 ≤ 1152921502459363329 := h9 ▸ rmul r0 r4
 obtain ⟨x10, h10⟩ : ∃ z : Int, z = (x9 + x8) % 1073741824 := ⟨_, rfl⟩
 have r10 : 0 ≤ x10 ∧ x10 ≤ 1073741823 := h10 ▸ rmod _
 obtain ⟨x11, h11⟩ : ∃ z : Int, z = (x9 + x8) / 1073741824 := ⟨_, rfl⟩
 have r11 : 0 ≤ x11 ∧ x11 ≤ 1073741822 := h11 ▸ rdiv (radd r9 r8)
 obtain ⟨x12, h12⟩ : ∃ z : Int, z = (a0) * (b2) := ⟨_, rfl⟩
 have r12 : 0 ≤ x12 ∧ x12 ≤ 7516192761 := h12 ▸ rmul r0 r5
 obtain ⟨x13, h13⟩ : ∃ z : Int, z = (x12 + x11) % 1073741824 := ⟨_, rfl⟩
 have r13 : 0 ≤ x13 ∧ x13 ≤ 1073741823 := h13 ▸ rmod _
 obtain ⟨x14, h14⟩ : ∃ z : Int, z = (x12 + x11) / 1073741824 := ⟨_, rfl⟩
 have r14 : 0 ≤ x14 ∧ x14 ≤ 7 := h14 ▸ rdiv (radd r12 r11)
 obtain ⟨x15, h15⟩ : ∃ z : Int, z = (x14) % 1073741824 := ⟨_, rfl⟩
 have r15 : 0 ≤ x15 ∧ x15 ≤ 7 := h15 ▸ rmod2 r14
 obtain ⟨x16, h16⟩ : ∃ z : Int, z = (x14) / 1073741824 := ⟨_, rfl⟩
 have r16 : 0 ≤ x16 ∧ x16 ≤ 0 := h16 ▸ rdiv r14
 obtain ⟨x17, h17⟩ : ∃ z : Int, z = (x16) % 1073741824 := ⟨_, rfl⟩
 have r17 : 0 ≤ x17 ∧ x17 ≤ 0 := h17 ▸ rmod2 r16
 obtain ⟨x18, h18⟩ : ∃ z : Int, z = (x16) / 1073741824 := ⟨_, rfl⟩
 have r18 : 0 ≤ x18 ∧ x18 ≤ 0 := h18 ▸ rdiv r16
 obtain ⟨x19, h19⟩ : ∃ z : Int, z = (x18) % 1073741824 := ⟨_, rfl⟩
 have r19 : 0 ≤ x19 ∧ x19 ≤ 0 := h19 ▸ rmod2 r18
 obtain ⟨x20, h20⟩ : ∃ z : Int, z = (x18) / 1073741824 := ⟨_, rfl⟩
 have r20 : 0 ≤ x20 ∧ x20 ≤ 0 := h20 ▸ rdiv r18
 obtain ⟨x21, h21⟩ : ∃ z : Int, z = (a1) * (b0) := ⟨_, rfl⟩
 have r21 : 0 ≤ x21 ∧ x21 ≤ 1152921502459363329 := h21 ▸ rmul r1 r3
 obtain ⟨x22, h22⟩ : ∃ z : Int, z = (x21 + x10) % 1073741824 := ⟨_, rfl⟩
 have r22 : 0 ≤ x22 ∧ x22 ≤ 1073741823 := h22 ▸ rmod _
 obtain ⟨x23, h23⟩ : ∃ z : Int, z = (x21 + x10) / 1073741824 := ⟨_, rfl⟩
 have r23 : 0 ≤ x23 ∧ x23 ≤ 1073741823 := h23 ▸ rdiv (radd r21 r10)
 obtain ⟨x24, h24⟩ : ∃ z : Int, z = (a1) * (b1) := ⟨_, rfl⟩
 have r24 : 0 ≤ x24 ∧ x24 ≤ 1152921502459363329 := h24 ▸ rmul r1 r4
 obtain ⟨x25, h25⟩ : ∃ z : Int, z = (x24 + x13 + x23) % 1073741824 := ⟨_, rfl⟩
 have r25 : 0 ≤ x25 ∧ x25 ≤ 1073741823 := h25 ▸ rmod _
 obtain ⟨x26, h26⟩ : ∃ z : Int, z = (x24 + x13 + x23) / 1073741824 := ⟨_, rfl⟩
 have r26 : 0 ≤ x26 ∧ x26 ≤ 1073741823 := h26 ▸ rdiv (radd (radd r24 r13) r23)
 obtain ⟨x27, h27⟩ : ∃ z : Int, z = (a1) * (b2) := ⟨_, rfl⟩
 have r27 : 0 ≤ x27 ∧ x27 ≤ 7516192761 := h27 ▸ rmul r1 r5
 obtain ⟨x28, h28⟩ : ∃ z : Int, z = (x27 + x15 + x26) % 1073741824 := ⟨_, rfl⟩
 have r28 : 0 ≤ x28 ∧ x28 ≤ 1073741823 := h28 ▸ rmod _
 obtain ⟨x29, h29⟩ : ∃ z : Int, z = (x27 + x15 + x26) / 1073741824 := ⟨_, rfl⟩
 have r29 : 0 ≤ x29 ∧ x29 ≤ 7 := h29 ▸ rdiv (radd (radd r27 r15) r26)
 obtain ⟨x30, h30⟩ : ∃ z : Int, z = (x17 + x29) % 1073741824 := ⟨_, rfl⟩
 have r30 : 0 ≤ x30 ∧ x30 ≤ 7 := h30 ▸ rmod2 (radd r17 r29)
 obtain ⟨x31, h31⟩ : ∃ z : Int, z = (x17 + x29) / 1073741824 := ⟨_, rfl⟩
 have r31 : 0 ≤ x31 ∧ x31 ≤ 0 := h31 ▸ rdiv (radd r17 r29)
 obtain ⟨x32, h32⟩ : ∃ z : Int, z = (x19 + x31) % 1073741824 := ⟨_, rfl⟩
 have r32 : 0 ≤ x32 ∧ x32 ≤ 0 := h32 ▸ rmod2 (radd r19 r31)
 obtain ⟨x33, h33⟩ : ∃ z : Int, z = (x19 + x31) / 1073741824 := ⟨_, rfl⟩
 have r33 : 0 ≤ x33 ∧ x33 ≤ 0 := h33 ▸ rdiv (radd r19 r31)
 obtain ⟨x34, h34⟩ : ∃ z : Int, z = (a2) * (b0) := ⟨_, rfl⟩
 have r34 : 0 ≤ x34 ∧ x34 ≤ 7516192761 := h34 ▸ rmul r2 r3
 obtain ⟨x35, h35⟩ : ∃ z : Int, z = (x34 + x25) % 1073741824 := ⟨_, rfl⟩
 have r35 : 0 ≤ x35 ∧ x35 ≤ 1073741823 := h35 ▸ rmod _
 obtain ⟨x36, h36⟩ : ∃ z : Int, z = (x34 + x25) / 1073741824 := ⟨_, rfl⟩
 have r36 : 0 ≤ x36 ∧ x36 ≤ 7 := h36 ▸ rdiv (radd r34 r25)
 obtain ⟨x37, h37⟩ : ∃ z : Int, z = (a2) * (b1) := ⟨_, rfl⟩
 have r37 : 0 ≤ x37 ∧ x37 ≤ 7516192761 := h37 ▸ rmul r2 r4
 obtain ⟨x38, h38⟩ : ∃ z : Int, z = (x37 + x28 + x36) % 1073741824 := ⟨_, rfl⟩
 have r38 : 0 ≤ x38 ∧ x38 ≤ 1073741823 := h38 ▸ rmod _
 obtain ⟨x39, h39⟩ : ∃ z : Int, z = (x37 + x28 + x36) / 1073741824 := ⟨_, rfl⟩
 have r39 : 0 ≤ x39 ∧ x39 ≤ 7 := h39 ▸ rdiv (radd (radd r37 r28) r36)
 obtain ⟨x40, h40⟩ : ∃ z : Int, z = (a2) * (b2) := ⟨_, rfl⟩
 have r40 : 0 ≤ x40 ∧ x40 ≤ 49 := h40 ▸ rmul r2 r5
 obtain ⟨x41, h41⟩ : ∃ z : Int, z = (x40 + x30 + x39) % 1073741824 := ⟨_, rfl⟩
 have r41 : 0 ≤ x41 ∧ x41 ≤ 63 := h41 ▸ rmod2 (radd (radd r40 r30) r39)
 obtain ⟨x42, h42⟩ : ∃ z : Int, z = (x40 + x30 + x39) / 1073741824 := ⟨_, rfl⟩
 have r42 : 0 ≤ x42 ∧ x42 ≤ 0 := h42 ▸ rdiv (radd (radd r40 r30) r39)
 obtain ⟨x43, h43⟩ : ∃ z : Int, z = (x32 + x42) % 1073741824 := ⟨_, rfl⟩
 have r43 : 0 ≤ x43 ∧ x43 ≤ 0 := h43 ▸ rmod2 (radd r32 r42)
 obtain ⟨x44, h44⟩ : ∃ z : Int, z = (x32 + x42) / 1073741824 := ⟨_, rfl⟩
 have r44 : 0 ≤ x44 ∧ x44 ≤ 0 := h44 ▸ rdiv (radd r32 r42)
 obtain ⟨x45, h45⟩ : ∃ z : Int, z = (x38) % 1073741824 := ⟨_, rfl⟩
 have r45 : 0 ≤ x45 ∧ x45 ≤ 1073741823 := h45 ▸ rmod2 r38
 obtain ⟨x46, h46⟩ : ∃ z : Int, z = (x38) / 1073741824 := ⟨_, rfl⟩
 have r46 : 0 ≤ x46 ∧ x46 ≤ 0 := h46 ▸ rdiv r38
 obtain ⟨x47, h47⟩ : ∃ z : Int, z = (x41 + x46) % 1073741824 := ⟨_, rfl⟩
 have r47 : 0 ≤ x47 ∧ x47 ≤ 63 := h47 ▸ rmod2 (radd r41 r46)
 obtain ⟨x48, h48⟩ : ∃ z : Int, z = (x41 + x46) / 1073741824 := ⟨_, rfl⟩
 have r48 : 0 ≤ x48 ∧ x48 ≤ 0 := h48 ▸ rdiv (radd r41 r46)
 obtain ⟨x49, h49⟩ : ∃ z : Int, z = (x43 + x48) % 1073741824 := ⟨_, rfl⟩
 have r49 : 0 ≤ x49 ∧ x49 ≤ 0 := h49 ▸ rmod2 (radd r43 r48)
 obtain ⟨x50, h50⟩ : ∃ z : Int, z = (x43 + x48) / 1073741824 := ⟨_, rfl⟩
 have r50 : 0 ≤ x50 ∧ x50 ≤ 0 := h50 ▸ rdiv (radd r43 r48)
 obtain ⟨x51, h51⟩ : ∃ z : Int, z = (x47) % 1073741824 := ⟨_, rfl⟩
 have r51 : 0 ≤ x51 ∧ x51 ≤ 63 := h51 ▸ rmod2 r47
 obtain ⟨x52, h52⟩ : ∃ z : Int, z = (x47) / 1073741824 := ⟨_, rfl⟩
 have r52 : 0 ≤ x52 ∧ x52 ≤ 0 := h52 ▸ rdiv r47
 obtain ⟨x53, h53⟩ : ∃ z : Int, z = (x49 + x52) % 1073741824 := ⟨_, rfl⟩
 have r53 : 0 ≤ x53 ∧ x53 ≤ 0 := h53 ▸ rmod2 (radd r49 r52)
 obtain ⟨x54, h54⟩ : ∃ z : Int, z = (x49 + x52) / 1073741824 := ⟨_, rfl⟩
 have r54 : 0 ≤ x54 ∧ x54 ≤ 0 := h54 ▸ rdiv (radd r49 r52)
 obtain ⟨x55, h55⟩ : ∃ z : Int, z = (x53) % 1073741824 := ⟨_, rfl⟩
 have r55 : 0 ≤ x55 ∧ x55 ≤ 0 := h55 ▸ rmod2 r53
 obtain ⟨x56, h56⟩ : ∃ z : Int, z = (x53) / 1073741824 := ⟨_, rfl⟩
 have r56 : 0 ≤ x56 ∧ x56 ≤ 0 := h56 ▸ rdiv r53
 have e8 : x6 = 1073741824 * x8 + x7 := by rw [h8, h7]; exact (Int.mul_ediv_add_emod _ _).symm
 have e11 : x9 + x8 = 1073741824 * x11 + x10 := by rw [h11, h10]; exact (Int.mul_ediv_add_emod _ _).symm
 have e14 : x12 + x11 = 1073741824 * x14 + x13 := by rw [h14, h13]; exact (Int.mul_ediv_add_emod _ _).symm
 have e16 : x14 = 1073741824 * x16 + x15 := by rw [h16, h15]; exact (Int.mul_ediv_add_emod _ _).symm
 have e18 : x16 = 1073741824 * x18 + x17 := by rw [h18, h17]; exact (Int.mul_ediv_add_emod _ _).symm
 have e20 : x18 = 1073741824 * x20 + x19 := by rw [h20, h19]; exact (Int.mul_ediv_add_emod _ _).symm
 have e23 : x21 + x10 = 1073741824 * x23 + x22 := by rw [h23, h22]; exact (Int.mul_ediv_add_emod _ _).symm
 have e26 : x24 + x13 + x23 = 1073741824 * x26 + x25 := by rw [h26, h25]; exact (Int.mul_ediv_add_emod _ _).symm
 have e29 : x27 + x15 + x26 = 1073741824 * x29 + x28 := by rw [h29, h28]; exact (Int.mul_ediv_add_emod _ _).symm
 have e31 : x17 + x29 = 1073741824 * x31 + x30 := by rw [h31, h30]; exact (Int.mul_ediv_add_emod _ _).symm
 have e33 : x19 + x31 = 1073741824 * x33 + x32 := by rw [h33, h32]; exact (Int.mul_ediv_add_emod _ _).symm
 have e36 : x34 + x25 = 1073741824 * x36 + x35 := by rw [h36, h35]; exact (Int.mul_ediv_add_emod _ _).symm
 have e39 : x37 + x28 + x36 = 1073741824 * x39 + x38 := by rw [h39, h38]; exact (Int.mul_ediv_add_emod _ _).symm
 have e42 : x40 + x30 + x39 = 1073741824 * x42 + x41 := by rw [h42, h41]; exact (Int.mul_ediv_add_emod _ _).symm
 have e44 : x32 + x42 = 1073741824 * x44 + x43 := by rw [h44, h43]; exact (Int.mul_ediv_add_emod _ _).symm
 have e46 : x38 = 1073741824 * x46 + x45 := by rw [h46, h45]; exact (Int.mul_ediv_add_emod _ _).symm
 have e48 : x41 + x46 = 1073741824 * x48 + x47 := by rw [h48, h47]; exact (Int.mul_ediv_add_emod _ _).symm
 have e50 : x43 + x48 = 1073741824 * x50 + x49 := by rw [h50, h49]; exact (Int.mul_ediv_add_emod _ _).symm
 have e52 : x47 = 1073741824 * x52 + x51 := by rw [h52, h51]; exact (Int.mul_ediv_add_emod _ _).symm
 have e54 : x49 + x52 = 1073741824 * x54 + x53 := by rw [h54, h53]; exact (Int.mul_ediv_add_emod _ _).symm
 have e56 : x53 = 1073741824 * x56 + x55 := by rw [h56, h55]; exact (Int.mul_ediv_add_emod _ _).symm
 have z16 : x16 = 0 := Int.le_antisymm r16.2 r16.1
 have z17 : x17 = 0 := Int.le_antisymm r17.2 r17.1
 have z19 : x19 = 0 := Int.le_antisymm r19.2 r19.1
 have z31 : x31 = 0 := Int.le_antisymm r31.2 r31.1
 have z32 : x32 = 0 := Int.le_antisymm r32.2 r32.1
 have z42 : x42 = 0 := Int.le_antisymm r42.2 r42.1
 have z43 : x43 = 0 := Int.le_antisymm r43.2 r43.1
 have z48 : x48 = 0 := Int.le_antisymm r48.2 r48.1
 have z49 : x49 = 0 := Int.le_antisymm r49.2 r49.1
 have z52 : x52 = 0 := Int.le_antisymm r52.2 r52.1
 have z55 : x55 = 0 := Int.le_antisymm r55.2 r55.1
 have hsum := mulSum x6 x7 x8 x9 x10 x11 x12 x13 x14 x15 x16 x17 x18 x19 x20 x21 x22 x23 x24 x25 x26 x27 x28 x29 x30 x31 x32 x33 x34 x35 x36 x37 x38 x39 x40 x41 x42 x43 x44 x45 x46 x47 x48 x49 x50 x51 x52 x53 x54 x55 x56 e8 e11 e14 e16 e18 e20 e23 e26 e29 e31 e33 e36 e39 e42 e44 e46 e48 e50 e52 e54 e56 z16 z17 z19 z31 z32 z42 z43 z48 z49 z52
 refine ⟨x7, x22, x35, x45, x51, x55, rlt r7, rlt r22, rlt r35, rlt r45, rlt ⟨r51.1, Int.le_trans r51.2 (by decide)⟩, z55, ?_, fun w => ?_⟩
 · rw [hsum, h6, h9, h12, h21, h24, h27, h34, h37, h40]
 · obtain ⟨G, hG⟩ : ∃ G, G = mkGh [] [a0, a1, a2, b0, b1, b2, x6, x7, x8, x9, x10, x11, x12, x13, x14, x15, x16, x17, x18, x19, x20, x21, x22, x23, x24, x25, x26, x27, x28, x29, x30, x31, x32, x33, x34, x35, x36, x37, x38, x39, x40, x41, x42, x43, x44, x45, x46, x47, x48, x49, x50, x51, x52, x53, x54, x55, x56] rfl := ⟨_, rfl⟩
   have hbd : bdOk G.σ bdM 0 := by rw [hG]; exact ⟨r0, r1, r2, r3, r4, r5, r6, r7, r8, r9, r10, r11, r12, r13, r14, r15, r16, r17, r18, r19, r20, r21, r22, r23, r24, r25, r26, r27, r28, r29, r30, r31, r32, r33, r34, r35, r36, r37, r38, r39, r40, r41, r42, r43, r44, r45, r46, r47, r48, r49, r50, r51, r52, r53, r54, r55, r56, trivial⟩
   have hnl : nlOk G nlM := by
    rw [hG]
    exact ⟨.inl ⟨rfl, wmul h6 ⟨r6.1, Int.le_trans r6.2 (by decide)⟩⟩,
     .inr (.inr (.inl ⟨rfl, nz, wrem (S := (0 + (1 * x6 + 0))) (s := x6) (by simp only [Int.zero_add, Int.add_zero, Int.one_mul]) r6.1 h7⟩)),
     .inr (.inl ⟨rfl, nz, wquo (S := (0 + (1 * x6 + 0))) (s := x6) (by simp only [Int.zero_add, Int.add_zero, Int.one_mul]) r6.1 h8 ⟨r8.1, Int.le_trans r8.2 (by decide)⟩⟩),
     .inl ⟨rfl, wmul h9 ⟨r9.1, Int.le_trans r9.2 (by decide)⟩⟩,
     .inr (.inr (.inl ⟨rfl, nz, wrem (S := (0 + (1 * x9 + (1 * x8 + 0)))) (s := x9 + x8) (by simp only [Int.zero_add, Int.add_zero, Int.one_mul]) (radd r9 r8).1 h10⟩)),
     .inr (.inl ⟨rfl, nz, wquo (S := (0 + (1 * x9 + (1 * x8 + 0)))) (s := x9 + x8) (by simp only [Int.zero_add, Int.add_zero, Int.one_mul]) (radd r9 r8).1 h11 ⟨r11.1, Int.le_trans r11.2 (by decide)⟩⟩),
     .inl ⟨rfl, wmul h12 ⟨r12.1, Int.le_trans r12.2 (by decide)⟩⟩,
     .inr (.inr (.inl ⟨rfl, nz, wrem (S := (0 + (1 * x12 + (1 * x11 + 0)))) (s := x12 + x11) (by simp only [Int.zero_add, Int.add_zero, Int.one_mul]) (radd r12 r11).1 h13⟩)),
     .inr (.inl ⟨rfl, nz, wquo (S := (0 + (1 * x12 + (1 * x11 + 0)))) (s := x12 + x11) (by simp only [Int.zero_add, Int.add_zero, Int.one_mul]) (radd r12 r11).1 h14 ⟨r14.1, Int.le_trans r14.2 (by decide)⟩⟩),
     .inr (.inr (.inl ⟨rfl, nz, wrem (S := (0 + (1 * x14 + 0))) (s := x14) (by simp only [Int.zero_add, Int.add_zero, Int.one_mul]) r14.1 h15⟩)),
     .inr (.inl ⟨rfl, nz, wquo (S := (0 + (1 * x14 + 0))) (s := x14) (by simp only [Int.zero_add, Int.add_zero, Int.one_mul]) r14.1 h16 ⟨r16.1, Int.le_trans r16.2 (by decide)⟩⟩),
     .inr (.inr (.inl ⟨rfl, nz, wrem (S := (0 + (1 * x16 + 0))) (s := x16) (by simp only [Int.zero_add, Int.add_zero, Int.one_mul]) r16.1 h17⟩)),
     .inr (.inl ⟨rfl, nz, wquo (S := (0 + (1 * x16 + 0))) (s := x16) (by simp only [Int.zero_add, Int.add_zero, Int.one_mul]) r16.1 h18 ⟨r18.1, Int.le_trans r18.2 (by decide)⟩⟩),
     .inr (.inr (.inl ⟨rfl, nz, wrem (S := (0 + (1 * x18 + 0))) (s := x18) (by simp only [Int.zero_add, Int.add_zero, Int.one_mul]) r18.1 h19⟩)),
     .inr (.inl ⟨rfl, nz, wquo (S := (0 + (1 * x18 + 0))) (s := x18) (by simp only [Int.zero_add, Int.add_zero, Int.one_mul]) r18.1 h20 ⟨r20.1, Int.le_trans r20.2 (by decide)⟩⟩),
     .inl ⟨rfl, wmul h21 ⟨r21.1, Int.le_trans r21.2 (by decide)⟩⟩,
     .inr (.inr (.inl ⟨rfl, nz, wrem (S := (0 + (1 * x21 + (1 * x10 + 0)))) (s := x21 + x10) (by simp only [Int.zero_add, Int.add_zero, Int.one_mul]) (radd r21 r10).1 h22⟩)),
     .inr (.inl ⟨rfl, nz, wquo (S := (0 + (1 * x21 + (1 * x10 + 0)))) (s := x21 + x10) (by simp only [Int.zero_add, Int.add_zero, Int.one_mul]) (radd r21 r10).1 h23 ⟨r23.1, Int.le_trans r23.2 (by decide)⟩⟩),
     .inl ⟨rfl, wmul h24 ⟨r24.1, Int.le_trans r24.2 (by decide)⟩⟩,
     .inr (.inr (.inl ⟨rfl, nz, wrem (S := (0 + (1 * x24 + (1 * x13 + (1 * x23 + 0))))) (s := x24 + x13 + x23) (by simp only [Int.zero_add, Int.add_zero, Int.one_mul, Int.add_assoc]) (radd (radd r24 r13) r23).1 h25⟩)),
     .inr (.inl ⟨rfl, nz, wquo (S := (0 + (1 * x24 + (1 * x13 + (1 * x23 + 0))))) (s := x24 + x13 + x23) (by simp only [Int.zero_add, Int.add_zero, Int.one_mul, Int.add_assoc]) (radd (radd r24 r13) r23).1 h26 ⟨r26.1, Int.le_trans r26.2 (by decide)⟩⟩),
     .inl ⟨rfl, wmul h27 ⟨r27.1, Int.le_trans r27.2 (by decide)⟩⟩,
     .inr (.inr (.inl ⟨rfl, nz, wrem (S := (0 + (1 * x27 + (1 * x15 + (1 * x26 + 0))))) (s := x27 + x15 + x26) (by simp only [Int.zero_add, Int.add_zero, Int.one_mul, Int.add_assoc]) (radd (radd r27 r15) r26).1 h28⟩)),
     .inr (.inl ⟨rfl, nz, wquo (S := (0 + (1 * x27 + (1 * x15 + (1 * x26 + 0))))) (s := x27 + x15 + x26) (by simp only [Int.zero_add, Int.add_zero, Int.one_mul, Int.add_assoc]) (radd (radd r27 r15) r26).1 h29 ⟨r29.1, Int.le_trans r29.2 (by decide)⟩⟩),
     .inr (.inr (.inl ⟨rfl, nz, wrem (S := (0 + (1 * x17 + (1 * x29 + 0)))) (s := x17 + x29) (by simp only [Int.zero_add, Int.add_zero, Int.one_mul]) (radd r17 r29).1 h30⟩)),
     .inr (.inl ⟨rfl, nz, wquo (S := (0 + (1 * x17 + (1 * x29 + 0)))) (s := x17 + x29) (by simp only [Int.zero_add, Int.add_zero, Int.one_mul]) (radd r17 r29).1 h31 ⟨r31.1, Int.le_trans r31.2 (by decide)⟩⟩),
     .inr (.inr (.inl ⟨rfl, nz, wrem (S := (0 + (1 * x19 + (1 * x31 + 0)))) (s := x19 + x31) (by simp only [Int.zero_add, Int.add_zero, Int.one_mul]) (radd r19 r31).1 h32⟩)),
     .inr (.inl ⟨rfl, nz, wquo (S := (0 + (1 * x19 + (1 * x31 + 0)))) (s := x19 + x31) (by simp only [Int.zero_add, Int.add_zero, Int.one_mul]) (radd r19 r31).1 h33 ⟨r33.1, Int.le_trans r33.2 (by decide)⟩⟩),
     .inl ⟨rfl, wmul h34 ⟨r34.1, Int.le_trans r34.2 (by decide)⟩⟩,
     .inr (.inr (.inl ⟨rfl, nz, wrem (S := (0 + (1 * x34 + (1 * x25 + 0)))) (s := x34 + x25) (by simp only [Int.zero_add, Int.add_zero, Int.one_mul]) (radd r34 r25).1 h35⟩)),
     .inr (.inl ⟨rfl, nz, wquo (S := (0 + (1 * x34 + (1 * x25 + 0)))) (s := x34 + x25) (by simp only [Int.zero_add, Int.add_zero, Int.one_mul]) (radd r34 r25).1 h36 ⟨r36.1, Int.le_trans r36.2 (by decide)⟩⟩),
     .inl ⟨rfl, wmul h37 ⟨r37.1, Int.le_trans r37.2 (by decide)⟩⟩,
     .inr (.inr (.inl ⟨rfl, nz, wrem (S := (0 + (1 * x37 + (1 * x28 + (1 * x36 + 0))))) (s := x37 + x28 + x36) (by simp only [Int.zero_add, Int.add_zero, Int.one_mul, Int.add_assoc]) (radd (radd r37 r28) r36).1 h38⟩)),
     .inr (.inl ⟨rfl, nz, wquo (S := (0 + (1 * x37 + (1 * x28 + (1 * x36 + 0))))) (s := x37 + x28 + x36) (by simp only [Int.zero_add, Int.add_zero, Int.one_mul, Int.add_assoc]) (radd (radd r37 r28) r36).1 h39 ⟨r39.1, Int.le_trans r39.2 (by decide)⟩⟩),
     .inl ⟨rfl, wmul h40 ⟨r40.1, Int.le_trans r40.2 (by decide)⟩⟩,
     .inr (.inr (.inl ⟨rfl, nz, wrem (S := (0 + (1 * x40 + (1 * x30 + (1 * x39 + 0))))) (s := x40 + x30 + x39) (by simp only [Int.zero_add, Int.add_zero, Int.one_mul, Int.add_assoc]) (radd (radd r40 r30) r39).1 h41⟩)),
     .inr (.inl ⟨rfl, nz, wquo (S := (0 + (1 * x40 + (1 * x30 + (1 * x39 + 0))))) (s := x40 + x30 + x39) (by simp only [Int.zero_add, Int.add_zero, Int.one_mul, Int.add_assoc]) (radd (radd r40 r30) r39).1 h42 ⟨r42.1, Int.le_trans r42.2 (by decide)⟩⟩),
     .inr (.inr (.inl ⟨rfl, nz, wrem (S := (0 + (1 * x32 + (1 * x42 + 0)))) (s := x32 + x42) (by simp only [Int.zero_add, Int.add_zero, Int.one_mul]) (radd r32 r42).1 h43⟩)),
     .inr (.inl ⟨rfl, nz, wquo (S := (0 + (1 * x32 + (1 * x42 + 0)))) (s := x32 + x42) (by simp only [Int.zero_add, Int.add_zero, Int.one_mul]) (radd r32 r42).1 h44 ⟨r44.1, Int.le_trans r44.2 (by decide)⟩⟩),
     .inr (.inr (.inl ⟨rfl, nz, wrem (S := (0 + (1 * x38 + 0))) (s := x38) (by simp only [Int.zero_add, Int.add_zero, Int.one_mul]) r38.1 h45⟩)),
     .inr (.inl ⟨rfl, nz, wquo (S := (0 + (1 * x38 + 0))) (s := x38) (by simp only [Int.zero_add, Int.add_zero, Int.one_mul]) r38.1 h46 ⟨r46.1, Int.le_trans r46.2 (by decide)⟩⟩),
     .inr (.inr (.inl ⟨rfl, nz, wrem (S := (0 + (1 * x41 + (1 * x46 + 0)))) (s := x41 + x46) (by simp only [Int.zero_add, Int.add_zero, Int.one_mul]) (radd r41 r46).1 h47⟩)),
     .inr (.inl ⟨rfl, nz, wquo (S := (0 + (1 * x41 + (1 * x46 + 0)))) (s := x41 + x46) (by simp only [Int.zero_add, Int.add_zero, Int.one_mul]) (radd r41 r46).1 h48 ⟨r48.1, Int.le_trans r48.2 (by decide)⟩⟩),
     .inr (.inr (.inl ⟨rfl, nz, wrem (S := (0 + (1 * x43 + (1 * x48 + 0)))) (s := x43 + x48) (by simp only [Int.zero_add, Int.add_zero, Int.one_mul]) (radd r43 r48).1 h49⟩)),
     .inr (.inl ⟨rfl, nz, wquo (S := (0 + (1 * x43 + (1 * x48 + 0)))) (s := x43 + x48) (by simp only [Int.zero_add, Int.add_zero, Int.one_mul]) (radd r43 r48).1 h50 ⟨r50.1, Int.le_trans r50.2 (by decide)⟩⟩),
     .inr (.inr (.inl ⟨rfl, nz, wrem (S := (0 + (1 * x47 + 0))) (s := x47) (by simp only [Int.zero_add, Int.add_zero, Int.one_mul]) r47.1 h51⟩)),
     .inr (.inl ⟨rfl, nz, wquo (S := (0 + (1 * x47 + 0))) (s := x47) (by simp only [Int.zero_add, Int.add_zero, Int.one_mul]) r47.1 h52 ⟨r52.1, Int.le_trans r52.2 (by decide)⟩⟩),
     .inr (.inr (.inl ⟨rfl, nz, wrem (S := (0 + (1 * x49 + (1 * x52 + 0)))) (s := x49 + x52) (by simp only [Int.zero_add, Int.add_zero, Int.one_mul]) (radd r49 r52).1 h53⟩)),
     .inr (.inl ⟨rfl, nz, wquo (S := (0 + (1 * x49 + (1 * x52 + 0)))) (s := x49 + x52) (by simp only [Int.zero_add, Int.add_zero, Int.one_mul]) (radd r49 r52).1 h54 ⟨r54.1, Int.le_trans r54.2 (by decide)⟩⟩),
     .inr (.inr (.inl ⟨rfl, nz, wrem (S := (0 + (1 * x53 + 0))) (s := x53) (by simp only [Int.zero_add, Int.add_zero, Int.one_mul]) r53.1 h55⟩)),
     .inr (.inl ⟨rfl, nz, wquo (S := (0 + (1 * x53 + 0))) (s := x53) (by simp only [Int.zero_add, Int.add_zero, Int.one_mul]) r53.1 h56 ⟨r56.1, Int.le_trans r56.2 (by decide)⟩⟩), trivial⟩
   exact run_val (G := G) progOkB (⟨hbd, trivial, hnl⟩ : Facts G bdM [] nlM) noHooks Tryz.func505 rfl (by rw [hG]; simp [argM, concL, conc, den, mkGh]) mulRun (fun φ => by rw [hG]; simp [resM, concL, conc, den, mkGh]) w
end Go.Proofs.YtdfgedemolielaaGreat
