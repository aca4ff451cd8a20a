/- Operations, eleventh part: more built-in functions. -/
import Derived.Test.YtjpkfdmjhgnmbaaGreatGvOps10
namespace Go.Proofs.YtjpkfdmjhgnmbaaGreat.Gv
open Go

section
variable {E : Env} {P : Program} {G : Gh} {φ : Mp} {h h' : H} {w : World} {s : Fr} {a : Act} {v : V} {o : Oper}

theorem maxV_ok (ok : EnvOk E P G) {lt : Bool} {x y : V} {ux uy : Value} (hx : conc G φ x = some ux) (hy : conc G φ y = some uy) (e : maxV E lt x y h = .ok v h') :
    h' = h ∧ ∃ k m n, ux = .int k m ∧ uy = .int k n ∧ conc G φ v = some (.int k (if (if lt then n < m else m < n) then n else m)) := by
  unfold maxV at e
  split at e
  · rename_i k m k' n
    obtain ⟨rfl, e1⟩ := same_ok e
    clear e
    cases e1
    rw [conc] at hx hy; cases hx; cases hy
    refine ⟨rfl, _, _, _, rfl, rfl, ?_⟩
    rw [conc]
    cases lt
    · simp only [cond_false, ilt_ok, Bool.false_eq_true, if_false]
      by_cases hmn : m < n <;> simp [hmn]
    · simp only [cond_true, ilt_ok, if_true]
      by_cases hmn : n < m <;> simp [hmn]
  · split at e
    · rename_i k k' z1 z2 hk1 hk2 hz1 hz2
      obtain ⟨rfl, e1⟩ := same_ok e
      clear e
      obtain ⟨b, hb, e2⟩ := onSome_ok e1
      clear e1
      cases e2
      have c1 := int_conc (G := G) (φ := φ) hk1 hz1
      have c2 := int_conc (G := G) (φ := φ) hk2 hz2
      refine ⟨rfl, k, _, _, Option.some.inj (hx.symm.trans c1), Option.some.inj (hy.symm.trans c2), ?_⟩
      cases lt
      · rw [cond_false] at hb
        have := symLt_ok ok hb
        simp only [Bool.false_eq_true, if_false]
        subst this
        by_cases hmn : LF.den G.σ z1 < LF.den G.σ z2
        · simp [hmn, c2]
        · simp [hmn, c1]
      · rw [cond_true] at hb
        have := symLt_ok ok hb
        simp only [if_true]
        subst this
        by_cases hmn : LF.den G.σ z2 < LF.den G.σ z1
        · simp [hmn, c2]
        · simp [hmn, c1]
    · cases e

theorem max_ok (ok : EnvOk E P G) {ts : List Nat} {ty : TypeId} {cs : Array Bool} {l : List V} {ul : List Value} (hl : concL G φ l = some ul) (r : HRel G φ h w)
    (e : (builtF E .max ts).v l h = .ok v h') : Did G φ h w v h' ((builtin .max ts.toArray ty cs ul.toArray).run P w) := by
  refine DidV.builtin rfl ?_
  cases ts with
  | nil => cases e
  | cons t0 ts =>
    unfold builtF at e
    dsimp only at e
    split at e
    · obtain ⟨u, z, h1, h2, rfl⟩ := two_conc hl
      obtain ⟨rfl, k, m, n, rfl, rfl, hc⟩ := maxV_ok ok h1 h2 e
      refine DidV.same r hc ?_
      simp [Builtin.max_, Builtin.max2]
    · cases e
theorem min_ok (ok : EnvOk E P G) {ts : List Nat} {ty : TypeId} {cs : Array Bool} {l : List V} {ul : List Value} (hl : concL G φ l = some ul) (r : HRel G φ h w)
    (e : (builtF E .min ts).v l h = .ok v h') : Did G φ h w v h' ((builtin .min ts.toArray ty cs ul.toArray).run P w) := by
  refine DidV.builtin rfl ?_
  cases ts with
  | nil => cases e
  | cons t0 ts =>
    unfold builtF at e
    dsimp only at e
    split at e
    · obtain ⟨u, z, h1, h2, rfl⟩ := two_conc hl
      obtain ⟨rfl, k, m, n, rfl, rfl, hc⟩ := maxV_ok ok h1 h2 e
      refine DidV.same r hc ?_
      simp [Builtin.min_, Builtin.min2]
    · cases e

theorem zeroCells_list (z : Array Value) (n : Nat) : (Builtin.zeroCells z n).toList = repV z.toList n := by
  show (madeCells z (n * z.size)).toList = _
  apply List.ext_getElem?
  intro j
  by_cases hj : j < n * z.size
  · rw [Array.getElem?_toList, madeCells_get hj]
  · rw [List.getElem?_eq_none (by rw [Array.length_toList, size_madeCells]; omega), List.getElem?_eq_none (by rw [repV_length]; simpa using hj)]
theorem clear_ok (ok : EnvOk E P G) {ts : List Nat} {ty : TypeId} {cs : Array Bool} {l : List V} {ul : List Value} (hl : concL G φ l = some ul) (r : HRel G φ h w)
    (e : (builtF E .clear ts).v l h = .ok v h') : Did G φ h w v h' ((builtin .clear ts.toArray ty cs ul.toArray).run P w) := by
  refine DidV.builtin rfl ?_
  cases ts with
  | nil => cases e
  | cons t0 ts =>
    unfold builtF at e
    simp only [ok.ty] at e
    split at e
    · rename_i el hk
      have hu := k_slice hk
      cases hz : (mkTI P el).zero with
      | none => rw [hz] at e; cases e
      | some z =>
        obtain ⟨i, zv, hi, hz', habs, hsz, _⟩ := zero_ok hz
        rw [hz] at e
        dsimp only at e
        have hc : conc G φ .undef = some (.tuple #[]) := by rw [conc]
        split at e
        · cases e
          obtain ⟨u, h1, rfl⟩ := one_conc hl
          rw [conc] at h1; cases h1
          exact DidV.same r hc (by simp [Builtin.clear_, run_underlying hu])
        · rename_i j
          cases e
          obtain ⟨u, h1, rfl⟩ := one_conc hl
          rw [conc] at h1
          cases hj : φ j with
          | none => rw [hj] at h1; cases h1
          | some lc =>
            rw [hj] at h1; cases h1
            exact DidV.same r hc (by simp [Builtin.clear_, run_underlying hu])
        · rename_i b off n c xx
          obtain ⟨u, h1, rfl⟩ := one_conc hl
          obtain ⟨lc, hlc, rfl⟩ := conc_slice h1
          cases h0 : Nat.beq n 0 with
          | true =>
            rw [h0, cond_true] at e
            rw [nbeq, decide_eq_true_eq] at h0
            subst h0
            cases e
            exact DidV.same r hc (by simp [Builtin.clear_, run_underlying hu])
          | false =>
            rw [h0, cond_false] at e
            rw [nbeq, decide_eq_false_iff_not] at h0
            obtain ⟨cs', m, sz, ex, hb, hm, hcell, e1⟩ := storeL_ok e
            clear e
            cases e1
            have hrv := concL_repl (cells_conc2 (absV_ok G φ 4 _ _ habs)) n
            obtain ⟨w', hrun, r', hf, hx'⟩ := r.store (P := P) hb hlc hm hcell hrv
            refine ⟨φ, .tuple #[], w', ?_, hc, r', hf, hx'⟩
            have hzc := zeroCells_list zv.cells n
            rw [← hzc] at hrun
            obtain ⟨n, rfl⟩ : ∃ k, n = k + 1 := ⟨n - 1, by omega⟩
            simp [Builtin.clear_, run_underlying hu, zeroValue, typeInfo, hi, hz', hrun]
        · cases e
    · cases e
end
end Go.Proofs.YtjpkfdmjhgnmbaaGreat.Gv
