/- Types, constants and operands. -/
import Derived.Test.YtjpkfdmjhgnmbaaGreatGvStr
namespace Go.Proofs.YtjpkfdmjhgnmbaaGreat.Gv
open Go

/-- What is asked of what a run knows. -/
def NLOk (G : Gh) (n : NL) : Prop :=
  (n.op = 0 ∧ n.k.wrap ((n.x.1 + den G.σ n.x.2) * (n.y.1 + den G.σ n.y.2)) = G.σ n.i) ∨
  (n.op = 1 ∧ n.y.1 + den G.σ n.y.2 ≠ 0 ∧ n.k.wrap ((n.x.1 + den G.σ n.x.2).tdiv (n.y.1 + den G.σ n.y.2)) = G.σ n.i) ∨
  (n.op = 2 ∧ n.y.1 + den G.σ n.y.2 ≠ 0 ∧ (n.x.1 + den G.σ n.x.2).tmod (n.y.1 + den G.σ n.y.2) = G.σ n.i)
structure EnvOk (E : Env) (P : Program) (G : Gh) : Prop where
  ty : ∀ t, E.tyOf t = mkTI P t
  bd : ∀ (i : Nat) lo hi, E.bd[i]? = some (lo, hi) → lo ≤ G.σ i ∧ G.σ i ≤ hi
  ge : ∀ f ∈ E.ge, 0 ≤ f.1 + den G.σ f.2
  nl : ∀ n ∈ E.nl, NLOk G n

section
variable {P : Program} {t : Nat}
theorem mkTI_k : (mkTI P t).k = mkK P t ∨ (P.info? t = none ∧ (mkTI P t).k = .other) := by
  unfold mkTI
  split
  · rename_i h; exact .inr ⟨h, rfl⟩
  · exact .inl rfl
theorem k_eq {k : K} (h : (mkTI P t).k = k) (hk : k ≠ .other) : mkK P t = k := by
  rcases mkTI_k (P := P) (t := t) with h' | ⟨_, h'⟩
  · rw [← h', h]
  · rw [h] at h'; exact absurd h' hk
theorem k_slice {e : Nat} (h : (mkTI P t).k = .slice e) : P.underlying t = some (.slice e) := by
  have h := k_eq h (by simp)
  unfold mkK at h
  split at h <;> first | (cases h; assumption) | cases h
theorem k_array {n e : Nat} (h : (mkTI P t).k = .array n e) : P.underlying t = some (.array n e) := by
  have h := k_eq h (by simp)
  unfold mkK at h
  split at h <;> first | (cases h; assumption) | cases h
theorem k_pointer {e : Nat} (h : (mkTI P t).k = .pointer e) : P.underlying t = some (.pointer e) := by
  have h := k_eq h (by simp)
  unfold mkK at h
  split at h <;> first | (cases h; assumption) | cases h
theorem k_map {k e : Nat} (h : (mkTI P t).k = .map k e) : P.underlying t = some (.map k e) := by
  have h := k_eq h (by simp)
  unfold mkK at h
  split at h <;> first | (cases h; assumption) | cases h
theorem k_int {k : IntKind} (h : (mkTI P t).k = .int k) : P.underlying t = some (.int k) := by
  have h := k_eq h (by simp)
  unfold mkK at h
  split at h <;> first | (cases h; assumption) | cases h
theorem k_string (h : (mkTI P t).k = .string) : P.underlying t = some .string := by
  have h := k_eq h (by simp)
  unfold mkK at h
  split at h <;> first | assumption | cases h
theorem k_bool (h : (mkTI P t).k = .bool) : P.underlying t = some .bool := by
  have h := k_eq h (by simp)
  unfold mkK at h
  split at h <;> first | assumption | cases h
theorem k_func (h : (mkTI P t).k = .func) : ∃ a b c, P.underlying t = some (.func a b c) := by
  have h := k_eq h (by simp)
  unfold mkK at h
  split at h <;> first | exact ⟨_, _, _, by assumption⟩ | cases h
theorem k_iface (h : (mkTI P t).k = .iface) : ∃ a, P.underlying t = some (.interface a) := by
  have h := k_eq h (by simp)
  unfold mkK at h
  split at h <;> first | exact ⟨_, by assumption⟩ | cases h
theorem k_struct {fs : List (Nat × Nat)} (h : (mkTI P t).k = .struct fs) : ∃ a, P.underlying t = some (.struct a) ∧ fs = a.toList.map fun f => (f.offset, f.type) := by
  have h := k_eq h (by simp)
  unfold mkK at h
  split at h <;> first | (cases h; exact ⟨_, by assumption, rfl⟩) | cases h
/-- No interface, and there is an underlying type. -/
theorem k_plain (h1 : (mkTI P t).k ≠ .iface) (h2 : (mkTI P t).k ≠ .other) : ∃ d, P.underlying t = some d ∧ ∀ m, d ≠ .interface m := by
  have h := k_eq rfl h2
  cases hu : P.underlying t with
  | none => rw [← h] at h2; unfold mkK at h2; rw [hu] at h2; exact absurd rfl h2
  | some d =>
    refine ⟨d, rfl, fun m hm => ?_⟩
    subst hm
    rw [← h] at h1; unfold mkK at h1; rw [hu] at h1; exact absurd rfl h1
theorem has_ok (h : (mkTI P t).has = true) : ∃ i, P.info? t = some i ∧ (mkTI P t).size = i.size ∧ (mkTI P t).bytes = i.bytes := by
  cases hi : P.info? t with
  | none => unfold mkTI at h; rw [hi] at h; cases h
  | some i => refine ⟨i, rfl, ?_, ?_⟩ <;> (unfold mkTI; rw [hi])
theorem has_und (h : (mkTI P t).has = true) : ∃ d, P.underlying t = some d := by
  obtain ⟨i, hi, _⟩ := has_ok h
  unfold mkTI at h; rw [hi] at h
  exact Option.isSome_iff_exists.1 h
theorem zero_ok {z : V} (h : (mkTI P t).zero = some z) : ∃ i v, P.info? t = some i ∧ i.zero = some v ∧ absV 4 v = some z ∧ (mkTI P t).size = i.size ∧ (mkTI P t).bytes = i.bytes := by
  cases hi : P.info? t with
  | none => unfold mkTI at h; rw [hi] at h; cases h
  | some i =>
    cases hz : i.zero with
    | none => unfold mkTI at h; rw [hi] at h; simp [hz] at h
    | some v =>
      refine ⟨i, v, rfl, hz, ?_, ?_, ?_⟩
      · unfold mkTI at h; rw [hi] at h; simpa [hz] using h
      · unfold mkTI; rw [hi]
      · unfold mkTI; rw [hi]
theorem agg_ok (h : (mkTI P t).has = true) {w : World} : ∀ d, P.underlying t = some d → (isAgg t).run P w = .ok ((mkTI P t).agg) w := by
  intro d hd
  obtain ⟨i, hi, _⟩ := has_ok h
  have : (mkTI P t).agg = match d with | .struct _ | .array _ _ => true | _ => false := by
    unfold mkTI; rw [hi]; simp only [mkK, hd]
    cases d <;> rfl
  rw [this]
  simp only [isAgg, Sem.run_bind, run_underlying hd, Result.andThen_ok]
  cases d <;> rfl
end

/-! ### constants and operands -/
theorem absV_ok (G : Gh) (φ : Mp) : ∀ n v c, absV n v = some c → conc G φ c = some v
  | 0, _, _, h => by cases h
  | n + 1, v, c, h => by
    have ih := absV_ok G φ n
    unfold absV at h
    split at h
    · cases h; rw [conc]
    · cases h; rw [conc]
    · cases h
      rename_i s
      rw [conc, strL_bytesNat]
    · cases h; rw [conc]
    · cases h; rw [conc]
    · cases h; rw [conc]
    · cases h; rw [conc]
    · cases h; rw [conc]
    · rename_i cs
      have key : ∀ (l : List Value) (m : List V), l.mapM (absV n) = some m → concL G φ m = some l := by
        intro l
        induction l with
        | nil => intro m hm; simp at hm; subst hm; exact concL_nil
        | cons x l ihl =>
          intro m hm
          rw [List.mapM_cons] at hm
          cases hx : absV n x with
          | none => simp [hx] at hm
          | some y =>
            cases hl : l.mapM (absV n) with
            | none => simp [hx, hl] at hm
            | some k =>
              simp [hx, hl] at hm
              subst hm
              exact concL_cons.2 ⟨x, l, ih _ _ hx, ihl _ hl, rfl⟩
      split at h
      · rename_i m hm
        cases h
        rw [conc, key _ _ hm]
      · cases h
    · rename_i cs
      split at h
      · rename_i hc
        cases h
        rw [conc]
        have : cs = #[] := by cases cs; simp_all
        rw [this]
      · cases h
    · cases h

/-- What a frame stands for. -/
def TRel (G : Gh) (φ : Mp) (s : Fr) (tmps : Array Value) : Prop := ∀ t, t < 4096 → conc G φ ((Fr.get t).v s) = some (tmps.getD t undef)
theorem TRel.mono {G : Gh} {φ ψ : Mp} {s : Fr} {a : Array Value} (h : TRel G φ s a) (hφ : φ.le ψ) : TRel G ψ s a := fun t ht => conc_mono hφ (h t ht)

section
variable {G : Gh} {φ : Mp} {s : Fr} {a : Act}
theorem opn_ok (h : TRel G φ s a.tmps) {o : Operand} (ho : okOpn o = true) : conc G φ ((opn o).v s) = some (a.eval o) := by
  cases o with
  | tmp t =>
    have ht : t < 4096 := by have := ho; rw [okOpn, nblt] at this; exact of_decide_eq_true this
    exact h t ht
  | const v =>
    rw [okOpn] at ho
    cases hv : absV 4 v with
    | none => rw [hv] at ho; cases ho
    | some c =>
      simp only [opn, hv]
      exact absV_ok G φ 4 v c hv
  | global g => cases ho
  | func f =>
    show conc G φ (.func (.func f) [] []) = some (.func (.func f) #[] #[])
    rw [conc, concL_nil]
theorem opns_cons (o : Operand) (l : List Operand) : (opns (o :: l)).v s = (opn o).v s :: (opns l).v s := by
  show (((opns l).use fun g => (opn o).use fun f => ⟨fun s => f s :: g s⟩)).v s = _
  rw [Box.use_v, Box.use_v]
theorem opns_ok (h : TRel G φ s a.tmps) : ∀ {l : List Operand}, l.all okOpn = true → concL G φ ((opns l).v s) = some (l.map a.eval)
  | [], _ => concL_nil
  | o :: l, hl => by
    simp only [List.all_cons, Bool.and_eq_true] at hl
    rw [opns_cons]
    exact concL_cons.2 ⟨_, _, opn_ok h hl.1, opns_ok h hl.2, rfl⟩
end
end Go.Proofs.YtjpkfdmjhgnmbaaGreat.Gv
