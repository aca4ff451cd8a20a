/- Operations, second part: integers known and unknown, comparisons. -/
import Derived.Test.YtjpkfdmjhgnmbaaGreatGvOps1
namespace Go.Proofs.YtjpkfdmjhgnmbaaGreat.Gv
open Go

/-! ### integers -/
theorem ilt_ok (a b : Int) : ilt a b = decide (a < b) := by
  cases a with
  | ofNat m =>
    cases b with
    | ofNat n =>
      show Nat.blt m n = _
      rw [nblt]; apply decide_eq_decide.2; exact Int.ofNat_lt.symm
    | negSucc n =>
      show false = _
      rw [eq_comm, decide_eq_false_iff_not]; intro h; exact absurd h (by show ¬ ((m : Int) < Int.negSucc n); omega)
  | negSucc m =>
    cases b with
    | ofNat n =>
      show true = _
      rw [eq_comm, decide_eq_true_eq]; show Int.negSucc m < (n : Int); omega
    | negSucc n =>
      show Nat.blt n m = _
      rw [nblt]; apply decide_eq_decide.2; omega
theorem ieq_ok (a b : Int) : ieq a b = decide (a = b) := by
  cases a with
  | ofNat m =>
    cases b with
    | ofNat n =>
      show Nat.beq m n = _
      rw [nbeq]; apply decide_eq_decide.2; exact ⟨fun h => by rw [h], fun h => by injection h⟩
    | negSucc n => show false = _; rw [eq_comm, decide_eq_false_iff_not]; intro h; cases h
  | negSucc m =>
    cases b with
    | ofNat n => show false = _; rw [eq_comm, decide_eq_false_iff_not]; intro h; cases h
    | negSucc n =>
      show Nat.beq m n = _
      rw [nbeq]; apply decide_eq_decide.2; exact ⟨fun h => by rw [h], fun h => by injection h⟩
theorem wrapK_ok (k : IntKind) (n : Int) : wrapK k n = k.wrap n := by
  cases k with
  | i64 =>
    cases n with
    | ofNat m =>
      show (bif Nat.blt m 9223372036854775808 then Int.ofNat m else _) = _
      rw [nblt]
      by_cases h : m < 9223372036854775808
      · rw [decide_eq_true h, cond_true]; exact (IntWalk.i64_in (m : Int) (by constructor <;> omega)).symm
      · rw [decide_eq_false h, cond_false]
    | negSucc m =>
      show (bif Nat.blt m 9223372036854775808 then Int.negSucc m else _) = _
      rw [nblt]
      by_cases h : m < 9223372036854775808
      · rw [decide_eq_true h, cond_true, IntWalk.i64_in _ (by constructor <;> omega)]
      · rw [decide_eq_false h, cond_false]
  | _ => rfl
theorem sameK_ok {j k : IntKind} (h : sameK j k = true) : j = k := by
  unfold sameK at h
  rw [nbeq, decide_eq_true_eq] at h
  cases j <;> cases k <;> first | rfl | cases h
theorem same_ok {j k : IntKind} {r : RV} {v : V} {h' : H} (e : same j k r = .ok v h') : j = k ∧ r = .ok v h' := by
  obtain ⟨h, e⟩ := bif_ok e
  exact ⟨sameK_ok h, e⟩
theorem kWrap (k : IntKind) (n : Int) (h1 : kMin k ≤ n) (h2 : n ≤ kMax k) : k.wrap n = n := by
  cases k
  · exact IntWalk.i8_in _ ⟨h1, h2⟩
  · exact IntWalk.i16_in _ ⟨h1, h2⟩
  · exact IntWalk.i32_in _ ⟨h1, h2⟩
  · exact IntWalk.i64_in _ ⟨h1, h2⟩
  · exact IntWalk.u8_in _ ⟨h1, h2⟩
  · exact IntWalk.u16_in _ ⟨h1, h2⟩
  · exact IntWalk.u32_in _ ⟨h1, h2⟩
  · exact IntWalk.u64_in _ ⟨h1, h2⟩

/-! ### unknown integers -/
def LF.den (σ : Nat → Int) (x : LF) : Int := x.1 + Gv.den σ x.2
theorem den_put (σ : Nat → Int) (i : Nat) (a : Int) : ∀ m, den σ (addT.put i a m) = a * σ i + den σ m
  | [] => rfl
  | (j, b) :: m => by
    unfold addT.put
    by_cases h : i = j
    · subst h
      rw [if_pos rfl]
      by_cases h0 : a + b = 0
      · rw [if_pos h0]
        show den σ m = a * σ i + (b * σ i + den σ m)
        have : a * σ i + b * σ i = 0 := by rw [← Int.add_mul, h0, Int.zero_mul]
        omega
      · rw [if_neg h0]
        show (a + b) * σ i + den σ m = a * σ i + (b * σ i + den σ m)
        rw [Int.add_mul]; omega
    · rw [if_neg h]
      show b * σ j + den σ (addT.put i a m) = a * σ i + (b * σ j + den σ m)
      rw [den_put σ i a m]; omega
theorem den_addT (σ : Nat → Int) : ∀ l m, den σ (addT l m) = den σ l + den σ m
  | [], m => by show den σ m = 0 + den σ m; omega
  | (i, a) :: l, m => by
    show den σ (addT l (addT.put i a m)) = a * σ i + den σ l + den σ m
    rw [den_addT σ l, den_put]; omega
theorem den_scale (σ : Nat → Int) (c : Int) : ∀ l, den σ (scale c l) = c * den σ l
  | [] => by show (0 : Int) = c * 0; simp
  | (i, a) :: l => by
    show c * a * σ i + den σ (scale c l) = c * (a * σ i + den σ l)
    rw [den_scale σ c l, Int.mul_add, Int.mul_assoc]
theorem LF.den_add (σ : Nat → Int) (x y : LF) : (LF.add x y).den σ = x.den σ + y.den σ := by
  show x.1 + y.1 + Gv.den σ (addT x.2 y.2) = (x.1 + Gv.den σ x.2) + (y.1 + Gv.den σ y.2)
  rw [den_addT]; omega
theorem LF.den_sub (σ : Nat → Int) (x y : LF) : (LF.sub x y).den σ = x.den σ - y.den σ := by
  show x.1 - y.1 + Gv.den σ (addT (scale (-1) y.2) x.2) = (x.1 + Gv.den σ x.2) - (y.1 + Gv.den σ y.2)
  rw [den_addT, den_scale]; omega
section
variable {E : Env} {P : Program} {G : Gh} {φ : Mp} {h h' : H} {w : World} {s : Fr} {a : Act} {v : V} {o : Oper}
theorem least_ok (ok : EnvOk E P G) : ∀ (l : List (Nat × Int)) (r : Int), least E.bd l = some r → r ≤ den G.σ l
  | [], r, e => by cases e; exact Int.le_refl _
  | (i, c) :: l, r, e => by
    unfold least at e
    cases hb : E.bd[i]? with
    | none => rw [hb] at e; cases e
    | some p =>
      obtain ⟨lo, hi⟩ := p
      cases hl : least E.bd l with
      | none => rw [hb, hl] at e; cases e
      | some q =>
        rw [hb, hl] at e
        have e := (Option.some.inj e).symm
        subst e
        have ih := least_ok ok l q hl
        obtain ⟨h1, h2⟩ := ok.bd i lo hi hb
        show _ ≤ c * G.σ i + den G.σ l
        by_cases hc : c ≥ 0
        · rw [if_pos hc]; have := Int.mul_le_mul_of_nonneg_left h1 hc; omega
        · rw [if_neg hc]; have := Int.mul_le_mul_of_nonpos_left (a := c) (by omega) h2; omega
theorem known_ok (ok : EnvOk E P G) {x : LF} (e : known E x = true) : 0 ≤ x.den G.σ := by
  unfold known at e
  rw [Bool.or_eq_true] at e
  rcases e with e | e
  · cases hl : least E.bd x.2 with
    | none => rw [hl] at e; cases e
    | some r =>
      rw [hl] at e
      have := of_decide_eq_true e
      have := least_ok ok _ _ hl
      show 0 ≤ x.1 + den G.σ x.2
      omega
  · obtain ⟨f, hf, e⟩ := List.any_eq_true.1 e
    cases hl : least E.bd (LF.sub x f).2 with
    | none => rw [hl] at e; cases e
    | some r =>
      rw [hl] at e
      have h1 := of_decide_eq_true e
      have h2 := least_ok ok _ _ hl
      have h3 := ok.ge f hf
      have h4 : (LF.sub x f).1 + den G.σ (LF.sub x f).2 = x.den G.σ - LF.den G.σ f := LF.den_sub G.σ x f
      have h5 : LF.den G.σ f = f.1 + den G.σ f.2 := rfl
      omega
theorem symLt_ok (ok : EnvOk E P G) {x y : LF} {b : Bool} (e : symLt E x y = some b) : b = decide (x.den G.σ < y.den G.σ) := by
  unfold symLt at e
  split at e
  · rename_i hk
    cases e
    have := known_ok ok hk
    rw [LF.den_sub, LF.den_sub] at this
    have h1 : LF.den G.σ (1, []) = 1 := rfl
    rw [eq_comm, decide_eq_true_eq]; omega
  · split at e
    · rename_i hk
      cases e
      have := known_ok ok hk
      rw [LF.den_sub] at this
      rw [eq_comm, decide_eq_false_iff_not]; omega
    · cases e
theorem symEq_ok (ok : EnvOk E P G) {x y : LF} {b : Bool} (e : symEq E x y = some b) : b = decide (x.den G.σ = y.den G.σ) := by
  unfold symEq at e
  split at e
  · rename_i hk
    cases e
    rw [Bool.and_eq_true] at hk
    have h1 := known_ok ok hk.1
    have h2 := known_ok ok hk.2
    rw [LF.den_sub] at h1 h2
    rw [eq_comm, decide_eq_true_eq]; omega
  · split at e
    · rename_i hk
      cases e
      rw [Bool.or_eq_true] at hk
      have h1 : LF.den G.σ (1, []) = 1 := rfl
      rw [eq_comm, decide_eq_false_iff_not]
      rcases hk with hk | hk
      · have := known_ok ok hk
        rw [LF.den_sub, LF.den_sub] at this
        omega
      · have := known_ok ok hk
        rw [LF.den_sub, LF.den_sub] at this
        omega
    · cases e
theorem fits_ok (ok : EnvOk E P G) {k : IntKind} {x : LF} (e : fits E k x = true) : k.wrap (x.den G.σ) = x.den G.σ := by
  unfold fits at e
  rw [Bool.and_eq_true] at e
  have h1 := known_ok ok e.1
  have h2 := known_ok ok e.2
  rw [LF.den_sub] at h2
  have h3 : LF.den G.σ (x.1 - kMin k, x.2) = x.den G.σ - kMin k := by show x.1 - kMin k + den G.σ x.2 = x.1 + den G.σ x.2 - kMin k; omega
  have h4 : LF.den G.σ (kMax k, []) = kMax k := by show kMax k + 0 = _; omega
  exact kWrap k _ (by omega) (by omega)
theorem fits_rng (ok : EnvOk E P G) {k : IntKind} {x : LF} (e : fits E k x = true) : kMin k ≤ x.den G.σ ∧ x.den G.σ ≤ kMax k := by
  unfold fits at e
  rw [Bool.and_eq_true] at e
  have h1 := known_ok ok e.1
  have h2 := known_ok ok e.2
  rw [LF.den_sub] at h2
  have h3 : LF.den G.σ (x.1 - kMin k, x.2) = x.den G.σ - kMin k := by show x.1 - kMin k + den G.σ x.2 = x.1 + den G.σ x.2 - kMin k; omega
  have h4 : LF.den G.σ (kMax k, []) = kMax k := by show kMax k + 0 = _; omega
  exact ⟨by omega, by omega⟩
theorem int_conc {x : V} {k : IntKind} {z : LF} (hk : kOf x = some k) (hz : asLF x = some z) : conc G φ x = some (.int k (z.den G.σ)) := by
  cases x <;> first | cases hk | skip
  · cases hz; rw [conc]; show some (Value.int _ _) = some (Value.int _ (_ + 0)); rw [Int.add_zero]
  · cases hz; rw [conc]; rfl
theorem ofLF_conc (k : IntKind) (z : LF) : conc G φ (ofLF k z) = some (.int k (z.den G.σ)) := by
  unfold ofLF
  split
  · rename_i h
    rw [conc]; show some (Value.int k z.1) = some (Value.int k (z.1 + den G.σ z.2)); rw [h]; show some (Value.int k z.1) = some (Value.int k (z.1 + 0)); rw [Int.add_zero]
  · rw [conc]; rfl

/-- What '==' and '!=' ask first is nothing where neither value is an interface's nil, nor struct nor array. -/
theorem eqGuard_ok {op : BinOp} {t : Nat} {ox oy : Operand} {x y : Value} (hx : x ≠ .nilIface) (ha : ∀ c, x ≠ .agg c) : (eqGuard op t ox oy x y).run P w = .ok () w := by
  unfold eqGuard
  cases op <;> simp
  all_goals
    cases x <;> first | rfl | exact absurd rfl hx | exact absurd rfl (ha _)

/-- The answer of an operation on two values that leaves memory alone. -/
def Bin (P : Program) (G : Gh) (φ : Mp) (h : H) (w : World) (op : BinOp) (t : Nat) (ox oy : Operand) (x y : Value) (v : V) (h' : H) : Prop :=
  h' = h ∧ ∃ u, (do eqGuard op t ox oy x y; binOp op t x y : Sem Value).run P w = .ok u w ∧ conc G φ v = some u
theorem Bin.mk {op : BinOp} {t : Nat} {ox oy : Operand} {x y u : Value} (hx : x ≠ .nilIface) (ha : ∀ c, x ≠ .agg c) (hr : (binOp op t x y).run P w = .ok u w) (hv : conc G φ v = some u) (hh : h' = h) :
    Bin P G φ h w op t ox oy x y v h' :=
  ⟨hh, u, by rw [Sem.run_bind, eqGuard_ok hx ha]; exact hr, hv⟩
theorem Bin.int {op : BinOp} {t : Nat} {ox oy : Operand} {k : IntKind} {m n : Int} {u : Value} (hr : (binOp op t (.int k m) (.int k n)).run P w = .ok u w) (hv : conc G φ v = some u) (hh : h' = h) :
    Bin P G φ h w op t ox oy (.int k m) (.int k n) v h' := Bin.mk (by simp) (by simp) hr hv hh
theorem str_conc (n x : Nat) : conc G φ (.str n x) = some (.string ⟨(strL n x).toArray⟩) := by rw [conc]
theorem bool_conc (b : Bool) : conc G φ (.bool b) = some (.bool b) := by rw [conc]
theorem iint_conc (k : IntKind) (n : Int) : conc G φ (.int k n) = some (.int k n) := by rw [conc]
theorem Bin.str {op : BinOp} {t : Nat} {ox oy : Operand} {x y : ByteArray} {u : Value} (hr : (binOp op t (.string x) (.string y)).run P w = .ok u w) (hv : conc G φ v = some u) (hh : h' = h) :
    Bin P G φ h w op t ox oy (.string x) (.string y) v h' := Bin.mk (by simp) (by simp) hr hv hh

theorem sameT_eq : ∀ {l m : List (Nat × Int)}, sameT l m = true → l = m
  | [], [], _ => rfl
  | [], _ :: _, e => by cases e
  | _ :: _, [], e => by cases e
  | (i, a) :: l, (j, b) :: m, e => by
    unfold sameT at e
    rw [Bool.and_eq_true, Bool.and_eq_true, nbeq, decide_eq_true_eq, decide_eq_true_eq] at e
    rw [e.1.1, e.1.2, sameT_eq e.2]
theorem sameLF_eq {x y : LF} (e : sameLF x y = true) : x = y := by
  unfold sameLF at e
  rw [Bool.and_eq_true, decide_eq_true_eq] at e
  exact Prod.ext e.1 (sameT_eq e.2)
theorem findNl_ok {c : Nat} {k : IntKind} {x y : LF} {i : Nat} : ∀ {l : List NL}, findNl c k x y l = some i → ∃ n ∈ l, n.op = c ∧ n.k = k ∧ n.x = x ∧ n.y = y ∧ n.i = i
  | [], e => by cases e
  | n :: l, e => by
    unfold findNl at e
    cases hc : (Nat.beq c n.op && sameK k n.k && sameLF x n.x && sameLF y n.y) with
    | false =>
      rw [hc, cond_false] at e
      obtain ⟨m, hm, h⟩ := findNl_ok e
      exact ⟨m, List.mem_cons_of_mem _ hm, h⟩
    | true =>
      rw [hc, cond_true] at e
      cases e
      simp only [Bool.and_eq_true, nbeq, decide_eq_true_eq] at hc
      obtain ⟨⟨⟨h1, h2⟩, h3⟩, h4⟩ := hc
      exact ⟨n, List.mem_cons_self .., h1.symm, (sameK_ok h2).symm, (sameLF_eq h3).symm, (sameLF_eq h4).symm, rfl⟩

theorem symBin_ok (ok : EnvOk E P G) {op : BinOp} {t : Nat} {ox oy : Operand} {x y : V} {ux uy : Value} (hx : conc G φ x = some ux) (hy : conc G φ y = some uy)
    (e : symBin E op x y h = .ok v h') : Bin P G φ h w op t ox oy ux uy v h' := by
  unfold symBin at e
  split at e
  · rename_i k k' z1 z2 hk hk' hz1 hz2
    obtain ⟨hkk, e'⟩ := same_ok e
    clear e
    subst hkk
    have e := e'
    clear e'
    have c1 := int_conc (G := G) (φ := φ) hk hz1
    have c2 := int_conc (G := G) (φ := φ) hk' hz2
    rw [hx] at c1; rw [hy] at c2
    cases c1; cases c2
    have nm : ∀ z : LF, symNm E k z h = .ok v h' → h' = h ∧ conc G φ v = some (.int k (z.den G.σ)) ∧ k.wrap (z.den G.σ) = z.den G.σ := by
      intro z e
      obtain ⟨hf, e⟩ := bif_ok e
      cases e
      exact ⟨rfl, ofLF_conc k z, fits_ok ok hf⟩
    have bl : ∀ (o : Option Bool) (f : Bool → Bool), symBl o f h = .ok v h' → ∃ b, o = some b ∧ h' = h ∧ v = .bool (f b) := by
      intro o f e
      cases o with
      | none => cases e
      | some b => cases e; exact ⟨b, rfl, rfl, rfl⟩
    have nlv : ∀ i, conc G φ (.sint k 0 [(i, 1)]) = some (.int k (G.σ i)) := by
      intro i
      rw [conc]
      simp [den]
    have nl : ∀ c, nlF E c k z1 z2 h = .ok v h' → ∃ i, h' = h ∧ v = .sint k 0 [(i, 1)] ∧ NLOk G ⟨c, k, z1, z2, i⟩ := by
      intro c e
      unfold nlF at e
      cases hf : findNl c k z1 z2 E.nl with
      | none => rw [hf] at e; cases e
      | some i =>
        rw [hf] at e
        cases e
        obtain ⟨n, hn, rfl, rfl, rfl, rfl, rfl⟩ := findNl_ok hf
        exact ⟨_, rfl, rfl, ok.nl n hn⟩
    cases op with
    | add =>
      obtain ⟨hh, hv, hw⟩ := nm _ e
      rw [LF.den_add] at hw hv
      exact Bin.int (by simp [binOp, Op.intArith, hw]) hv hh
    | sub =>
      obtain ⟨hh, hv, hw⟩ := nm _ e
      rw [LF.den_sub] at hw hv
      exact Bin.int (by simp [binOp, Op.intArith, hw]) hv hh
    | mul =>
      obtain ⟨c1, l1⟩ := z1
      obtain ⟨c2, l2⟩ := z2
      cases l1 with
      | nil =>
        obtain ⟨hh, hv, hw⟩ := nm _ e
        have : LF.den G.σ (c1 * c2, scale c1 l2) = LF.den G.σ (c1, []) * LF.den G.σ (c2, l2) := by
          show c1 * c2 + den G.σ (scale c1 l2) = (c1 + 0) * (c2 + den G.σ l2)
          rw [den_scale, Int.add_zero, Int.mul_add]
        dsimp only at hv hw
        rw [this] at hw hv
        exact Bin.int (by simp [binOp, Op.intArith, hw]) hv hh
      | cons p l1 =>
        cases l2 with
        | nil =>
          obtain ⟨hh, hv, hw⟩ := nm _ e
          have : LF.den G.σ (c2 * c1, scale c2 (p :: l1)) = LF.den G.σ (c1, p :: l1) * LF.den G.σ (c2, []) := by
            show c2 * c1 + den G.σ (scale c2 (p :: l1)) = (c1 + den G.σ (p :: l1)) * (c2 + 0)
            rw [den_scale, Int.add_zero, Int.add_mul, Int.mul_comm c2 c1, Int.mul_comm c2]
          dsimp only at hv hw
          rw [this] at hw hv
          exact Bin.int (by simp [binOp, Op.intArith, hw]) hv hh
        | cons q l2 =>
          obtain ⟨i, hh, rfl, hn⟩ := nl 0 e
          refine Bin.int (u := .int k (G.σ i)) ?_ (nlv i) hh
          rcases hn with ⟨_, hw⟩ | ⟨h0, _⟩ | ⟨h0, _⟩
          · have hw' : k.wrap (LF.den G.σ (c1, p :: l1) * LF.den G.σ (c2, q :: l2)) = G.σ i := hw
            simp [binOp, Op.intArith, hw']
          · cases h0
          · cases h0
    | quo =>
      obtain ⟨i, hh, rfl, hn⟩ := nl 1 e
      refine Bin.int (u := .int k (G.σ i)) ?_ (nlv i) hh
      rcases hn with ⟨h0, _⟩ | ⟨_, hy0, hw⟩ | ⟨h0, _⟩
      · cases h0
      · have hy0' : LF.den G.σ z2 ≠ 0 := hy0
        have hw' : k.wrap ((LF.den G.σ z1).tdiv (LF.den G.σ z2)) = G.σ i := hw
        simp [binOp, Op.intDiv, hy0', hw']
      · cases h0
    | rem =>
      dsimp only at e
      split at e
      · cases e
        have : LF.den G.σ ((Int.ofNat 1, []) : LF) = 1 := rfl
        refine Bin.int (u := .int k 0) ?_ (iint_conc _ _) rfl
        rw [this]
        simp [binOp, Op.intDiv]
      · obtain ⟨i, hh, rfl, hn⟩ := nl 2 e
        refine Bin.int (u := .int k (G.σ i)) ?_ (nlv i) hh
        rcases hn with ⟨h0, _⟩ | ⟨h0, _⟩ | ⟨_, hy0, hw⟩
        · cases h0
        · cases h0
        · have hy0' : LF.den G.σ z2 ≠ 0 := hy0
          have hw' : (LF.den G.σ z1).tmod (LF.den G.σ z2) = G.σ i := hw
          simp [binOp, Op.intDiv, hy0', hw']
    | lss =>
      obtain ⟨b, hb, rfl, rfl⟩ := bl _ _ e
      have := symLt_ok ok hb
      exact Bin.int (by simp [binOp, Op.intCmp, this]) (bool_conc _) rfl
    | gtr =>
      obtain ⟨b, hb, rfl, rfl⟩ := bl _ _ e
      have := symLt_ok ok hb
      exact Bin.int (by simp [binOp, Op.intCmp, this]) (bool_conc _) rfl
    | leq =>
      obtain ⟨b, hb, rfl, rfl⟩ := bl _ _ e
      have := symLt_ok ok hb
      refine Bin.int (by simp [binOp, Op.intCmp]; rfl) ((bool_conc _).trans ?_) rfl
      rw [this, ← decide_not, decide_eq_decide.2 Int.not_lt]
    | geq =>
      obtain ⟨b, hb, rfl, rfl⟩ := bl _ _ e
      have := symLt_ok ok hb
      refine Bin.int (by simp [binOp, Op.intCmp]; rfl) ((bool_conc _).trans ?_) rfl
      rw [this, ← decide_not, decide_eq_decide.2 Int.not_lt]
    | _ => cases e
  · cases e
end
end Go.Proofs.YtjpkfdmjhgnmbaaGreat.Gv
