/- Operations, third part: equality, and all operators of two values. -/
import Derived.Test.YtjpkfdmjhgnmbaaGreatGvOps2
import Derived.Laws.StructEq
namespace Go.Proofs.YtjpkfdmjhgnmbaaGreat.Gv
open Go

section
variable {E : Env} {P : Program} {G : Gh} {φ : Mp} {h h' : H} {w : World} {s : Fr} {a : Act} {v : V} {o : Oper}

theorem str_beq (x y : List UInt8) : ((⟨x.toArray⟩ : ByteArray) == ⟨y.toArray⟩) = decide (x = y) := by
  rw [beq_toListBytes, ByteArray.toList_eq, ByteArray.toList_eq]
  by_cases h : x = y
  · subst h; simp
  · rw [decide_eq_false h, beq_eq_false_iff_ne]; simpa using h

/-- What a test of two values says is what Go's '==' says at the type. -/
def EqOk (P : Program) (G : Gh) (q : Eqs) (n t : Nat) : Prop :=
  ∀ (φ : Mp) (w : World) (x y : V) (ux uy : Value) (b : Bool) (d : Nat), n ≤ d → q x y = some b → conc G φ x = some ux → conc G φ y = some uy → (Op.equalIn d t ux uy).run P w = .ok b w

theorem eqBool_ok {n t : Nat} (hu : P.underlying t = some .bool) : EqOk P G eqBool (n + 1) t := by
  intro φ w x y ux uy b d hd e hx hy
  obtain ⟨d, rfl⟩ : ∃ k, d = k + 1 := ⟨d - 1, by omega⟩
  unfold eqBool at e
  split at e
  · cases e
    rw [conc] at hx hy; cases hx; cases hy
    rw [run_equalIn_bool' w d t _ _ hu]
  · cases e
theorem eqStr_ok {n t : Nat} (hu : P.underlying t = some .string) : EqOk P G eqStr (n + 1) t := by
  intro φ w x y ux uy b d hd e hx hy
  obtain ⟨d, rfl⟩ : ∃ k, d = k + 1 := ⟨d - 1, by omega⟩
  unfold eqStr at e
  split at e
  · cases e
    rw [str_conc] at hx hy; cases hx; cases hy
    rw [run_equalIn_string w d t _ _ hu, ← beq_toListBytes, str_beq, strEq_ok]
  · cases e
theorem eqInt_val (ok : EnvOk E P G) {x y : V} {b : Bool} {ux uy : Value} (e : eqInt E x y = some b) (hx : conc G φ x = some ux) (hy : conc G φ y = some uy) :
    ∃ k m n, ux = .int k m ∧ uy = .int k n ∧ b = (m == n) := by
  unfold eqInt at e
  split at e
  · rename_i j m k n
    cases hk : sameK j k with
    | false => rw [hk] at e; cases e
    | true =>
      rw [hk] at e
      cases e
      have := sameK_ok hk
      subst this
      rw [conc] at hx hy; cases hx; cases hy
      refine ⟨_, _, _, rfl, rfl, ?_⟩
      rw [ieq_ok]
      by_cases hmn : m = n
      · subst hmn; simp
      · rw [decide_eq_false hmn, eq_comm, beq_eq_false_iff_ne]; exact hmn
  · split at e
    · rename_i j k z1 z2 hk1 hk2 hz1 hz2
      cases hk : sameK j k with
      | false => rw [hk] at e; cases e
      | true =>
        rw [hk, cond_true] at e
        have := sameK_ok hk
        subst this
        have c1 := int_conc (G := G) (φ := φ) hk1 hz1
        have c2 := int_conc (G := G) (φ := φ) hk2 hz2
        rw [hx] at c1; rw [hy] at c2
        cases c1; cases c2
        refine ⟨_, _, _, rfl, rfl, ?_⟩
        rw [symEq_ok ok e]
        by_cases hmn : LF.den G.σ z1 = LF.den G.σ z2
        · rw [hmn]; simp
        · rw [decide_eq_false hmn, eq_comm, beq_eq_false_iff_ne]; exact hmn
    · cases e
theorem eqInt_ok (ok : EnvOk E P G) {n t : Nat} {k : IntKind} (hu : P.underlying t = some (.int k)) : EqOk P G (eqInt E) (n + 1) t := by
  intro φ w x y ux uy b d hd e hx hy
  obtain ⟨d, rfl⟩ : ∃ k, d = k + 1 := ⟨d - 1, by omega⟩
  obtain ⟨k', m, n', rfl, rfl, rfl⟩ := eqInt_val ok e hx hy
  rw [run_equalIn_int w d t _ _ _ _ hu]

theorem partV_ok {u off : Nat} {l : List V} {us : List Value} {x : V} (hu : ∃ d, P.underlying u = some d) (hs : (mkTI P u).has = true) (hl : concL G φ l = some us)
    (e : (partV (mkTI P u) off).v l = some x) : ∃ ux, (part u us.toArray off).run P w = .ok ux w ∧ conc G φ x = some ux := by
  obtain ⟨d, hd⟩ := hu
  have ha := agg_ok hs (w := w) d hd
  obtain ⟨i, hi, hsz, _⟩ := has_ok hs
  unfold partV at e
  cases hg : (mkTI P u).agg with
  | true =>
    rw [hg] at e ha
    simp only [Box.use_v] at e
    cases e
    refine ⟨.agg (us.toArray.extract off (off + i.size)), ?_, ?_⟩
    · simp [part, ha, sizeOf, typeInfo, hi]
    · have key : concL G φ ((l.drop off).take (mkTI P u).size) = some ((us.drop off).take (mkTI P u).size) := by
        have hlen := concL_length hl
        refine concL_of_get (by simp [hlen]) ?_
        intro j z hj
        rw [List.getElem?_take] at hj
        split at hj
        · rename_i hlt
          rw [List.getElem?_drop] at hj
          obtain ⟨q, h1, h2⟩ := concL_get hl _ _ hj
          exact ⟨q, by rw [List.getElem?_take, if_pos hlt, List.getElem?_drop]; exact h1, h2⟩
        · cases hj
      have hh : (List.take (mkTI P u).size (List.drop off us)).toArray = us.toArray.extract off (off + i.size) := by
        apply Array.ext'
        rw [Array.toList_extract, List.extract_eq_take_drop, hsz]
        simp
      rw [conc, key, ← hh]
  | false =>
    rw [hg] at e ha
    obtain ⟨q, h1, h2⟩ := concL_get hl _ _ e
    refine ⟨q, ?_, h2⟩
    simp [part, ha, h1]

theorem eqFs_ok (ok : EnvOk E P G) {q : Nat → Option (Box Eqs)} {n : Nat} (hq : ∀ t r, q t = some r → EqOk P G r.v n t ∧ (mkTI P t).has = true) :
    ∀ (fs : List (Nat × Nat)) (r : Box (List V → List V → Option Bool)), eqFs E q fs = some r → ∀ (φ : Mp) (w : World) (l m : List V) (ul um : List Value) (b : Bool) (d : Nat), n ≤ d → r.v l m = some b →
      concL G φ l = some ul → concL G φ m = some um → ∀ (fa : List Field), fs = fa.map (fun f => (f.offset, f.type)) → (∀ f ∈ fa, f.name ≠ "_") → (Op.eqFields d ul.toArray um.toArray fa).run P w = .ok b w
  | [], r, e, φ, w, l, m, ul, um, b, d, hd, er, hl, hm, fa, hfa, hn => by
    cases e
    cases er
    cases fa with
    | nil => rfl
    | cons f fa => cases hfa
  | (off, u) :: fs, r, e, φ, w, l, m, ul, um, b, d, hd, er, hl, hm, fa, hfa, hn => by
    cases fa with
    | nil => cases hfa
    | cons f fa =>
      simp only [List.map_cons, List.cons.injEq, Prod.mk.injEq] at hfa
      obtain ⟨⟨rfl, rfl⟩, hfs⟩ := hfa
      change (match q f.type, eqFs E q fs with
        | some q, some r => some (q.use fun q => r.use fun r => (partV (E.tyOf f.type) f.offset).use fun p => ⟨fun l m => match p l, p m with
          | some a, some b => (match q a b with | some true => r l m | z => z)
          | _, _ => none⟩)
        | _, _ => none) = some r at e
      cases h1 : q f.type with
      | none => rw [h1] at e; cases e
      | some q1 =>
        cases h2 : eqFs E q fs with
        | none => rw [h1, h2] at e; cases e
        | some r1 =>
          rw [h1, h2] at e
          cases e
          obtain ⟨hq1, hhas⟩ := hq _ _ h1
          simp only [Box.use_v, ok.ty] at er
          cases p1 : (partV (mkTI P f.type) f.offset).v l with
          | none => rw [p1] at er; cases er
          | some x =>
            cases p2 : (partV (mkTI P f.type) f.offset).v m with
            | none => rw [p1, p2] at er; cases er
            | some y =>
              rw [p1, p2] at er
              obtain ⟨ux, rx, cx⟩ := partV_ok (w := w) (has_und hhas) hhas hl p1
              obtain ⟨uy, ry, cy⟩ := partV_ok (w := w) (has_und hhas) hhas hm p2
              dsimp only at er
              have hne : f.name ≠ "_" := hn f (by simp)
              cases hxy : q1.v x y with
              | none => rw [hxy] at er; cases er
              | some c =>
                have hrun := hq1 φ w x y ux uy c d hd hxy cx cy
                rw [hxy] at er
                cases c with
                | false =>
                  cases er
                  simp [Op.eqFields, hne, rx, ry, hrun]
                | true =>
                  have ih := eqFs_ok ok hq fs r1 h2 φ w l m ul um b d hd er hl hm fa hfs (fun f hf => hn f (by simp [hf]))
                  simp [Op.eqFields, hne, rx, ry, hrun, ih]

theorem run_equalIn_array {P : Program} (w : World) (d t len e : Nat) (i : TypeInfo) (xs ys : Array Value) (ht : P.underlying t = some (.array len e)) (hi : P.info? e = some i) (fa : List Field)
    (hfa : fa = (List.range len).map fun k => { name := "x", type := e, offset := k * i.size, embedded := false, tag := "", pkgPath := "", byteOffset := 0 }) :
    (Op.equalIn (d + 1) t (.agg xs) (.agg ys)).run P w = (Op.eqFields d xs ys fa).run P w := by
  simp only [Op.equalIn, Sem.run_bind, run_underlying ht, Result.andThen_ok, sizeOf, typeInfo, run_program, hi, Sem.run_pure]
  rw [Std.Legacy.Range.forIn_eq_forIn_range']
  have hr : List.range' [:len].start [:len].size [:len].step = List.range len := by
    rw [List.range_eq_range']; simp [Std.Legacy.Range.size]
  rw [hr]
  subst hfa
  generalize List.range len = ks
  clear ht hr
  induction ks generalizing w with
  | nil => simp [Op.eqFields]
  | cons k ks ih =>
    have hx : ("x" : String) ≠ "_" := by decide
    simp only [List.forIn_cons, List.map_cons, Op.eqFields, Sem.run_bind, if_pos hx]
    generalize (part e xs (k * i.size)).run P w = r1
    cases r1 with
    | ok a w1 =>
      simp only [Result.andThen_ok]
      generalize (part e ys (k * i.size)).run P w1 = r2
      cases r2 with
      | ok b w2 =>
        simp only [Result.andThen_ok]
        generalize (Op.equalIn d e a b).run P w2 = r3
        cases r3 with
        | ok r w3 =>
          cases r
          · simp only [Result.andThen_ok, Bool.not_false, if_true, Sem.run_pure]
          · simp only [Result.andThen_ok, Bool.not_true, Bool.false_eq_true, if_false, Sem.run_pure]
            exact ih w3
        | halt x w3 => simp [Result.andThen]
      | halt x w2 => simp [Result.andThen]
    | halt x w1 => simp [Result.andThen]

theorem aggE_ok {r : Option (Box (List V → List V → Option Bool))} {q : Box Eqs} {x y : V} {b : Bool} (e : aggE r = some q) (hq : q.v x y = some b) :
    ∃ r' l m, r = some r' ∧ x = .agg l ∧ y = .agg m ∧ r'.v l m = some b := by
  cases r with
  | none => cases e
  | some r =>
    cases e
    rw [Box.use_v] at hq
    cases x <;> first | cases hq | skip
    rename_i l
    cases y <;> first | cases hq | skip
    rename_i m
    exact ⟨r, l, m, rfl, rfl, rfl, hq⟩

theorem eqTy_succ (E : Env) (n t : Nat) : eqTy E (n + 1) t = (match (E.tyOf t).k with
    | .bool => some ⟨eqBool⟩
    | .int _ => some ⟨eqInt E⟩
    | .string => some ⟨eqStr⟩
    | .struct fs => bif (E.tyOf t).cmp then aggE (eqFs E (eqTy E n) fs) else none
    | .array m e => bif not (E.tyOf e).has then none else aggE (eqFs E (eqTy E n) ((List.range m).map fun i => (i * (E.tyOf e).size, e)))
    | _ => none) := rfl
theorem und_has {t : Nat} {d : TypeDesc} (h : P.underlying t = some d) : (mkTI P t).has = true := by
  cases hi : P.info? t with
  | none => unfold Program.underlying at h; rw [hi] at h; cases h
  | some i => unfold mkTI; rw [hi]; rw [h]; rfl

theorem eqTy_ok (ok : EnvOk E P G) : ∀ (n t : Nat) (q : Box Eqs), eqTy E n t = some q → EqOk P G q.v n t ∧ (mkTI P t).has = true
  | 0, t, q, e => by cases e
  | n + 1, t, q, e => by
    rw [eqTy_succ, ok.ty] at e
    split at e
    · rename_i hk
      cases e
      exact ⟨eqBool_ok (k_bool hk), und_has (k_bool hk)⟩
    · rename_i k hk
      cases e
      exact ⟨eqInt_ok ok (k_int hk), und_has (k_int hk)⟩
    · rename_i hk
      cases e
      exact ⟨eqStr_ok (k_string hk), und_has (k_string hk)⟩
    · rename_i fs hk
      obtain ⟨fa, hu, hfs⟩ := k_struct hk
      refine ⟨?_, und_has hu⟩
      cases hc : (mkTI P t).cmp with
      | false => rw [hc] at e; cases e
      | true =>
        rw [hc, cond_true] at e
        intro φ w x y ux uy b d hd hq hx hy
        obtain ⟨r, l, m, hr, rfl, rfl, hb⟩ := aggE_ok e hq
        obtain ⟨ul, hl, rfl⟩ := conc_agg hx
        obtain ⟨um, hm, rfl⟩ := conc_agg hy
        obtain ⟨d, rfl⟩ : ∃ k, d = k + 1 := ⟨d - 1, by omega⟩
        have hcmp : cmpOf P t = true := by
          unfold mkTI at hc
          cases hi : P.info? t with
          | none => rw [hi] at hc; cases hc
          | some i => rw [hi] at hc; exact hc
        unfold cmpOf at hcmp
        rw [hu] at hcmp
        simp only [Bool.and_eq_true, Bool.not_eq_true'] at hcmp
        have hft : P.fieldsOf t = fa := by unfold Program.fieldsOf; rw [hu]
        rw [run_equalIn_struct w d t _ _ (by rw [hft]; exact hu) hcmp.1, hft]
        refine eqFs_ok ok (n := n) (fun u z hz => eqTy_ok ok n u z hz) fs r hr φ w l m ul um b d (by omega) hb hl hm fa.toList hfs ?_
        intro f hf
        have := List.all_eq_true.1 hcmp.2 f hf
        simpa using this
    · rename_i m e' hk
      have hu := k_array hk
      refine ⟨?_, und_has hu⟩
      rw [ok.ty] at e
      cases hh : (mkTI P e').has with
      | false => rw [hh] at e; cases e
      | true =>
      rw [hh, Bool.not_true, cond_false] at e
      intro φ w x y ux uy b d hd hq hx hy
      obtain ⟨r, l, k, hr, rfl, rfl, hb⟩ := aggE_ok e hq
      obtain ⟨ul, hl, rfl⟩ := conc_agg hx
      obtain ⟨um, hm, rfl⟩ := conc_agg hy
      obtain ⟨d, rfl⟩ : ∃ k, d = k + 1 := ⟨d - 1, by omega⟩
      obtain ⟨i, hi, hsz, _⟩ := has_ok hh
      rw [run_equalIn_array w d t m e' i _ _ hu hi _ rfl]
      refine eqFs_ok ok (n := n) (fun u z hz => eqTy_ok ok n u z hz) _ r hr φ w l k ul um b d (by omega) hb hl hm _ ?_ ?_
      · simp [List.map_map, Function.comp_def, hsz]
      · intro f hf
        simp only [List.mem_map] at hf
        obtain ⟨z, _, rfl⟩ := hf
        show ("x" : String) ≠ "_"
        decide
    · cases e
end
end Go.Proofs.YtjpkfdmjhgnmbaaGreat.Gv
