/- Operations, third part: equality, and all operators of two values. -/
import Derived.Test.YtmfmjhklajmhoaaGreatGvOps2
import Derived.Laws.StructEq
namespace Go.Proofs.YtmfmjhklajmhoaaGreat.Gv
open Go
section
variable {E : Env} {P : Program} {G : Gh} {φ : Mp} {h h' : H} {w : World} {s : Fr} {a : Act} {v : V} {o : Oper}
theorem str_beq (x y : List UInt8) : ((⟨x.toArray⟩ : ByteArray) == ⟨y.toArray⟩) = decide (x = y) := by
 rw [beq_toListBytes, ByteArray.toList_eq, ByteArray.toList_eq]
 by_cases h : x = y
 · subst h; simp
 · rw [decide_eq_false h, beq_eq_false_iff_ne]; simpa using h
def EqOk (P : Program) (G : Gh) (q : Eqs) (n t : Nat) : Prop :=
 ∀ (φ : Mp) (w : World) (x y : V) (ux uy : Value) (b : Bool) (d : Nat), n ≤ d → q x y = some b → conc G φ x = some ux → conc G φ y = some uy → (Op.equalIn d t ux uy).run P w = .ok b w
theorem eqBool_ok {n t : Nat} (hu : P.underlying t = some .bool) : EqOk P G eqBool (n + 1) t := by
 intro φ w x y ux uy b d hd e hx hy
 obtain ⟨d, rfl⟩ : ∃ k, d = k + 1 := ⟨d - 1, by omega⟩
 unfold eqBool at e
 split at e
 · cases e
   rw [conc] at hx hy; cases hx; cases hy
   rw [run_equalIn_bool' w d t _ _ hu]
 · cases e
theorem bif_some {α : Type} {c : Bool} {x y : α} (e : (bif c then some x else none) = some y) : c = true ∧ x = y := by
 cases c with
 | false => cases e
 | true => exact ⟨rfl, Option.some.inj e⟩
theorem txLen_ok {i : Nat} {x : LF} : ∀ {l : List NL}, txLen i l = some x → ∃ n ∈ l, n.op = 30 ∧ n.i = i ∧ n.x = x
 | [], e => by cases e
 | n :: l, e => by
   have e : (bif Nat.beq n.op 30 && Nat.beq n.i i then some n.x else txLen i l) = some x := e
   cases hc : (Nat.beq n.op 30 && Nat.beq n.i i) with
   | true =>
     rw [hc, cond_true] at e
     simp only [Bool.and_eq_true, nbeq, decide_eq_true_eq] at hc
     exact ⟨n, by simp, hc.1, hc.2, Option.some.inj e⟩
   | false =>
     rw [hc, cond_false] at e
     obtain ⟨m, hm, h⟩ := txLen_ok e
     exact ⟨m, by simp [hm], h⟩
theorem notTx_ok {i n v : Nat} : ∀ {l : List NL}, notTx i n v l = true → ∃ e ∈ l, e.op = 31 ∧ e.i = i ∧ e.x.1 = n ∧ e.y.1 = v
 | [], e => by cases e
 | x :: l, e => by
   have e : (bif Nat.beq x.op 31 && (Nat.beq x.i i && (ieq x.x.1 (Int.ofNat n) && ieq x.y.1 (Int.ofNat v))) then true else notTx i n v l) = true := e
   cases hc : (Nat.beq x.op 31 && (Nat.beq x.i i && (ieq x.x.1 (Int.ofNat n) && ieq x.y.1 (Int.ofNat v)))) with
   | true =>
     simp only [Bool.and_eq_true, nbeq, decide_eq_true_eq, ieq_ok] at hc
     exact ⟨x, by simp, hc.1, hc.2.1, hc.2.2.1, hc.2.2.2⟩
   | false =>
     rw [hc, cond_false] at e
     obtain ⟨m, hm, h⟩ := notTx_ok e
     exact ⟨m, by simp [hm], h⟩
theorem nlMore_at {n : NL} (h : NLOk G n) (h1 : n.op = 30 ∨ n.op = 31) : nlMore G n := by
 rcases h with ⟨h0, _⟩ | ⟨h0, _⟩ | ⟨h0, _⟩ | h
 · rw [h0] at h1; omega
 · rw [h0] at h1; omega
 · rw [h0] at h1; omega
 · exact h
theorem txLen_at (ok : EnvOk E P G) {i : Nat} {x : LF} (e : txLen i E.nl = some x) : ∃ s : ByteArray, G.ε i = .string s ∧ (s.size : Int) = x.1 + den G.σ x.2 := by
 obtain ⟨n, hn, h1, rfl, rfl⟩ := txLen_ok e
 have := nlMore_at (ok.nl n hn) (.inl h1)
 unfold nlMore at this
 rw [h1] at this
 exact this
theorem notTx_at (ok : EnvOk E P G) {i n v : Nat} (e : notTx i n v E.nl = true) : ∃ s : ByteArray, G.ε i = .string s ∧ s.data.toList ≠ strL n v := by
 obtain ⟨x, hx, h1, rfl, h3, h4⟩ := notTx_ok e
 have := nlMore_at (ok.nl x hx) (.inr h1)
 unfold nlMore at this
 rw [h1] at this
 obtain ⟨s, hs, hne⟩ := this
 refine ⟨s, hs, ?_⟩
 rw [h3, h4] at hne
 exact hne
theorem eqStr_val (ok : EnvOk E P G) {x y : V} {b : Bool} {ux uy : Value} (e : eqStr E x y = some b) (hx : conc G φ x = some ux) (hy : conc G φ y = some uy) :
 ∃ s t : ByteArray, ux = .string s ∧ uy = .string t ∧ b = decide (s.data.toList = t.data.toList) := by
 unfold eqStr at e
 split at e
 · rename_i n a
   split at e
   · rename_i m c
     cases e
     rw [str_conc] at hx hy; cases hx; cases hy
     exact ⟨_, _, rfl, rfl, strEq_ok _ _ _ _⟩
   · rename_i i
     obtain ⟨h1, h2⟩ := bif_some e
     obtain ⟨s, hs, hne⟩ := notTx_at ok h1
     cases h2
     rw [str_conc] at hx; cases hx
     rw [conc, hs] at hy; cases hy
     exact ⟨_, _, rfl, rfl, (decide_eq_false (fun h => hne h.symm)).symm⟩
   · cases e
 · rename_i i
   split at e
   · rename_i n a
     obtain ⟨h1, h2⟩ := bif_some e
     obtain ⟨s, hs, hne⟩ := notTx_at ok h1
     cases h2
     rw [str_conc] at hy; cases hy
     rw [conc, hs] at hx; cases hx
     exact ⟨_, _, rfl, rfl, (decide_eq_false (fun h => hne h)).symm⟩
   · rename_i j
     cases h1 : Nat.beq i j with
     | false => rw [h1] at e; cases e
     | true =>
     rw [h1, cond_true] at e
     rw [nbeq, decide_eq_true_eq] at h1
     subst h1
     split at e
     · rename_i z hz
       cases e
       obtain ⟨s, hs, _⟩ := txLen_at ok hz
       rw [conc, hs] at hx hy; cases hx; cases hy
       exact ⟨_, _, rfl, rfl, (decide_eq_true rfl).symm⟩
     · cases e
   · cases e
 · cases e
theorem eqStr_ok (ok : EnvOk E P G) {n t : Nat} (hu : P.underlying t = some .string) : EqOk P G (eqStr E) (n + 1) t := by
 intro φ w x y ux uy b d hd e hx hy
 obtain ⟨d, rfl⟩ : ∃ k, d = k + 1 := ⟨d - 1, by omega⟩
 obtain ⟨s, t', rfl, rfl, rfl⟩ := eqStr_val ok e hx hy
 rw [run_equalIn_string w d t _ _ hu, ← beq_toListBytes]
 have := str_beq s.data.toList t'.data.toList
 simp only [Array.toArray_toList] at this
 rw [← this]
theorem eqInt_val (ok : EnvOk E P G) {x y : V} {b : Bool} {ux uy : Value} (e : eqInt E x y = some b) (hx : conc G φ x = some ux) (hy : conc G φ y = some uy) :
 ∃ k m n, ux = .int k m ∧ uy = .int k n ∧ b = (m == n) := by
 unfold eqInt at e
 split at e
 · rename_i j m k n
   cases hk : sameK j k with
   | false => rw [hk] at e; cases e
   | true =>
     rw [hk] at e
     cases e
     have := sameK_ok hk
     subst this
     rw [conc] at hx hy; cases hx; cases hy
     refine ⟨_, _, _, rfl, rfl, ?_⟩
     rw [ieq_ok]
     by_cases hmn : m = n
     · subst hmn; simp
     · rw [decide_eq_false hmn, eq_comm, beq_eq_false_iff_ne]; exact hmn
 · split at e
   · rename_i j k z1 z2 hk1 hk2 hz1 hz2
     cases hk : sameK j k with
     | false => rw [hk] at e; cases e
     | true =>
       rw [hk, cond_true] at e
       have := sameK_ok hk
       subst this
       have c1 := int_conc (G := G) (φ := φ) hk1 hz1
       have c2 := int_conc (G := G) (φ := φ) hk2 hz2
       rw [hx] at c1; rw [hy] at c2
       cases c1; cases c2
       refine ⟨_, _, _, rfl, rfl, ?_⟩
       rw [symEq_ok ok e]
       by_cases hmn : LF.den G.σ z1 = LF.den G.σ z2
       · rw [hmn]; simp
       · rw [decide_eq_false hmn, eq_comm, beq_eq_false_iff_ne]; exact hmn
   · cases e
theorem eqInt_ok (ok : EnvOk E P G) {n t : Nat} {k : IntKind} (hu : P.underlying t = some (.int k)) : EqOk P G (eqInt E) (n + 1) t := by
 intro φ w x y ux uy b d hd e hx hy
 obtain ⟨d, rfl⟩ : ∃ k, d = k + 1 := ⟨d - 1, by omega⟩
 obtain ⟨k', m, n', rfl, rfl, rfl⟩ := eqInt_val ok e hx hy
 rw [run_equalIn_int w d t _ _ _ _ hu]
theorem partV_ok {u off : Nat} {l : List V} {us : List Value} {x : V} (hu : ∃ d, P.underlying u = some d) (hs : (mkTI P u).has = true) (hl : concL G φ l = some us)
 (e : (partV (mkTI P u) off).v l = some x) : ∃ ux, (part u us.toArray off).run P w = .ok ux w ∧ conc G φ x = some ux := by
 obtain ⟨d, hd⟩ := hu
 have ha := agg_ok hs (w := w) d hd
 obtain ⟨i, hi, hsz, _⟩ := has_ok hs
 unfold partV at e
 cases hg : (mkTI P u).agg with
 | true =>
   rw [hg] at e ha
   simp only [Box.use_v] at e
   cases e
   refine ⟨.agg (us.toArray.extract off (off + i.size)), ?_, ?_⟩
   · simp [part, ha, sizeOf, typeInfo, hi]
   · have key : concL G φ ((l.drop off).take (mkTI P u).size) = some ((us.drop off).take (mkTI P u).size) := by
      have hlen := concL_length hl
      refine concL_of_get (by simp [hlen]) ?_
      intro j z hj
      rw [List.getElem?_take] at hj
      split at hj
      · rename_i hlt
        rw [List.getElem?_drop] at hj
        obtain ⟨q, h1, h2⟩ := concL_get hl _ _ hj
        exact ⟨q, by rw [List.getElem?_take, if_pos hlt, List.getElem?_drop]; exact h1, h2⟩
      · cases hj
     have hh : (List.take (mkTI P u).size (List.drop off us)).toArray = us.toArray.extract off (off + i.size) := by
      apply Array.ext'
      rw [Array.toList_extract, List.extract_eq_take_drop, hsz]
      simp
     rw [conc, key, ← hh]
 | false =>
   rw [hg] at e ha
   obtain ⟨q, h1, h2⟩ := concL_get hl _ _ e
   refine ⟨q, ?_, h2⟩
   simp [part, ha, h1]
theorem eqFs_ok (ok : EnvOk E P G) {q : Nat → Option (Box Eqs)} {n : Nat} (hq : ∀ t r, q t = some r → EqOk P G r.v n t ∧ (mkTI P t).has = true) :
 ∀ (fs : List (Nat × Nat)) (r : Box (List V → List V → Option Bool)), eqFs E q fs = some r → ∀ (φ : Mp) (w : World) (l m : List V) (ul um : List Value) (b : Bool) (d : Nat), n ≤ d → r.v l m = some b →
  concL G φ l = some ul → concL G φ m = some um → ∀ (fa : List Field), fs = fa.map (fun f => (f.offset, f.type)) → (∀ f ∈ fa, f.name ≠ "_") → (Op.eqFields d ul.toArray um.toArray fa).run P w = .ok b w
 | [], r, e, φ, w, l, m, ul, um, b, d, hd, er, hl, hm, fa, hfa, hn => by
   cases e
   cases er
   cases fa with
   | nil => rfl
   | cons f fa => cases hfa
 | (off, u) :: fs, r, e, φ, w, l, m, ul, um, b, d, hd, er, hl, hm, fa, hfa, hn => by
   cases fa with
   | nil => cases hfa
   | cons f fa =>
     simp only [List.map_cons, List.cons.injEq, Prod.mk.injEq] at hfa
     obtain ⟨⟨rfl, rfl⟩, hfs⟩ := hfa
     change (match q f.type, eqFs E q fs with
      | some q, some r => some (q.use fun q => r.use fun r => (partV (E.tyOf f.type) f.offset).use fun p => ⟨fun l m => match p l, p m with
        | some a, some b => (match q a b with | some true => r l m | z => z)
        | _, _ => none⟩)
      | _, _ => none) = some r at e
     cases h1 : q f.type with
     | none => rw [h1] at e; cases e
     | some q1 =>
       cases h2 : eqFs E q fs with
       | none => rw [h1, h2] at e; cases e
       | some r1 =>
         rw [h1, h2] at e
         cases e
         obtain ⟨hq1, hhas⟩ := hq _ _ h1
         simp only [Box.use_v, ok.ty] at er
         cases p1 : (partV (mkTI P f.type) f.offset).v l with
         | none => rw [p1] at er; cases er
         | some x =>
           cases p2 : (partV (mkTI P f.type) f.offset).v m with
           | none => rw [p1, p2] at er; cases er
           | some y =>
             rw [p1, p2] at er
             obtain ⟨ux, rx, cx⟩ := partV_ok (w := w) (has_und hhas) hhas hl p1
             obtain ⟨uy, ry, cy⟩ := partV_ok (w := w) (has_und hhas) hhas hm p2
             dsimp only at er
             have hne : f.name ≠ "_" := hn f (by simp)
             cases hxy : q1.v x y with
             | none => rw [hxy] at er; cases er
             | some c =>
               have hrun := hq1 φ w x y ux uy c d hd hxy cx cy
               rw [hxy] at er
               cases c with
               | false =>
                 cases er
                 simp [Op.eqFields, hne, rx, ry, hrun]
               | true =>
                 have ih := eqFs_ok ok hq fs r1 h2 φ w l m ul um b d hd er hl hm fa hfs (fun f hf => hn f (by simp [hf]))
                 simp [Op.eqFields, hne, rx, ry, hrun, ih]
theorem run_equalIn_array {P : Program} (w : World) (d t len e : Nat) (i : TypeInfo) (xs ys : Array Value) (ht : P.underlying t = some (.array len e)) (hi : P.info? e = some i) (fa : List Field)
 (hfa : fa = (List.range len).map fun k => { name := "x", type := e, offset := k * i.size, embedded := false, tag := "", pkgPath := "", byteOffset := 0 }) :
 (Op.equalIn (d + 1) t (.agg xs) (.agg ys)).run P w = (Op.eqFields d xs ys fa).run P w := by
 simp only [Op.equalIn, Sem.run_bind, run_underlying ht, Result.andThen_ok, sizeOf, typeInfo, run_program, hi, Sem.run_pure]
 rw [Std.Legacy.Range.forIn_eq_forIn_range']
 have hr : List.range' [:len].start [:len].size [:len].step = List.range len := by
  rw [List.range_eq_range']; simp [Std.Legacy.Range.size]
 rw [hr]
 subst hfa
 generalize List.range len = ks
 clear ht hr
 induction ks generalizing w with
 | nil => simp [Op.eqFields]
 | cons k ks ih =>
   have hx : ("x" : String) ≠ "_" := by decide
   simp only [List.forIn_cons, List.map_cons, Op.eqFields, Sem.run_bind, if_pos hx]
   generalize (part e xs (k * i.size)).run P w = r1
   cases r1 with
   | ok a w1 =>
     simp only [Result.andThen_ok]
     generalize (part e ys (k * i.size)).run P w1 = r2
     cases r2 with
     | ok b w2 =>
       simp only [Result.andThen_ok]
       generalize (Op.equalIn d e a b).run P w2 = r3
       cases r3 with
       | ok r w3 =>
         cases r
         · simp only [Result.andThen_ok, Bool.not_false, if_true, Sem.run_pure]
         · simp only [Result.andThen_ok, Bool.not_true, Bool.false_eq_true, if_false, Sem.run_pure]
           exact ih w3
       | halt x w3 => simp [Result.andThen]
     | halt x w2 => simp [Result.andThen]
   | halt x w1 => simp [Result.andThen]
theorem aggE_ok {r : Option (Box (List V → List V → Option Bool))} {q : Box Eqs} {x y : V} {b : Bool} (e : aggE r = some q) (hq : q.v x y = some b) :
 ∃ r' l m, r = some r' ∧ x = .agg l ∧ y = .agg m ∧ r'.v l m = some b := by
 cases r with
 | none => cases e
 | some r =>
   cases e
   rw [Box.use_v] at hq
   cases x <;> first | cases hq | skip
   rename_i l
   cases y <;> first | cases hq | skip
   rename_i m
   exact ⟨r, l, m, rfl, rfl, rfl, hq⟩
theorem eqTy_succ (E : Env) (n t : Nat) : eqTy E (n + 1) t = (match (E.tyOf t).k with
 | .bool => some ⟨eqBool⟩
 | .int _ => some ⟨eqInt E⟩
 | .string => some ⟨eqStr E⟩
 | .struct fs => bif (E.tyOf t).cmp then aggE (eqFs E (eqTy E n) fs) else none
 | .array m e => bif not (E.tyOf e).has then none else aggE (eqFs E (eqTy E n) ((List.range m).map fun i => (i * (E.tyOf e).size, e)))
 | _ => none) := rfl
theorem und_has {t : Nat} {d : TypeDesc} (h : P.underlying t = some d) : (mkTI P t).has = true := by
 cases hi : P.info? t with
 | none => unfold Program.underlying at h; rw [hi] at h; cases h
 | some i => unfold mkTI; rw [hi]; rw [h]; rfl
theorem eqTy_ok (ok : EnvOk E P G) : ∀ (n t : Nat) (q : Box Eqs), eqTy E n t = some q → EqOk P G q.v n t ∧ (mkTI P t).has = true
 | 0, t, q, e => by cases e
 | n + 1, t, q, e => by
   rw [eqTy_succ, ok.ty] at e
   split at e
   · rename_i hk
     cases e
     exact ⟨eqBool_ok (k_bool hk), und_has (k_bool hk)⟩
   · rename_i k hk
     cases e
     exact ⟨eqInt_ok ok (k_int hk), und_has (k_int hk)⟩
   · rename_i hk
     cases e
     exact ⟨eqStr_ok ok (k_string hk), und_has (k_string hk)⟩
   · rename_i fs hk
     obtain ⟨fa, hu, hfs⟩ := k_struct hk
     refine ⟨?_, und_has hu⟩
     cases hc : (mkTI P t).cmp with
     | false => rw [hc] at e; cases e
     | true =>
       rw [hc, cond_true] at e
       intro φ w x y ux uy b d hd hq hx hy
       obtain ⟨r, l, m, hr, rfl, rfl, hb⟩ := aggE_ok e hq
       obtain ⟨ul, hl, rfl⟩ := conc_agg hx
       obtain ⟨um, hm, rfl⟩ := conc_agg hy
       obtain ⟨d, rfl⟩ : ∃ k, d = k + 1 := ⟨d - 1, by omega⟩
       have hcmp : cmpOf P t = true := by
        unfold mkTI at hc
        cases hi : P.info? t with
        | none => rw [hi] at hc; cases hc
        | some i => rw [hi] at hc; exact hc
       unfold cmpOf at hcmp
       rw [hu] at hcmp
       simp only [Bool.and_eq_true, Bool.not_eq_true'] at hcmp
       have hft : P.fieldsOf t = fa := by unfold Program.fieldsOf; rw [hu]
       rw [run_equalIn_struct w d t _ _ (by rw [hft]; exact hu) hcmp.1, hft]
       refine eqFs_ok ok (n := n) (fun u z hz => eqTy_ok ok n u z hz) fs r hr φ w l m ul um b d (by omega) hb hl hm fa.toList hfs ?_
       intro f hf
       have := List.all_eq_true.1 hcmp.2 f hf
       simpa using this
   · rename_i m e' hk
     have hu := k_array hk
     refine ⟨?_, und_has hu⟩
     rw [ok.ty] at e
     cases hh : (mkTI P e').has with
     | false => rw [hh] at e; cases e
     | true =>
     rw [hh, Bool.not_true, cond_false] at e
     intro φ w x y ux uy b d hd hq hx hy
     obtain ⟨r, l, k, hr, rfl, rfl, hb⟩ := aggE_ok e hq
     obtain ⟨ul, hl, rfl⟩ := conc_agg hx
     obtain ⟨um, hm, rfl⟩ := conc_agg hy
     obtain ⟨d, rfl⟩ : ∃ k, d = k + 1 := ⟨d - 1, by omega⟩
     obtain ⟨i, hi, hsz, _⟩ := has_ok hh
     rw [run_equalIn_array w d t m e' i _ _ hu hi _ rfl]
     refine eqFs_ok ok (n := n) (fun u z hz => eqTy_ok ok n u z hz) _ r hr φ w l k ul um b d (by omega) hb hl hm _ ?_ ?_
     · simp [List.map_map, Function.comp_def, hsz]
     · intro f hf
       simp only [List.mem_map] at hf
       obtain ⟨z, _, rfl⟩ := hf
       show ("x" : String) ≠ "_"
       decide
   · cases e
end
end Go.Proofs.YtmfmjhklajmhoaaGreat.Gv
namespace Go.Proofs.YtmfmjhklajmhoaaGreat.Gv
open Go
section
variable {E : Env} {P : Program} {G : Gh} {φ : Mp} {h h' : H} {w : World} {s : Fr} {a : Act} {v : V} {o : Oper}
theorem conc_emp {i : Nat} {u : Value} (e : conc G φ (.emp i) = some u) : ∃ l, φ i = some l ∧ u = .slice (some ⟨l.blk, l.off, none⟩) 0 l.slack := by
 rw [conc] at e
 cases hb : φ i with
 | none => rw [hb] at e; cases e
 | some l => rw [hb] at e; cases e; exact ⟨l, rfl, rfl⟩
theorem conc_func {fn : Fn} {f c : List V} {u : Value} (e : conc G φ (.func fn f c) = some u) : ∃ f' c', concL G φ f = some f' ∧ concL G φ c = some c' ∧ u = .func fn f'.toArray c'.toArray := by
 rw [conc] at e
 cases hf : concL G φ f with
 | none => rw [hf] at e; cases e
 | some f' =>
   cases hc : concL G φ c with
   | none => rw [hf, hc] at e; cases e
   | some c' => rw [hf, hc] at e; cases e; exact ⟨f', c', rfl, rfl, rfl⟩
def Odd (x : Value) : Prop := (∀ k n, x ≠ .int k n) ∧ (∀ b, x ≠ .string b) ∧ (∀ k n, x ≠ .float k n) ∧ (∀ k m n, x ≠ .complex k m n)
theorem eql_odd {t : Nat} {x y : Value} {b : Bool} (hx : Odd x) (hr : (Op.equalIn 10000 t x y).run P w = .ok b w) :
 (binOp .eql t x y).run P w = .ok (.bool b) w ∧ (binOp .neq t x y).run P w = .ok (.bool (!b)) w := by
 obtain ⟨h1, h2, h3, h4⟩ := hx
 have hr' : (Op.equal t x y).run P w = .ok b w := hr
 cases x <;> first
  | exact absurd rfl (h1 _ _)
  | exact absurd rfl (h2 _)
  | exact absurd rfl (h3 _ _)
  | exact absurd rfl (h4 _ _ _)
  | (cases y <;> (constructor <;> simp [binOp, hr']))
theorem Bin.odd {op : BinOp} {t : Nat} {ox oy : Operand} {x y : Value} {b : Bool} {f : Bool → Bool} (hop : (op = .eql ∧ f = fun b => b) ∨ (op = .neq ∧ f = not)) (ho : Odd x) (hx : x ≠ .nilIface) (ha : ∀ c, x ≠ .agg c)
 (hr : (Op.equalIn 10000 t x y).run P w = .ok b w) : Bin P G φ h w op t ox oy x y (.bool (f b)) h := by
 obtain ⟨h1, h2⟩ := eql_odd ho hr
 rcases hop with ⟨rfl, rfl⟩ | ⟨rfl, rfl⟩
 · exact Bin.mk hx ha h1 (bool_conc _) rfl
 · exact Bin.mk hx ha h2 (bool_conc _) rfl
theorem eqNilS_ok {t d : Nat} {e0 : Nat} (hu : P.underlying t = some (.slice e0)) {x y : V} {b : Bool} {ux uy : Value}
 (e : eqNilS x y = some b) (hx : conc G φ x = some ux) (hy : conc G φ y = some uy) : (Op.equalIn (d + 1) t ux uy).run P w = .ok b w ∧ Odd ux ∧ ux ≠ .nilIface ∧ ∀ c, ux ≠ .agg c := by
 unfold eqNilS at e
 split at e <;> cases e
 all_goals
  first
   | (rw [conc] at hx; cases hx; done)
   | skip
  first
   | (rw [conc] at hy; cases hy; done)
   | skip
  try (obtain ⟨l1, _, rfl⟩ := conc_slice hx)
  try (obtain ⟨l1, _, rfl⟩ := conc_emp hx)
  try (obtain ⟨l1, _, rfl⟩ := conc_map hx)
  try (obtain ⟨f1, c1, _, _, rfl⟩ := conc_func hx)
  try (obtain ⟨l2, _, rfl⟩ := conc_slice hy)
  try (obtain ⟨l2, _, rfl⟩ := conc_emp hy)
  try (obtain ⟨l2, _, rfl⟩ := conc_map hy)
  try (obtain ⟨f2, c2, _, _, rfl⟩ := conc_func hy)
  try (rw [conc] at hx; cases hx)
  try (rw [conc] at hy; cases hy)
  exact ⟨by simp [Op.equalIn, run_underlying hu], ⟨by simp, by simp, by simp, by simp⟩, by simp, by simp⟩
theorem eqNilM_ok {t d : Nat} {k0 e0 : Nat} (hu : P.underlying t = some (.map k0 e0)) {x y : V} {b : Bool} {ux uy : Value}
 (e : eqNilM x y = some b) (hx : conc G φ x = some ux) (hy : conc G φ y = some uy) : (Op.equalIn (d + 1) t ux uy).run P w = .ok b w ∧ Odd ux ∧ ux ≠ .nilIface ∧ ∀ c, ux ≠ .agg c := by
 unfold eqNilM at e
 split at e <;> cases e
 all_goals
  first
   | (rw [conc] at hx; cases hx; done)
   | skip
  first
   | (rw [conc] at hy; cases hy; done)
   | skip
  try (obtain ⟨l1, _, rfl⟩ := conc_slice hx)
  try (obtain ⟨l1, _, rfl⟩ := conc_emp hx)
  try (obtain ⟨l1, _, rfl⟩ := conc_map hx)
  try (obtain ⟨f1, c1, _, _, rfl⟩ := conc_func hx)
  try (obtain ⟨l2, _, rfl⟩ := conc_slice hy)
  try (obtain ⟨l2, _, rfl⟩ := conc_emp hy)
  try (obtain ⟨l2, _, rfl⟩ := conc_map hy)
  try (obtain ⟨f2, c2, _, _, rfl⟩ := conc_func hy)
  try (rw [conc] at hx; cases hx)
  try (rw [conc] at hy; cases hy)
  exact ⟨by simp [Op.equalIn, run_underlying hu], ⟨by simp, by simp, by simp, by simp⟩, by simp, by simp⟩
theorem eqNilF_ok {t d : Nat} {p0 q0 : Array TypeId} {r0 : Bool} (hu : P.underlying t = some (.func p0 q0 r0)) {x y : V} {b : Bool} {ux uy : Value}
 (e : eqNilF x y = some b) (hx : conc G φ x = some ux) (hy : conc G φ y = some uy) : (Op.equalIn (d + 1) t ux uy).run P w = .ok b w ∧ Odd ux ∧ ux ≠ .nilIface ∧ ∀ c, ux ≠ .agg c := by
 unfold eqNilF at e
 split at e <;> cases e
 all_goals
  first
   | (rw [conc] at hx; cases hx; done)
   | skip
  first
   | (rw [conc] at hy; cases hy; done)
   | skip
  try (obtain ⟨l1, _, rfl⟩ := conc_slice hx)
  try (obtain ⟨l1, _, rfl⟩ := conc_emp hx)
  try (obtain ⟨l1, _, rfl⟩ := conc_map hx)
  try (obtain ⟨f1, c1, _, _, rfl⟩ := conc_func hx)
  try (obtain ⟨l2, _, rfl⟩ := conc_slice hy)
  try (obtain ⟨l2, _, rfl⟩ := conc_emp hy)
  try (obtain ⟨l2, _, rfl⟩ := conc_map hy)
  try (obtain ⟨f2, c2, _, _, rfl⟩ := conc_func hy)
  try (rw [conc] at hx; cases hx)
  try (rw [conc] at hy; cases hy)
  exact ⟨by simp [Op.equalIn, run_underlying hu], ⟨by simp, by simp, by simp, by simp⟩, by simp, by simp⟩
theorem stringish_ok {k off : Nat} {C : Array Value} {el : TypeId} (hk : w.heap[k]? = some (.cells C el (0, 0))) : (stringish ⟨k, off, none⟩).run P w = .ok false w := by
 simp [stringish, World.frozen?, hk, World.shape?]
theorem noView_ok {k off : Nat} {C : Array Value} {el : TypeId} (hk : w.heap[k]? = some (.cells C el (0, 0))) : (noView ⟨k, off, none⟩).run P w = .ok () w := by
 simp [noView, viewAt, World.shape?, hk]
theorem eqPtr_ok {t e0 d : Nat} {i : TypeInfo} (hu : P.underlying t = some (.pointer e0)) (hi : P.info? e0 = some i) (hsz : i.size ≠ 0) (r : HRel G φ h w) {x y : V} {b : Bool} {ux uy : Value}
 (e : eqPtr h x y = some b) (hx : conc G φ x = some ux) (hy : conc G φ y = some uy) : (Op.equalIn (d + 1) t ux uy).run P w = .ok b w ∧ Odd ux ∧ ux ≠ .nilIface ∧ ∀ c, ux ≠ .agg c := by
 have odd : ∀ p, Odd (.pointer p) ∧ Value.pointer p ≠ .nilIface ∧ ∀ c, Value.pointer p ≠ .agg c := fun p => ⟨⟨by simp, by simp, by simp, by simp⟩, by simp, by simp⟩
 unfold eqPtr at e
 split at e
 · cases e; rw [conc] at hx hy; cases hx; cases hy
   exact ⟨by simp [Op.equalIn, run_underlying hu], odd _⟩
 · cases e; rw [conc] at hx; cases hx
   obtain ⟨l, _, rfl⟩ := conc_ptr hy
   exact ⟨by simp [Op.equalIn, run_underlying hu], odd _⟩
 · cases e; rw [conc] at hy; cases hy
   obtain ⟨l, _, rfl⟩ := conc_ptr hx
   exact ⟨by simp [Op.equalIn, run_underlying hu], odd _⟩
 · rename_i p i1 q j1
   obtain ⟨l1, h1, rfl⟩ := conc_ptr hx
   obtain ⟨l2, h2, rfl⟩ := conc_ptr hy
   refine ⟨?_, odd _⟩
   have hstep : (Op.equalIn (d + 1) t (.pointer (some ⟨l1.blk, i1, none⟩)) (.pointer (some ⟨l2.blk, j1, none⟩))).run P w = (sameAddr ⟨l1.blk, i1, none⟩ ⟨l2.blk, j1, none⟩).run P w := by
    simp [Op.equalIn, run_underlying hu, sizeOf, typeInfo, hi, hsz]
   rw [hstep]
   cases hpq : Nat.beq p q with
   | true =>
     rw [hpq] at e
     cases e
     rw [nbeq, decide_eq_true_eq] at hpq
     subst hpq
     rw [h1] at h2; cases h2
     rw [nbeq]
     by_cases hij : i1 = j1
     · subst hij; simp [sameAddr]
     · simp [sameAddr, hij]
   | false =>
     rw [hpq, cond_false] at e
     rw [nbeq, decide_eq_false_iff_not] at hpq
     split at e
     · rename_i c1 n1 s1 x1 c2 n2 s2 x2 g1 g2
       cases e
       obtain ⟨C1, e1, k1, _⟩ := r.cells g1 h1
       obtain ⟨C2, e2, k2, _⟩ := r.cells g2 h2
       have hne : l1.blk ≠ l2.blk := fun hh => hpq (r.inj1 g1 g2 h1 h2 rfl hh)
       have hf1 : w.frozen? ⟨l1.blk, i1, none⟩ = false := by simp [World.frozen?, k1]
       simp [sameAddr, hne, hf1, noView_ok k1, noView_ok k2, mayBeOne, stringish_ok k1, stringish_ok k2]
     · cases e
 · cases e
theorem nflat {t : Nat} (hf : (mkTI P t).flat = true) : P.eqGuardType P.depth t = false := by
 unfold mkTI at hf
 cases hi : P.info? t with
 | none => rw [hi] at hf; cases hf
 | some i => rw [hi] at hf; simpa using hf
theorem onSomeB_ok {m : String} {ob : Option Bool} {f : Bool → Bool} (e : (onSome m ob fun b => .ok (.bool (f b)) h) = .ok v h') : ∃ b, ob = some b ∧ v = .bool (f b) ∧ h' = h := by
 obtain ⟨b, hb, e⟩ := onSome_ok e
 cases e
 exact ⟨b, hb, rfl, rfl⟩
theorem onSomeNB_ok {m : String} {n : Nat} {ob : Option Bool} {f : Bool → Bool} (e : (onSomeN m n ob fun b => .ok (.bool (f b)) h) = .ok v h') : ∃ b, ob = some b ∧ v = .bool (f b) ∧ h' = h := by
 obtain ⟨b, hb, e⟩ := onSomeN_ok e
 cases e
 exact ⟨b, hb, rfl, rfl⟩
theorem eqF_ok (ok : EnvOk E P G) {op : BinOp} {t : Nat} {ox oy : Operand} {f : Bool → Bool} (hop : (op = .eql ∧ f = fun b => b) ∨ (op = .neq ∧ f = not)) (r : HRel G φ h w) {x y : V} {ux uy : Value}
 (hx : conc G φ x = some ux) (hy : conc G φ y = some uy) (e : (eqF E t f).v x y h = .ok v h') : Bin P G φ h w op t ox oy ux uy v h' := by
 unfold eqF at e
 rw [ok.ty] at e
 split at e
 · rename_i e0 hk
   rw [ok.ty] at e
   cases hz : Nat.beq (mkTI P e0).size 0 with
   | true => rw [hz] at e; cases e
   | false =>
     rw [hz, cond_false] at e
     obtain ⟨b, hb, rfl, rfl⟩ := onSomeB_ok e
     rw [nbeq, decide_eq_false_iff_not] at hz
     obtain ⟨i, hi, his⟩ : ∃ i, P.info? e0 = some i ∧ i.size ≠ 0 := by
      cases hi : P.info? e0 with
      | none => exfalso; apply hz; unfold mkTI; rw [hi]
      | some i => refine ⟨i, rfl, ?_⟩; intro hh; apply hz; unfold mkTI; rw [hi]; exact hh
     obtain ⟨h1, h2, h3, h4⟩ := eqPtr_ok (d := 9999) (k_pointer hk) hi his r hb hx hy
     exact Bin.odd hop h2 h3 h4 h1
 · rename_i e0 hk
   obtain ⟨b, hb, rfl, rfl⟩ := onSomeB_ok e
   obtain ⟨h1, h2, h3, h4⟩ := eqNilS_ok (d := 9999) (w := w) (k_slice hk) hb hx hy
   exact Bin.odd hop h2 h3 h4 h1
 · rename_i k0 e0 hk
   obtain ⟨b, hb, rfl, rfl⟩ := onSomeB_ok e
   obtain ⟨h1, h2, h3, h4⟩ := eqNilM_ok (d := 9999) (w := w) (k_map hk) hb hx hy
   exact Bin.odd hop h2 h3 h4 h1
 · rename_i hk
   obtain ⟨b, hb, rfl, rfl⟩ := onSomeB_ok e
   obtain ⟨p0, q0, r0, hu⟩ := k_func hk
   obtain ⟨h1, h2, h3, h4⟩ := eqNilF_ok (d := 9999) (w := w) hu hb hx hy
   exact Bin.odd hop h2 h3 h4 h1
 · cases hf : (mkTI P t).flat with
   | false => rw [hf] at e; cases e
   | true =>
     rw [hf, cond_true] at e
     cases hq : eqTy E 8 t with
     | none => rw [hq] at e; cases e
     | some q =>
       rw [hq] at e
       simp only [Box.use_v] at e
       obtain ⟨b, hb, rfl, rfl⟩ := onSomeNB_ok e
       have hqo := (eqTy_ok ok 8 t q hq).1
       have hrun := hqo φ w x y ux uy b 10000 (by omega) hb hx hy
       have hcase : eqTy E 8 t = some q := hq
       rw [show (8 : Nat) = 7 + 1 from rfl, eqTy_succ, ok.ty] at hcase
       split at hcase
       · cases hcase
         change eqBool x y = some b at hb
         unfold eqBool at hb
         split at hb
         · rw [conc] at hx hy; cases hx; cases hy
           exact Bin.odd hop ⟨by simp, by simp, by simp, by simp⟩ (by simp) (by simp) hrun
         · cases hb
       · cases hcase
         obtain ⟨k, m, n, rfl, rfl, rfl⟩ := eqInt_val ok hb hx hy
         rcases hop with ⟨rfl, rfl⟩ | ⟨rfl, rfl⟩
         · exact Bin.int (by simp [binOp, Op.intCmp]) (bool_conc _) rfl
         · exact Bin.int (by simp [binOp, Op.intCmp]; rfl) (bool_conc _) rfl
       · cases hcase
         change eqStr E x y = some b at hb
         obtain ⟨s, t', rfl, rfl, rfl⟩ := eqStr_val ok hb hx hy
         have hs : (s.toList == t'.toList) = decide (s.data.toList = t'.data.toList) := by
          have := str_beq s.data.toList t'.data.toList
          simp only [Array.toArray_toList] at this
          rw [← beq_toListBytes, ← this]
         rcases hop with ⟨rfl, rfl⟩ | ⟨rfl, rfl⟩
         · exact Bin.str (by simp only [binOp, Op.stringOp, hs]; rfl) (bool_conc _) rfl
         · exact Bin.str (by simp only [binOp, Op.stringOp, hs]; rfl) (bool_conc _) rfl
       all_goals
        have hagg : ∃ l m, x = .agg l ∧ y = .agg m := by
         first
          | (cases hc : (mkTI P t).cmp with
             | false => rw [hc] at hcase; cases hcase
             | true => rw [hc, cond_true] at hcase; obtain ⟨_, l, m, _, h1, h2, _⟩ := aggE_ok hcase hb; exact ⟨l, m, h1, h2⟩)
          | (rw [ok.ty] at hcase
             rename_i m0 e0 _
             cases hc : (mkTI P e0).has with
             | false => rw [hc] at hcase; cases hcase
             | true => rw [hc, Bool.not_true, cond_false] at hcase; obtain ⟨_, l, m, _, h1, h2, _⟩ := aggE_ok hcase hb; exact ⟨l, m, h1, h2⟩)
          | cases hcase
        obtain ⟨l, m, rfl, rfl⟩ := hagg
        obtain ⟨ul, _, rfl⟩ := conc_agg hx
        obtain ⟨um, _, rfl⟩ := conc_agg hy
        refine ⟨rfl, .bool (f b), ?_, bool_conc _⟩
        rw [Sem.run_bind, run_eqGuard_agg w op t ox oy _ _ (nflat hf), Result.andThen_ok]
        rcases hop with ⟨rfl, rfl⟩ | ⟨rfl, rfl⟩
        · rw [run_eql_struct, hrun]; rfl
        · rw [run_neq_struct, hrun]; rfl
theorem binF_ok (ok : EnvOk E P G) {op : BinOp} {t : Nat} {ox oy : Operand} (r : HRel G φ h w) {x y : V} {ux uy : Value}
 (hx : conc G φ x = some ux) (hy : conc G φ y = some uy) (e : (binF E op t).v x y h = .ok v h') : Bin P G φ h w op t ox oy ux uy v h' := by
 have bnot : ∀ p : Prop, ∀ [Decidable p], (!decide p) = decide (¬ p) := fun p _ => by simp
 have hs : ∀ n a m b, ((⟨(strL n a).toArray⟩ : ByteArray).toList == (⟨(strL m b).toArray⟩ : ByteArray).toList) = strEq n a m b := by
  intro n a m b
  rw [← beq_toListBytes, str_beq, strEq_ok]
 have hl : ∀ n a m b, Op.bytesLess (⟨(strL n a).toArray⟩ : ByteArray).toList (⟨(strL m b).toArray⟩ : ByteArray).toList = strLs n a m b := by
  intro n a m b
  rw [ByteArray.toList_eq, ByteArray.toList_eq, strLs_ok]
 cases op <;> unfold binF at e <;> dsimp only at e
 case eql => exact eqF_ok ok (.inl ⟨rfl, rfl⟩) r hx hy e
 case neq => exact eqF_ok ok (.inr ⟨rfl, rfl⟩) r hx hy e
 case andNot => cases e
 case add =>
  split at e
  · obtain ⟨hk, e'⟩ := same_ok e; clear e; subst hk; cases e'
    rw [conc] at hx hy; cases hx; cases hy
    exact Bin.int (by simp [binOp, Op.intArith]; rfl) ((iint_conc _ _).trans (by rw [wrapK_ok]; first | done | rfl)) rfl
  · obtain ⟨hlen, e⟩ := bif_ok e; cases e
    rw [nble, decide_eq_true_eq] at hlen
    rw [str_conc] at hx hy; cases hx; cases hy
    rename_i n a m b
    have hsz : ∀ n a, (⟨(strL n a).toArray⟩ : ByteArray).size = n := fun n a => by
     show (strL n a).toArray.size = n
     rw [List.size_toArray, strL_length]
    refine Bin.str (u := .string (⟨(strL n a).toArray⟩ ++ ⟨(strL m b).toArray⟩)) ?_ ?_ rfl
    · have hmax : ¬ (((n + m : Nat) : Int) > IntKind.i64.max) := by
       have : IntKind.i64.max = 9223372036854775807 := by decide
       omega
      simp only [binOp, Op.stringOp, hsz]
      rw [if_neg hmax]; rfl
    · rw [str_conc, strL_add]
      congr 2
      first | done | (rw [ByteArray.ext_iff]; simp)
  · exact symBin_ok ok hx hy e
 case sub =>
  split at e
  · obtain ⟨hk, e'⟩ := same_ok e; clear e; subst hk; cases e'
    rw [conc] at hx hy; cases hx; cases hy
    exact Bin.int (by simp [binOp, Op.intArith]; rfl) ((iint_conc _ _).trans (by rw [wrapK_ok]; first | done | rfl)) rfl
  · exact symBin_ok ok hx hy e
 case mul =>
  split at e
  · obtain ⟨hk, e'⟩ := same_ok e; clear e; subst hk; cases e'
    rw [conc] at hx hy; cases hx; cases hy
    exact Bin.int (by simp [binOp, Op.intArith]; rfl) ((iint_conc _ _).trans (by rw [wrapK_ok]; first | done | rfl)) rfl
  · exact symBin_ok ok hx hy e
 case quo =>
  split at e
  · obtain ⟨hk, e'⟩ := same_ok e; clear e; subst hk
    obtain ⟨hz, e⟩ := bif_ok e'; clear e'; cases e
    rw [conc] at hx hy; cases hx; cases hy
    rw [ieq_ok] at hz
    simp only [Bool.not_eq_true', decide_eq_false_iff_not] at hz
    exact Bin.int (by simp [binOp, Op.intDiv, hz]; rfl) ((iint_conc _ _).trans (by rw [wrapK_ok]; first | done | rfl)) rfl
  · exact symBin_ok ok hx hy e
 case rem =>
  split at e
  · obtain ⟨hk, e'⟩ := same_ok e; clear e; subst hk
    obtain ⟨hz, e⟩ := bif_ok e'; clear e'; cases e
    rw [conc] at hx hy; cases hx; cases hy
    rw [ieq_ok] at hz
    simp only [Bool.not_eq_true', decide_eq_false_iff_not] at hz
    exact Bin.int (by simp [binOp, Op.intDiv, hz]) (iint_conc _ _) rfl
  · exact symBin_ok ok hx hy e
 case and =>
  split at e
  · obtain ⟨hk, e'⟩ := same_ok e; clear e; subst hk; cases e'
    rw [conc] at hx hy; cases hx; cases hy
    exact Bin.int (by simp [binOp, Op.intBits]) (iint_conc _ _) rfl
  · exact symBin_ok ok hx hy e
 case or =>
  split at e
  · obtain ⟨hk, e'⟩ := same_ok e; clear e; subst hk; cases e'
    rw [conc] at hx hy; cases hx; cases hy
    exact Bin.int (by simp [binOp, Op.intBits]) (iint_conc _ _) rfl
  · exact symBin_ok ok hx hy e
 case xor =>
  split at e
  · obtain ⟨hk, e'⟩ := same_ok e; clear e; subst hk; cases e'
    rw [conc] at hx hy; cases hx; cases hy
    exact Bin.int (by simp [binOp, Op.intBits]) (iint_conc _ _) rfl
  · cases e
 case shl =>
  split at e
  · cases e
    rw [conc] at hx hy; cases hx; cases hy
    rename_i k a k' n
    refine ⟨rfl, .int k (k.wrap (a * 2 ^ Nat.min n k.bits)), ?_, ?_⟩
    · rw [Sem.run_bind, eqGuard_ok (by simp) (by simp)]
      simp only [Result.andThen_ok, binOp, Op.shift]
      rw [if_neg (by show ¬ ((n : Int) < 0); omega)]
      rfl
    · rw [conc, wrapK_ok]
      show some (Value.int k (k.wrap (a * ((2 ^ Nat.min n k.bits : Nat) : Int)))) = _
      rw [Int.natCast_pow]; rfl
  · exact symBin_ok ok hx hy e
 case shr =>
  split at e
  · cases e
    rw [conc] at hx hy; cases hx; cases hy
    rename_i k a k' n
    refine ⟨rfl, .int k (a.fdiv (2 ^ Nat.min n k.bits)), ?_, ?_⟩
    · rw [Sem.run_bind, eqGuard_ok (by simp) (by simp)]
      simp only [Result.andThen_ok, binOp, Op.shift]
      rw [if_neg (by show ¬ ((n : Int) < 0); omega)]
      rfl
    · rw [conc]
      show some (Value.int k (a.fdiv ((2 ^ Nat.min n k.bits : Nat) : Int))) = _
      rw [Int.natCast_pow]; rfl
  · rename_i k c ts k' n
    have hx2 : conc G φ (V.sint k c ts) = some (.int k (c + den G.σ ts)) := by rw [conc]
    have hy2 : conc G φ (V.int k' (Int.ofNat n)) = some (.int k' (n : Int)) := by rw [conc]; rfl
    rw [hx2] at hx; rw [hy2] at hy; cases hx; cases hy
    cases hfx : findNl 14 k (c, ts) (Int.ofNat n, []) E.nl with
    | some i =>
      rw [hfx] at e
      cases e
      have hr := nlx_at (op := .shr) ok hfx
      have h2 : LF.den G.σ ((Int.ofNat n, []) : LF) = (n : Int) := by show (n : Int) + 0 = n; omega
      rw [h2] at hr
      exact nlx_ok hr (fun h => by cases h) (by rw [conc]; simp [den]) rfl
    | none =>
    rw [hfx] at e
    dsimp only at e
    cases h63 : Nat.beq n 63 with
    | false => rw [h63] at e; cases e
    | true =>
    rw [h63, cond_true] at e
    unfold shrS at e
    obtain ⟨hc, e2⟩ := bif_ok e
    clear e
    simp only [Bool.and_eq_true, nbeq, decide_eq_true_eq] at hc
    obtain ⟨⟨rfl, hk⟩, hf⟩ := hc
    have hk2 := sameK_ok hk
    subst hk2
    have hw := fits_rng ok hf
    have run : ∀ z : Int, (c + den G.σ ts).fdiv 9223372036854775808 = z → h' = h → conc G φ v = some (.int .i64 z) → Bin P G φ h w .shr t ox oy (.int .i64 (c + den G.σ ts)) (.int k' ((63 : Nat) : Int)) v h' := by
     intro z hz hh hv
     refine ⟨hh, .int .i64 z, ?_, hv⟩
     rw [Sem.run_bind, eqGuard_ok (by simp) (by simp)]
     simp only [Result.andThen_ok, binOp, Op.shift]
     rw [if_neg (by show ¬ (((63 : Nat) : Int) < 0); omega)]
     rw [← hz]
     rfl
    have hw2 : -9223372036854775808 ≤ c + den G.σ ts ∧ c + den G.σ ts ≤ 9223372036854775807 := hw
    cases h0 : known E (c, ts) with
    | true =>
      rw [h0] at e2
      cases e2
      have h1 : 0 ≤ c + den G.σ ts := known_ok ok h0
      exact run 0 (by rw [Int.fdiv_eq_ediv_of_nonneg _ (by omega)]; omega) rfl (by rw [conc])
    | false =>
      rw [h0, cond_false] at e2
      obtain ⟨h1, e3⟩ := bif_ok e2
      cases e3
      have h2 := known_ok ok h1
      rw [LF.den_sub] at h2
      have h3 : 0 ≤ -1 + 0 - (c + den G.σ ts) := h2
      exact run (-1) (by rw [Int.fdiv_eq_ediv_of_nonneg _ (by omega)]; omega) rfl (by rw [conc])
  · exact symBin_ok ok hx hy e
 case lss =>
  split at e
  · obtain ⟨hk, e'⟩ := same_ok e; clear e; subst hk; cases e'
    rw [conc] at hx hy; cases hx; cases hy
    exact Bin.int (by simp [binOp, Op.intCmp]; rfl) ((bool_conc _).trans (by rw [ilt_ok])) rfl
  · cases e
    rw [str_conc] at hx hy; cases hx; cases hy
    exact Bin.str (by simp only [binOp, Op.stringOp, hl]; rfl) (bool_conc _) rfl
  · exact symBin_ok ok hx hy e
 case gtr =>
  split at e
  · obtain ⟨hk, e'⟩ := same_ok e; clear e; subst hk; cases e'
    rw [conc] at hx hy; cases hx; cases hy
    exact Bin.int (by simp [binOp, Op.intCmp]; rfl) ((bool_conc _).trans (by rw [ilt_ok])) rfl
  · cases e
    rw [str_conc] at hx hy; cases hx; cases hy
    exact Bin.str (by simp only [binOp, Op.stringOp, hs, hl]; rfl) (bool_conc _) rfl
  · exact symBin_ok ok hx hy e
 case leq =>
  split at e
  · obtain ⟨hk, e'⟩ := same_ok e; clear e; subst hk; cases e'
    rw [conc] at hx hy; cases hx; cases hy
    exact Bin.int (by simp [binOp, Op.intCmp]; rfl) ((bool_conc _).trans (by rw [ilt_ok, bnot, decide_eq_decide.2 Int.not_lt])) rfl
  · cases e
    rw [str_conc] at hx hy; cases hx; cases hy
    exact Bin.str (by simp only [binOp, Op.stringOp, hs, hl]; rfl) (bool_conc _) rfl
  · exact symBin_ok ok hx hy e
 case geq =>
  split at e
  · obtain ⟨hk, e'⟩ := same_ok e; clear e; subst hk; cases e'
    rw [conc] at hx hy; cases hx; cases hy
    exact Bin.int (by simp [binOp, Op.intCmp]; rfl) ((bool_conc _).trans (by rw [ilt_ok, bnot, decide_eq_decide.2 Int.not_lt])) rfl
  · cases e
    rw [str_conc] at hx hy; cases hx; cases hy
    exact Bin.str (by simp only [binOp, Op.stringOp, hl]; rfl) (bool_conc _) rfl
  · exact symBin_ok ok hx hy e
end
end Go.Proofs.YtmfmjhklajmhoaaGreat.Gv
