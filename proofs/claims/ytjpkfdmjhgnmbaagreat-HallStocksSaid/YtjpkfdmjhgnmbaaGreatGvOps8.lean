/- Operations, eighth part: maps. -/
import Derived.Test.YtjpkfdmjhgnmbaaGreatGvOps7
namespace Go.Proofs.YtjpkfdmjhgnmbaaGreat.Gv
open Go

section
variable {E : Env} {P : Program} {G : Gh} {φ : Mp} {h h' : H} {w : World} {s : Fr} {a : Act} {v : V} {o : Oper}

/-- A key that a test takes whole is one that may be asked for. -/
def KeyOk (P : Program) (G : Gh) (q : Eqs) (n t : Nat) : Prop :=
  ∀ (φ : Mp) (w : World) (x : V) (ux : Value) (d : Nat) (em : Bool), n ≤ d → q x x = some true → conc G φ x = some ux → (Instr.checkKey em d t ux).run P w = .ok () w

theorem eqFs_cons (E : Env) (q : Nat → Option (Box Eqs)) (f : Nat × Nat) (fs : List (Nat × Nat)) : eqFs E q (f :: fs) = (match q f.2, eqFs E q fs with
      | some q, some r => some (q.use fun q => r.use fun r => (partV (E.tyOf f.2) f.1).use fun p => ⟨fun l m => match p l, p m with
        | some a, some b => (match q a b with | some true => r l m | z => z)
        | _, _ => none⟩)
      | _, _ => none) := rfl
theorem keyFs_ok (ok : EnvOk E P G) {q : Nat → Option (Box Eqs)} {n : Nat} (hq : ∀ t r, q t = some r → KeyOk P G r.v n t ∧ (mkTI P t).has = true) :
    ∀ (fs : List (Nat × Nat)) (r : Box (List V → List V → Option Bool)), eqFs E q fs = some r → ∀ (φ : Mp) (l : List V) (ul : List Value), r.v l l = some true →
      concL G φ l = some ul → ∀ f ∈ fs, ∀ (w : World) (d : Nat) (em : Bool), n ≤ d → ∃ u, (part f.2 ul.toArray f.1).run P w = .ok u w ∧ (Instr.checkKey em d f.2 u).run P w = .ok () w
  | [], r, e, φ, l, ul, er, hl, f, hf => by cases hf
  | (off, t) :: fs, r, e, φ, l, ul, er, hl, f, hf => by
    intro w d em hd
    rw [eqFs_cons] at e
    cases h1 : q t with
    | none => rw [h1] at e; cases e
    | some q1 =>
      cases h2 : eqFs E q fs with
      | none => rw [h1, h2] at e; cases e
      | some r1 =>
        rw [h1, h2] at e
        cases e
        obtain ⟨hq1, hhas⟩ := hq _ _ h1
        simp only [Box.use_v, ok.ty] at er
        cases p1 : (partV (mkTI P t) off).v l with
        | none => rw [p1] at er; cases er
        | some x =>
          rw [p1] at er
          dsimp only at er
          cases hxy : q1.v x x with
          | none => rw [hxy] at er; cases er
          | some c =>
            rw [hxy] at er
            cases c with
            | false => cases er
            | true =>
              cases hf with
              | head =>
                obtain ⟨ux, rx, cx⟩ := partV_ok (w := w) (has_und hhas) hhas hl p1
                exact ⟨ux, rx, hq1 φ w x ux d em hd hxy cx⟩
              | tail _ hf => exact keyFs_ok ok hq fs r1 h2 φ l ul er hl f hf w d em hd

theorem forIn_same {α : Type} {P : Program} {w : World} (g : α → PUnit → Sem (ForInStep PUnit)) : ∀ (l : List α), (∀ x ∈ l, (g x PUnit.unit).run P w = .ok (ForInStep.yield PUnit.unit) w) →
    (forIn l PUnit.unit g).run P w = .ok PUnit.unit w
  | [], _ => rfl
  | x :: l, h => by
    simp only [List.forIn_cons, Sem.run_bind, h x (by simp), Result.andThen_ok]
    exact forIn_same g l (fun y hy => h y (by simp [hy]))

theorem key_ok (ok : EnvOk E P G) : ∀ (n t : Nat) (q : Box Eqs), eqTy E n t = some q → KeyOk P G q.v n t ∧ (mkTI P t).has = true
  | 0, t, q, e => by cases e
  | n + 1, t, q, e => by
    refine ⟨?_, (eqTy_ok ok (n + 1) t q e).2⟩
    intro φ w x ux d em hd hq hx
    obtain ⟨d, rfl⟩ : ∃ k, d = k + 1 := ⟨d - 1, by omega⟩
    rw [eqTy_succ, ok.ty] at e
    split at e
    · rename_i hk
      have hu := k_bool hk
      simp [Instr.checkKey, run_underlying hu]
    · rename_i k hk
      have hu := k_int hk
      simp [Instr.checkKey, run_underlying hu]
    · rename_i hk
      have hu := k_string hk
      simp [Instr.checkKey, run_underlying hu]
    · rename_i fs hk
      obtain ⟨fa, hu, hfs⟩ := k_struct hk
      cases hc : (mkTI P t).cmp with
      | false => rw [hc] at e; cases e
      | true =>
        rw [hc, cond_true] at e
        obtain ⟨r, l, m, hr, rfl, hm, hb⟩ := aggE_ok e hq
        cases hm
        obtain ⟨ul, hl, rfl⟩ := conc_agg hx
        have key := keyFs_ok ok (n := n) (fun u z hz => key_ok ok n u z hz) fs r hr φ l ul hb hl
        simp only [Instr.checkKey, run_underlying hu, Sem.run_bind, Result.andThen_ok]
        rw [← Array.forIn_toList, forIn_same _ fa.toList (by
          intro f hf
          obtain ⟨u, h1, h2⟩ := key (f.offset, f.type) (by rw [hfs]; exact List.mem_map.2 ⟨f, hf, rfl⟩) w d em (by omega)
          by_cases hn : f.name ≠ "_"
          · simp [hn, h1, h2]
          · simp [hn])]
        rfl
    · rename_i m e' hk
      have hu := k_array hk
      rw [ok.ty] at e
      cases hh : (mkTI P e').has with
      | false => rw [hh] at e; cases e
      | true =>
        rw [hh, Bool.not_true, cond_false] at e
        obtain ⟨r, l, k, hr, rfl, hm, hb⟩ := aggE_ok e hq
        cases hm
        obtain ⟨ul, hl, rfl⟩ := conc_agg hx
        obtain ⟨i, hi, hsz, _⟩ := has_ok hh
        have key := keyFs_ok ok (n := n) (fun u z hz => key_ok ok n u z hz) _ r hr φ l ul hb hl
        simp only [Instr.checkKey, run_underlying hu, Sem.run_bind, Result.andThen_ok]
        rw [Std.Legacy.Range.forIn_eq_forIn_range']
        have hrg : List.range' [:m].start [:m].size [:m].step = List.range m := by
          rw [List.range_eq_range']; simp [Std.Legacy.Range.size]
        rw [hrg, forIn_same _ (List.range m) (by
          intro j hj
          obtain ⟨u, h1, h2⟩ := key (j * (mkTI P e').size, e') (List.mem_map.2 ⟨j, hj, rfl⟩) w d em (by omega)
          rw [hsz] at h1
          simp [sizeOf, typeInfo, hi, h1, h2])]
        rfl
    · cases e

/-! ### finding an entry -/
theorem okKey_ok {q : Eqs} {k : V} {x : RV} (e : okKey q k x = .ok v h') : q k k = some true ∧ x = .ok v h' := by
  unfold okKey at e
  split at e
  · rename_i hq; exact ⟨hq, e⟩
  · cases e
def idxK (q : Eqs) (k : V) : List (V × V) → Option (Option Nat)
  | [] => some none
  | e :: t => match q k e.1 with
    | some true => some (some 0)
    | some false => (match idxK q k t with | some o => some (o.map (· + 1)) | none => none)
    | none => none
theorem findK_cons (q : Eqs) (k : V) (e : V × V) (t : List (V × V)) : findK q k (e :: t) = (match q k e.1 with
    | some true => some (some e.2)
    | some false => findK q k t
    | none => none) := rfl
theorem putK_cons (q : Eqs) (k v : V) (e : V × V) (t : List (V × V)) : putK q k v (e :: t) = (match q k e.1 with
    | some true => bif sameKey k e.1 then some ((k, v) :: t) else none
    | some false => (match putK q k v t with | some r => some (e :: r) | none => none)
    | none => none) := rfl
theorem delK_cons (q : Eqs) (k : V) (e : V × V) (t : List (V × V)) : delK q k (e :: t) = (match q k e.1 with
    | some true => some t
    | some false => (match delK q k t with | some r => some (e :: r) | none => none)
    | none => none) := rfl
theorem findK_idx {q : Eqs} {k : V} : ∀ {l : List (V × V)} {r : Option V}, findK q k l = some r → ∃ i, idxK q k l = some i ∧ (match i with | some i => ∃ e, l[i]? = some e ∧ r = some e.2 | none => r = none)
  | [], r, e => by cases e; exact ⟨none, rfl, rfl⟩
  | x :: t, r, e => by
    rw [findK_cons] at e
    unfold idxK
    cases hq : q k x.1 with
    | none => rw [hq] at e; cases e
    | some c =>
      rw [hq] at e
      cases c with
      | true => cases e; exact ⟨some 0, rfl, x, rfl, rfl⟩
      | false =>
        obtain ⟨i, hi, hr⟩ := findK_idx e
        dsimp only
        rw [hi]
        refine ⟨_, rfl, ?_⟩
        cases i with
        | none => exact hr
        | some i => obtain ⟨y, h1, h2⟩ := hr; exact ⟨y, by simpa using h1, h2⟩
theorem putK_idx {q : Eqs} {k v : V} : ∀ {l r : List (V × V)}, putK q k v l = some r → ∃ i, idxK q k l = some i ∧
    (match i with | some i => r = l.set i (k, v) ∧ ∃ e, l[i]? = some e ∧ sameKey k e.1 = true | none => r = l ++ [(k, v)])
  | [], r, e => by cases e; exact ⟨none, rfl, rfl⟩
  | x :: t, r, e => by
    rw [putK_cons] at e
    unfold idxK
    cases hq : q k x.1 with
    | none => rw [hq] at e; cases e
    | some c =>
      rw [hq] at e
      cases c with
      | true =>
        dsimp only at e
        cases hs : sameKey k x.1 with
        | false => rw [hs] at e; cases e
        | true => rw [hs] at e; cases e; exact ⟨some 0, rfl, rfl, x, rfl, hs⟩
      | false =>
        dsimp only at e
        cases hp : putK q k v t with
        | none => rw [hp] at e; cases e
        | some r' =>
          rw [hp] at e
          cases e
          obtain ⟨i, hi, hr⟩ := putK_idx hp
          dsimp only
          rw [hi]
          refine ⟨_, rfl, ?_⟩
          cases i with
          | none => show x :: r' = x :: t ++ [(k, v)]; rw [hr]; rfl
          | some i => obtain ⟨h1, y, h2, h3⟩ := hr; exact ⟨by rw [h1]; rfl, y, by simpa using h2, h3⟩
theorem delK_idx {q : Eqs} {k : V} : ∀ {l r : List (V × V)}, delK q k l = some r → ∃ i, idxK q k l = some i ∧
    (match i with | some i => r = l.eraseIdx i ∧ i < l.length | none => r = l)
  | [], r, e => by cases e; exact ⟨none, rfl, rfl⟩
  | x :: t, r, e => by
    rw [delK_cons] at e
    unfold idxK
    cases hq : q k x.1 with
    | none => rw [hq] at e; cases e
    | some c =>
      rw [hq] at e
      cases c with
      | true => cases e; exact ⟨some 0, rfl, rfl, by simp⟩
      | false =>
        dsimp only at e
        cases hp : delK q k t with
        | none => rw [hp] at e; cases e
        | some r' =>
          rw [hp] at e
          cases e
          obtain ⟨i, hi, hr⟩ := delK_idx hp
          dsimp only
          rw [hi]
          refine ⟨_, rfl, ?_⟩
          cases i with
          | none => show x :: r' = x :: t; rw [hr]
          | some i => obtain ⟨h1, h2⟩ := hr; exact ⟨by rw [h1]; rfl, by simp; omega⟩

theorem sameNow_ok {t : Nat} {d : TypeDesc} {x y : Value} {b : Bool} (hd : P.underlying t = some d) (e : Instr.sameNow d x y = some b) : (Op.equal t x y).run P w = .ok b w := by
  unfold Instr.sameNow at e
  split at e
  · split at e
    · rename_i hk
      subst hk
      cases e
      exact run_equalIn_int w 9999 t _ _ _ _ hd
    · cases e
  · cases e
    rw [beq_toListBytes]
    exact run_equalIn_string w 9999 t _ _ hd
  · cases e
    exact run_equalIn_bool' w 9999 t _ _ hd
  · cases e

/-- What a map's entries stand for. -/
def Ents (G : Gh) (φ : Mp) (es : List (V × V)) (El : List MapEntry) : Prop :=
  El.length = es.length ∧ ∀ (i : Nat) (k v : V), es[i]? = some (k, v) → ∃ e : MapEntry, El[i]? = some e ∧ conc G φ k = some e.key ∧ conc G φ v = some e.val
theorem Ents.tail {es : List (V × V)} {El : List MapEntry} {p : V × V} {e : MapEntry} (h : Ents G φ (p :: es) (e :: El)) : Ents G φ es El :=
  ⟨by simpa using h.1, fun i k v hi => by simpa using h.2 (i + 1) k v (by simpa using hi)⟩
/-- What the model hands back of an entry that is found. -/
def foundAt (El : List MapEntry) (j : Nat) (o : Option Nat) : Option (Nat × Value) := match o with | some i => (El[i]?).map fun e => (j + i, e.val) | none => none
theorem findAsking_ok (ok : EnvOk E P G) {t : Nat} {q : Box Eqs} (hq : eqTy E 8 t = some q) {k : V} {uk : Value} (hk : conc G φ k = some uk) :
    ∀ (es : List (V × V)) (El : List MapEntry) (j : Nat) (o : Option Nat), idxK q.v k es = some o → Ents G φ es El →
      (Instr.findAsking t uk El j).run P w = .ok (foundAt El j o) w
  | [], El, j, o, e, hE => by
    cases e
    have : El = [] := List.eq_nil_of_length_eq_zero (by simpa using hE.1)
    subst this
    rfl
  | p :: es, [], j, o, e, hE => by have := hE.1; simp at this
  | p :: es, x :: El, j, o, e, hE => by
    obtain ⟨e', he', hkey, hval⟩ := hE.2 0 p.1 p.2 (by simp)
    simp at he'
    subst he'
    unfold idxK at e
    cases hc : q.v k p.1 with
    | none => rw [hc] at e; cases e
    | some c =>
      rw [hc] at e
      have hrun := (eqTy_ok ok 8 t q hq).1 φ w k p.1 uk x.key c 10000 (by omega) hc hk hkey
      have hrun' : (Op.equal t uk x.key).run P w = .ok c w := hrun
      cases c with
      | true => cases e; simp [Instr.findAsking, hrun', foundAt]
      | false =>
        dsimp only at e
        cases hi : idxK q.v k es with
        | none => rw [hi] at e; cases e
        | some o' =>
          rw [hi] at e
          cases e
          have ih := findAsking_ok ok hq hk es El (j + 1) o' hi hE.tail
          simp only [Instr.findAsking, Sem.run_bind, hrun', Result.andThen_ok, Bool.false_eq_true, if_false, ih]
          cases o' with
          | none => rfl
          | some i => simp [foundAt, Nat.add_assoc, Nat.add_comm 1 i]
theorem findNow_ok (ok : EnvOk E P G) {t : Nat} {d : TypeDesc} (hd : P.underlying t = some d) {uk : Value} : ∀ (El : List MapEntry) (j : Nat) (r : Option (Nat × Value)), Instr.findNow d uk El j = some r →
    (Instr.findAsking t uk El j).run P w = .ok r w
  | [], j, r, e => by cases e; rfl
  | x :: El, j, r, e => by
    unfold Instr.findNow at e
    split at e
    · rename_i hs
      cases e
      simp [Instr.findAsking, sameNow_ok (w := w) hd hs]
    · rename_i hs
      simp only [Instr.findAsking, Sem.run_bind, sameNow_ok (w := w) hd hs, Result.andThen_ok, Bool.false_eq_true, if_false]
      exact findNow_ok ok hd El (j + 1) r e
    · cases e
theorem findKey_ok (ok : EnvOk E P G) {t : Nat} {q : Box Eqs} (hq : eqTy E 8 t = some q) {k : V} {uk : Value} (hk : conc G φ k = some uk)
    {es : List (V × V)} {El : List MapEntry} {o : Option Nat} (e : idxK q.v k es = some o) (hE : Ents G φ es El) :
    (Instr.findKey t uk El).run P w = .ok (foundAt El 0 o) w := by
  obtain ⟨d, hd⟩ := has_und (eqTy_ok ok 8 t q hq).2
  have h1 := findAsking_ok (w := w) ok hq hk es El 0 o e hE
  unfold Instr.findKey
  simp only [Sem.run_bind, run_underlying hd, Result.andThen_ok]
  split
  · rename_i r hr
    have h2 := findNow_ok (w := w) ok hd El 0 r hr
    rw [h1] at h2
    exact h2.symm
  · exact h1

theorem HRel.ents2 (r : HRel G φ h w) {b : Nat} {es : List (V × V)} {l : Loc} (hb : h.t.get b = some (.map es)) (hl : φ b = some l) :
    ∃ (El : Array MapEntry) (c : Nat), w.heap[l.blk]? = some (.map El c) ∧ Ents G φ es El.toList ∧ Born El.toList c := by
  obtain ⟨El, c, h1, hB, h2, h3⟩ := r.blk b _ l hb hl
  exact ⟨El, c, h1, ⟨by simpa using h2, fun i k v hi => by simpa using h3 i k v hi⟩, hB⟩
theorem HRel.ents (r : HRel G φ h w) {b : Nat} {es : List (V × V)} {l : Loc} (hb : h.t.get b = some (.map es)) (hl : φ b = some l) :
    ∃ (El : Array MapEntry) (c : Nat), w.heap[l.blk]? = some (.map El c) ∧ Ents G φ es El.toList := by
  obtain ⟨El, c, h1, h2, _⟩ := r.ents2 hb hl
  exact ⟨El, c, h1, h2⟩
theorem Ents.val {es : List (V × V)} {El : List MapEntry} (hE : Ents G φ es El) {i : Nat} {p : V × V} (hp : es[i]? = some p) :
    ∃ e : MapEntry, El[i]? = some e ∧ conc G φ p.1 = some e.key ∧ conc G φ p.2 = some e.val := hE.2 i p.1 p.2 hp

theorem getObj_at {b cl : Nat} {Es : Array MapEntry} (hb : w.heap[b]? = some (.map Es cl)) : (getObj b).run P w = .ok (.map Es cl) w := by simp [getObj, Sem.run, hb]
theorem getObj_iter {b c d : Nat} {m : Option Nat} {Es : Array Nat} (hb : w.heap[b]? = some (.mapIter m c Es d)) : (getObj b).run P w = .ok (.mapIter m c Es d) w := by simp [getObj, Sem.run, hb]
theorem setObj_map {b cl : Nat} {Es : Array MapEntry} (y : Obj) (hb : w.heap[b]? = some (.map Es cl)) : (setObj b y).run P w = .ok () { w with heap := w.heap.setIfInBounds b y } := by simp [setObj, Sem.run, hb]
def gotOf (c : Bool) (zv : Value) (found : Option (Nat × Value)) : Value := match found with | some p => (if c then .tuple #[p.2, .bool true] else p.2) | none => (if c then .tuple #[zv, .bool false] else zv)
def gotV (c : Bool) (z : V) (rv : Option V) : V := match c with | true => (match rv with | some v => V.tuple [v, .bool true] | none => .tuple [z, .bool false]) | false => (match rv with | some v => v | none => z)
theorem run_lookup_at {t kt el : Nat} (hu : P.underlying t = some (.map kt el)) {Es : Array MapEntry} {x uk zv : Value} {c : Bool} {found : Option (Nat × Value)}
    (hx : (x = .map none ∧ Es = #[]) ∨ ∃ b cl, x = .map (some b) ∧ w.heap[b]? = some (.map Es cl)) (hck : ∀ em, (Instr.checkKey em 10000 kt uk).run P w = .ok () w)
    (hf : (Instr.findKey kt uk Es.toList).run P w = .ok found w) (hz : (zeroValue el).run P w = .ok zv w) :
    (Instr.lookup t x uk c).run P w = .ok (gotOf c zv found) w := by
  rcases hx with ⟨rfl, rfl⟩ | ⟨b, cl, rfl, hb⟩
  · cases found <;> simp_all [Instr.lookup, run_underlying hu, gotOf]
  · cases found <;> simp [Instr.lookup, run_underlying hu, getObj_at hb, hck, hf, hz, gotOf]

theorem lookup_ok (ok : EnvOk E P G) {t : Nat} {x k : Operand} {c : Bool} (ho : o.op = .lookup t x k c) (hx : okOpn x = true) (hk : okOpn k = true) (T : TRel G φ s a.tmps) (r : HRel G φ h w)
    (e : (opF E o).v s h = .ok v h') : h' = h ∧ ∃ u, (execOp a.eval o).run P w = .ok (.value u) w ∧ conc G φ v = some u := by
  unfold opF at e
  simp only [ho, Box.use_v] at e
  have h1 := opn_ok T hx
  have h2 := opn_ok T hk
  unfold lookF at e
  simp only [ok.ty] at e
  split at e
  · rename_i kt el hm
    have hu := k_map hm
    split at e
    · rename_i z q hz hq
      cases hfl : (mkTI P kt).flat with
      | false => rw [hfl] at e; cases e
      | true =>
        rw [hfl, Bool.not_true, cond_false] at e
        obtain ⟨i, zv, hi, hz', habs, _, _⟩ := zero_ok hz
        have hzc : conc G φ z = some zv := absV_ok G φ 4 _ _ habs
        have hzrun : (zeroValue el).run P w = .ok zv w := by simp [zeroValue, typeInfo, hi, hz']
        have hbl : ∀ b : Bool, conc G φ (.bool b) = some (.bool b) := fun b => by rw [conc]
        have fin : ∀ (Es : Array MapEntry) (es : List (V × V)) (rv : Option V), ((a.eval x = .map none ∧ Es = #[]) ∨ ∃ b cl, a.eval x = .map (some b) ∧ w.heap[b]? = some (.map Es cl)) →
            q.v ((opn k).v s) ((opn k).v s) = some true → Ents G φ es Es.toList → findK q.v ((opn k).v s) es = some rv →
            v = gotV c z rv →
            ∃ u, (execOp a.eval o).run P w = .ok (.value u) w ∧ conc G φ v = some u := by
          intro Es es rv hmap hkk hE hfind hv
          obtain ⟨ix, hix, hrv⟩ := findK_idx hfind
          have hfk := findKey_ok (w := w) ok hq h2 hix hE
          have hck : ∀ em, (Instr.checkKey em 10000 kt (a.eval k)).run P w = .ok () w := fun em => (key_ok ok 8 kt q hq).1 φ w _ _ 10000 em (by omega) hkk h2
          have hrun := run_lookup_at (c := c) hu hmap hck hfk hzrun
          cases ix with
          | none =>
            dsimp only at hrv
            subst hrv
            refine ⟨_, by simp only [execOp, ho, Sem.run_bind, hrun, Result.andThen_ok]; rfl, ?_⟩
            rw [hv]
            cases c
            · exact hzc
            · show conc G φ (.tuple [z, .bool false]) = _
              rw [conc, concL_cons.2 ⟨_, _, hzc, concL_cons.2 ⟨_, _, hbl false, concL_nil, rfl⟩, rfl⟩]
              rfl
          | some j =>
            obtain ⟨p, hp, rfl⟩ := hrv
            obtain ⟨en, hen, _, hval⟩ := hE.val hp
            have hfa : foundAt Es.toList 0 (some j) = some (0 + j, en.val) := by simp only [foundAt, hen, Option.map_some]
            rw [hfa] at hrun
            refine ⟨_, by simp only [execOp, ho, Sem.run_bind, hrun, Result.andThen_ok]; rfl, ?_⟩
            rw [hv]
            cases c
            · exact hval
            · show conc G φ (.tuple [p.2, .bool true]) = _
              rw [conc, concL_cons.2 ⟨_, _, hval, concL_cons.2 ⟨_, _, hbl true, concL_nil, rfl⟩, rfl⟩]
              rfl
        have hres : ∀ (rv : Option V), RV.ok ((match c with | true => Box.mk (fun (o : Option V) => (match o with | some v => V.tuple [v, .bool true] | none => .tuple [z, .bool false])) | false => Box.mk (fun o => (match o with | some v => v | none => z))).v rv) h = .ok v h' →
            h' = h ∧ v = gotV c z rv := by
          intro rv hh
          cases c <;> · cases hh; exact ⟨rfl, rfl⟩
        simp only [Box.use_v] at e
        generalize hy : (opn x).v s = y at e h1
        cases y with
        | nilmap =>
          obtain ⟨hkk, e1⟩ := okKey_ok e
          clear e
          rw [conc] at h1
          obtain ⟨h3, h4⟩ := hres _ e1
          exact ⟨h3, fin #[] [] none (.inl ⟨(Option.some.inj h1).symm, rfl⟩) hkk ⟨rfl, fun i k v hi => by simp at hi⟩ rfl h4⟩
        | map b =>
          obtain ⟨es, hb, e1⟩ := onMap_ok e
          clear e
          obtain ⟨hkk, e2⟩ := okKey_ok e1
          clear e1
          obtain ⟨rv, hfind, e3⟩ := onSome_ok e2
          clear e2
          obtain ⟨l, hl, h5⟩ := conc_map h1
          obtain ⟨El, cl, hw, hE⟩ := r.ents hb hl
          obtain ⟨h3, h4⟩ := hres _ e3
          exact ⟨h3, fin El es rv (.inr ⟨l.blk, cl, h5, hw⟩) hkk hE hfind h4⟩
        | _ => cases e
    · cases e
  · cases e
end
end Go.Proofs.YtjpkfdmjhgnmbaaGreat.Gv
