/- Regions that are run in the order of the text. -/
import Derived.Test.YtjpkfdmjhgnmbaaGreatGvStep2
namespace Go.Proofs.YtjpkfdmjhgnmbaaGreat.Gv
open Go

/-- What a piece of code leaves behind. -/
def Left (G : Gh) (φ : Mp) (h : H) (w : World) (a : Act) (s' : Fr) (h' : H) (a' : Act) (w' : World) : Prop :=
  ∃ φ', TRel G φ' s' a'.tmps ∧ HRel G φ' h' w' ∧ Frame φ h w w' ∧ Ext φ φ' h h' w ∧ a'.defers = a.defers ∧ a'.tmps.size = a.tmps.size

section
variable {E : Env} {P : Program} {G : Gh} {φ : Mp} {h h' : H} {w : World} {s : Fr} {a : Act} {v : V} {o : Oper}
theorem Left.refl (T : TRel G φ s a.tmps) (r : HRel G φ h w) : Left G φ h w a s h a w := ⟨φ, T, r, Frame.refl _ _ _, Ext.refl _ _ _, rfl, rfl⟩
theorem Left.trans {φ1 : Mp} {h1 : H} {w1 : World} {a1 a2 : Act} {s2 : Fr} {h2 : H} {w2 : World} (f : Frame φ h w w1) (x : Ext φ φ1 h h1 w) (hd : a1.defers = a.defers) (hz : a1.tmps.size = a.tmps.size)
    (l : Left G φ1 h1 w1 a1 s2 h2 a2 w2) : Left G φ h w a s2 h2 a2 w2 := by
  obtain ⟨φ2, T, r, f2, x2, hd2, hz2⟩ := l
  exact ⟨φ2, T, r, f.trans x f2, x.trans f.size x2, hd2.trans hd, hz2.trans hz⟩
theorem Free.left {lo mid hi : Nat} (f : Free φ lo hi) (hm : mid ≤ hi) : Free φ lo mid := fun b h1 h2 => f b h1 (Nat.lt_of_lt_of_le h2 hm)
theorem Free.right {φ1 : Mp} {h1 : H} {hi : Nat} (f : Free φ h.next hi) (x : Ext φ φ1 h h1 w) : Free φ1 h1.next hi := fun b hb1 hb2 =>
  x.new b (f b (Nat.le_trans x.next hb1) hb2) (.inr hb1)
theorem Post.left {u : Value} {w' : World} (p : Post G φ h w v h' u w') : h.next ≤ h'.next := by
  obtain ⟨_, _, _, _, x⟩ := p
  exact x.next

/-- A slot is filled. -/
theorem putD_ok {d : Option Nat} {p : Box (V → Fr → Fr)} {u : Value} (e : putD a.tmps.size d = some p) (T : TRel G φ s a.tmps) (hv : conc G φ v = some u) :
    TRel G φ (p.v v s) (a.put d u).tmps ∧ (a.put d u).defers = a.defers ∧ (a.put d u).tmps.size = a.tmps.size := by
  cases d with
  | none => cases e; exact ⟨T, rfl, rfl⟩
  | some d =>
    unfold putD at e
    cases hd : (Nat.blt d a.tmps.size && Nat.blt d 4096) with
    | false => simp only [hd] at e; cases e
    | true =>
      simp only [hd, cond_true] at e
      cases e
      rw [Bool.and_eq_true, nblt, nblt, decide_eq_true_eq, decide_eq_true_eq] at hd
      refine ⟨fun t ht => ?_, rfl, by simp [Act.put]⟩
      rw [Fr.get_set _ _ hd.2 ht]
      by_cases htd : t = d
      · subst htd
        rw [if_pos rfl, hv]
        simp [Act.put, hd.1]
      · rw [if_neg htd, T t ht]
        simp [Act.put, Array.getElem?_setIfInBounds_ne (Ne.symm htd)]

theorem opsF_cons {n : Nat} {all : List Oper} {l : List Oper} : opsF E n all (o :: l) = (opsF E n all l).use (fun k => match putD n o.dst with
      | none => ⟨fun _ _ _ => .bad "dst" 0⟩
      | some p => p.use fun p => (stepF E o).use fun f => match o.guard with
        | none => ⟨fun call s h => match f call s h with
          | .ok v h1 => bif Nat.ble h.next h1.next then k call (p v s) h1 else .bad "next" 0
          | .bad w n => .bad w n⟩
        | some (j, want) => match dstOf all j with
          | none => ⟨fun _ _ _ => .bad "guard" j⟩
          | some d => (Fr.get d).use fun q => ⟨fun call s h => match q s with
            | .bool b => match b == want with
              | true => match f call s h with
                | .ok v h1 => bif Nat.ble h.next h1.next then k call (p v s) h1 else .bad "next" 0
                | .bad w n => .bad w n
              | false => k call (p .undef s) h
            | .undef => k call (p .undef s) h
            | _ => .bad "guard" j⟩ : (Call → Fr → H → RS) → Box (Call → Fr → H → RS)) := rfl

theorem dstOf_ok {all : List Oper} {j d : Nat} (e : dstOf all j = some d) : d < 4096 ∧ ∃ q, all[j]? = some q ∧ q.dst = some d := by
  unfold dstOf at e
  cases hj : all[j]? with
  | none => rw [hj] at e; cases e
  | some q =>
    rw [hj] at e
    cases hq : q.dst with
    | none => simp only [hq] at e; cases e
    | some x =>
      simp only [hq] at e
      cases hx : Nat.blt x 4096 with
      | false => rw [hx] at e; cases e
      | true =>
        rw [hx] at e
        cases e
        rw [nblt, decide_eq_true_eq] at hx
        exact ⟨hx, q, rfl, hq⟩
/-- Does a guard let its operation run? -/
theorem wanted_at {all : List Oper} {j d : Nat} {want : Bool} (hg : o.guard = some (j, want)) (e : dstOf all j = some d) (hT : conc G φ ((Fr.get d).v s) = some (a.tmps.getD d undef)) :
    (∀ b, (Fr.get d).v s = .bool b → Region.wanted o (yielded all.toArray a.tmps) = (b == want)) ∧ ((Fr.get d).v s = .undef → Region.wanted o (yielded all.toArray a.tmps) = false) := by
  obtain ⟨hd, q, hq, hqd⟩ := dstOf_ok e
  have key : yielded all.toArray a.tmps j = match a.tmps[d]? with | some (.bool b) => some b | _ => none := by
    unfold yielded
    simp only [List.getElem?_toArray, hq, Option.bind_some, hqd]
    rfl
  constructor
  · intro b hb
    rw [hb, conc] at hT
    have hT : Value.bool b = a.tmps.getD d undef := Option.some.inj hT
    have : a.tmps[d]? = some (.bool b) := by
      cases hx : a.tmps[d]? with
      | none => simp [hx] at hT; cases hT
      | some y => simp [hx] at hT; rw [hT]
    unfold Region.wanted
    simp only [hg, key, this]
    cases b <;> cases want <;> rfl
  · intro hb
    rw [hb, conc] at hT
    have hT : Value.tuple #[] = a.tmps.getD d undef := Option.some.inj hT
    unfold Region.wanted
    simp only [hg, key]
    cases hx : a.tmps[d]? with
    | none => rfl
    | some y =>
      simp [hx] at hT
      subst hT
      rfl

theorem wanted_some {all : List Oper} {j d : Nat} {want : Bool} (hg : o.guard = some (j, want)) (e : dstOf all j = some d) (T : TRel G φ s a.tmps) :
    (∀ b, (Fr.get d).v s = .bool b → Region.wanted o (yielded all.toArray a.tmps) = (b == want)) ∧ ((Fr.get d).v s = .undef → Region.wanted o (yielded all.toArray a.tmps) = false) :=
  wanted_at hg e (T d (dstOf_ok e).1)

theorem opsF_next {n : Nat} {all : List Oper} {call : Call} : ∀ (l : List Oper) (s : Fr) (h : H) (s' : Fr) (h' : H), (opsF E n all l).v call s h = .ok s' h' → h.next ≤ h'.next
  | [], s, h, s', h', e => by cases e; exact Nat.le_refl _
  | o :: l, s, h, s', h', e => by
    rw [opsF_cons, Box.use_v] at e
    split at e
    · cases e
    · simp only [Box.use_v] at e
      split at e
      · dsimp only at e
        split at e
        · rename_i h1 _
          cases hn : Nat.ble h.next h1.next with
          | false => rw [hn] at e; cases e
          | true =>
            rw [hn] at e
            rw [nble, decide_eq_true_eq] at hn
            exact Nat.le_trans hn (opsF_next l _ _ _ _ e)
        · cases e
      · split at e
        · cases e
        · simp only [Box.use_v] at e
          split at e
          · split at e
            · split at e
              · rename_i h1 _
                cases hn : Nat.ble h.next h1.next with
                | false => rw [hn] at e; cases e
                | true =>
                  rw [hn] at e
                  rw [nble, decide_eq_true_eq] at hn
                  exact Nat.le_trans hn (opsF_next l _ _ _ _ e)
              · cases e
            · exact opsF_next l _ _ _ _ e
          · exact opsF_next l _ _ _ _ e
          · cases e

theorem opsF_ok (ok : EnvOk E P G) {call : Call} (ck : CallOk P G call) {n : Nat} {all : List Oper} {Q : Exit → Act → World → Prop} :
    ∀ (l : List Oper) (k : Nat), (∀ i, l[i]? = all[k + i]?) → ∀ (s : Fr) (h : H) (s' : Fr) (h' : H), (opsF E n all l).v call s h = .ok s' h' → ∀ (φ : Mp) (a : Act) (w : World), TRel G φ s a.tmps → HRel G φ h w →
      Free φ h.next h'.next → a.tmps.size = n → (∀ a' w', Left G φ h w a s' h' a' w' → Q .normal a' w') → wpOps P all.toArray Q (List.range' k l.length) a w
  | [], k, hl, s, h, s', h', e, φ, a, w, T, r, hf, hn, hQ => by
    cases e
    exact hQ _ _ (Left.refl T r)
  | o :: l, k, hl, s, h, s', h', e, φ, a, w, T, r, hf, hn, hQ => by
    have ho : all.toArray[k]? = some o := by have := hl 0; simp at this; simpa using this.symm
    have hl' : ∀ i, l[i]? = all[k + 1 + i]? := fun i => by
      have := hl (i + 1)
      rw [List.getElem?_cons_succ] at this
      rw [this]
      congr 1
      omega
    rw [List.length_cons, List.range'_succ, wpOps_cons]
    unfold wpOp
    simp only [ho]
    have next : ∀ v h1 p, putD n o.dst = some p → (stepF E o).v call s h = .ok v h1 → (bif Nat.ble h.next h1.next then (opsF E n all l).v call (p.v v s) h1 else .bad "next" 0) = .ok s' h' →
        o.wp P a w (wpOps P all.toArray Q (List.range' (k + 1) l.length)) Q := by
      intro v h1 p hp es e
      cases hb : Nat.ble h.next h1.next with
      | false => rw [hb] at e; cases e
      | true =>
        rw [hb, cond_true] at e
        have hnx := opsF_next l _ _ _ _ e
        refine (step_ok ok ck T r (hf.left hnx) es).wp fun u w1 ⟨φ1, hv, r1, f1, x1⟩ => ?_
        subst hn
        obtain ⟨T1, hd, hz⟩ := putD_ok hp (T.mono x1.le) hv
        exact opsF_ok ok ck l (k + 1) hl' _ _ _ _ e φ1 _ _ T1 r1 (hf.right x1) hz fun a' w' L => hQ a' w' (L.trans f1 x1 hd hz)
    have skip : ∀ p, putD n o.dst = some p → (opsF E n all l).v call (p.v .undef s) h = .ok s' h' → wpOps P all.toArray Q (List.range' (k + 1) l.length) (a.put o.dst undef) w := by
      intro p hp e
      subst hn
      obtain ⟨T1, hd, hz⟩ := putD_ok (v := .undef) (u := undef) hp T (by rw [conc]; rfl)
      exact opsF_ok ok ck l (k + 1) hl' _ _ _ _ e φ _ _ T1 r hf hz fun a' w' L => hQ a' w' (L.trans (Frame.refl _ _ _) (Ext.refl _ _ _) hd hz)
    rw [opsF_cons, Box.use_v] at e
    split at e
    · cases e
    · rename_i p hp
      simp only [Box.use_v] at e
      split at e
      · rename_i hg
        have hw : Region.wanted o (yielded all.toArray a.tmps) = true := by unfold Region.wanted; simp only [hg]
        rw [hw, if_pos rfl]
        dsimp only at e
        split at e
        · rename_i v h1 es
          exact .inl (next _ _ _ hp es e)
        · cases e
      · rename_i j want hg
        split at e
        · cases e
        · rename_i d hd
          simp only [Box.use_v] at e
          obtain ⟨w1, w2⟩ := wanted_some hg hd T
          split at e
          · rename_i b hb
            rw [w1 b hb]
            split at e
            · rename_i hbw
              rw [hbw, if_pos rfl]
              split at e
              · rename_i v h1 es
                exact .inl (next _ _ _ hp es e)
              · cases e
            · rename_i hbw
              rw [hbw]
              simp only [Bool.false_eq_true, if_false]
              exact skip _ hp e
          · rename_i hb
            rw [w2 hb]
            simp only [Bool.false_eq_true, if_false]
            exact skip _ hp e
          · cases e

theorem regT_ok (ok : EnvOk E P G) {call : Call} (ck : CallOk P G call) {id : Nat} {ops : Array Oper} {Q : Exit → Act → World → Prop} {s' : Fr} (e : (opsF E a.tmps.size ops.toList ops.toList).v call s h = .ok s' h')
    (T : TRel G φ s a.tmps) (r : HRel G φ h w) (hf : Free φ h.next h'.next) (hQ : ∀ a' w', Left G φ h w a s' h' a' w' → Q .normal a' w') : (Code.region id ops false).wp P Q a w := by
  refine wp_region ?_
  have := opsF_ok (Q := Q) ok ck ops.toList 0 (fun i => by simp) s h s' h' e φ a w T r hf rfl hQ
  rw [List.range_eq_range']
  simpa using this
end
end Go.Proofs.YtjpkfdmjhgnmbaaGreat.Gv
