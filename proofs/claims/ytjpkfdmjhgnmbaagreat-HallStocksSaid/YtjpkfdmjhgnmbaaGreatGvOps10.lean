/- Operations, tenth part: the next entry; built-in functions. -/
import Derived.Test.YtjpkfdmjhgnmbaaGreatGvOps9
namespace Go.Proofs.YtjpkfdmjhgnmbaaGreat.Gv
open Go

section
variable {E : Env} {P : Program} {G : Gh} {φ : Mp} {h h' : H} {w : World} {s : Fr} {a : Act} {v : V} {o : Oper}

theorem next_ok {it : Operand} (ho : o.op = .next it false) (hx : okOpn it = true) (T : TRel G φ s a.tmps) (r : HRel G φ h w)
    (e : (opF E o).v s h = .ok v h') : Did G φ h w v h' ((execOp a.eval o).run P w) := by
  unfold opF at e
  simp only [ho, Box.use_v] at e
  have h1 := opn_ok T hx
  obtain ⟨b, off, hy, e1⟩ := onPtr_ok e
  clear e
  rw [hy] at h1
  obtain ⟨l, hl, h2⟩ := conc_ptr h1
  obtain ⟨h0, e2⟩ := bif_ok e1
  clear e1
  rw [nbeq, decide_eq_true_eq] at h0
  subst h0
  have hc : conc G φ (.tuple [.bool false]) = some (.tuple #[.bool false]) := by
    rw [conc, concL_cons.2 ⟨_, _, by rw [conc], concL_nil, rfl⟩]
  cases hb : h.t.get b with
  | none => rw [hb] at e2; cases e2
  | some B0 =>
    rw [hb] at e2
    have hB := r.blk b B0 l hb hl
    cases B0 with
    | cells cs n sz ex => cases e2
    | map es => cases e2
    | iter m =>
      cases m with
      | none =>
        cases e2
        refine ⟨φ, _, w, .inl ?_, hc, r, Frame.refl _ _ _, Ext.refl _ _ _⟩
        rw [show execOp a.eval o = (do pure (.value (← Instr.next (a.eval it) false o.type))) by simp [execOp, ho], h2]
        simp [Instr.next, getObj_iter hB]
      | some m =>
        obtain ⟨es, hm, e3⟩ := onMap_ok e2
        clear e2
        cases es with
        | cons _ _ => cases e3
        | nil =>
          cases e3
          obtain ⟨lm, c, hlm, hw⟩ := hB
          obtain ⟨El, cl, hw2, hE⟩ := r.ents hm hlm
          have hEl : El = #[] := by
            have := hE.1
            simp at this
            exact this
          subst hEl
          have fin : ∀ w', w'.heap = w.heap → w'.os = w.os → w'.tape = w.tape → w'.output = w.output → (Instr.next (a.eval it) false o.type).run P w = .ok (.tuple #[.bool false]) w' →
              Did G φ h w (.tuple [.bool false]) h ((execOp a.eval o).run P w) := by
            intro w' g1 g2 g3 g4 hrun
            refine ⟨φ, _, w', .inl ?_, hc, r.frame (Mp.le_refl _) (fun _ _ _ _ h => h) (fun _ _ => by rw [g1]), ⟨g2, g3, g4, by rw [g1]; exact Nat.le_refl _, fun _ _ _ => by rw [g1]⟩, Ext.refl _ _ _⟩
            rw [show execOp a.eval o = (do pure (.value (← Instr.next (a.eval it) false o.type))) by simp [execOp, ho]]
            simp [hrun]
          refine fin w rfl rfl rfl rfl ?_
          rw [h2]
          simp [Instr.next, getObj_iter hw, getObj_at hw2, Question.forced]

/-! ### built-in functions -/
theorem two_conc {x y : V} {m : List Value} (hc : concL G φ [x, y] = some m) : ∃ u z, conc G φ x = some u ∧ conc G φ y = some z ∧ m = [u, z] := by
  obtain ⟨u, k, h1, h2, rfl⟩ := concL_cons.1 hc
  obtain ⟨z, k', h3, h4, rfl⟩ := concL_cons.1 h2
  rw [concL_nil] at h4; cases h4
  exact ⟨u, z, h1, h3, rfl⟩
theorem one_conc {x : V} {m : List Value} (hc : concL G φ [x] = some m) : ∃ u, conc G φ x = some u ∧ m = [u] := by
  obtain ⟨u, k, h1, h2, rfl⟩ := concL_cons.1 hc
  rw [concL_nil] at h2; cases h2
  exact ⟨u, h1, rfl⟩
theorem DidV.builtin {b : Builtin} {at' : Array TypeId} {ty : TypeId} {cs : Array Bool} {args : Array Value} {m : Sem Value} (hb : builtin b at' ty cs args = (do pure (.value (← m))))
    (d : DidV G φ h w v h' (m.run P w)) : Did G φ h w v h' ((builtin b at' ty cs args).run P w) := by rw [hb]; exact d.did

theorem len_ok (ok : EnvOk E P G) {ts : List Nat} {ty : TypeId} {cs : Array Bool} {l : List V} {ul : List Value} (hl : concL G φ l = some ul) (r : HRel G φ h w)
    (e : (builtF E .len ts).v l h = .ok v h') : Did G φ h w v h' ((builtin .len ts.toArray ty cs ul.toArray).run P w) := by
  refine DidV.builtin rfl ?_
  cases ts with
  | nil => cases e
  | cons t0 ts =>
    unfold builtF at e
    simp only [ok.ty] at e
    have fin : ∀ n : Nat, (Builtin.len_ (t0 :: ts).toArray ty ul.toArray).run P w = .ok (goInt n) w → RV.ok (.int .i64 (.ofNat n)) h = .ok v h' → DidV G φ h w v h' ((Builtin.len_ (t0 :: ts).toArray ty ul.toArray).run P w) := by
      intro n hr hh
      cases hh
      exact DidV.same r (by rw [conc]; rfl) hr
    split at e
    · rename_i n el hk
      have hu := k_array hk
      dsimp only at e
      split at e
      · obtain ⟨u, _, rfl⟩ := one_conc hl
        exact fin n (by simp [Builtin.len_, run_underlying hu]) e
      · cases e
    · rename_i hk
      have hu := k_string hk
      dsimp only at e
      split at e
      · obtain ⟨u, h1, rfl⟩ := one_conc hl
        rw [conc] at h1; cases h1
        exact fin _ (by simp [Builtin.len_, run_underlying hu, strL_size]) e
      · cases e
    · rename_i el hk
      have hu := k_slice hk
      dsimp only at e
      split at e
      · obtain ⟨u, h1, rfl⟩ := one_conc hl
        obtain ⟨lc, _, rfl⟩ := conc_slice h1
        exact fin _ (by simp [Builtin.len_, run_underlying hu]) e
      · obtain ⟨u, h1, rfl⟩ := one_conc hl
        rw [conc] at h1; cases h1
        exact fin 0 (by simp [Builtin.len_, run_underlying hu]) e
      · rename_i i
        obtain ⟨u, h1, rfl⟩ := one_conc hl
        rw [conc] at h1
        cases hi : φ i with
        | none => rw [hi] at h1; cases h1
        | some lc =>
          rw [hi] at h1; cases h1
          exact fin 0 (by simp [Builtin.len_, run_underlying hu]) e
      · cases e
    · rename_i kt el hk
      have hu := k_map hk
      dsimp only at e
      split at e
      · obtain ⟨es, hb, e1⟩ := onMap_ok e
        clear e
        obtain ⟨u, h1, rfl⟩ := one_conc hl
        obtain ⟨lc, hlc, rfl⟩ := conc_map h1
        obtain ⟨El, cl, hw, hE⟩ := r.ents hb hlc
        have hsz : El.size = es.length := by simpa using hE.1
        exact fin _ (by simp [Builtin.len_, run_underlying hu, getObj_at hw, hsz]) e1
      · obtain ⟨u, h1, rfl⟩ := one_conc hl
        rw [conc] at h1; cases h1
        exact fin 0 (by simp [Builtin.len_, run_underlying hu]) e
      · cases e
    · cases e

theorem cap_ok (ok : EnvOk E P G) {ts : List Nat} {ty : TypeId} {cs : Array Bool} {l : List V} {ul : List Value} (hl : concL G φ l = some ul) (r : HRel G φ h w)
    (e : (builtF E .cap ts).v l h = .ok v h') : Did G φ h w v h' ((builtin .cap ts.toArray ty cs ul.toArray).run P w) := by
  refine DidV.builtin rfl ?_
  cases ts with
  | nil => cases e
  | cons t0 ts =>
    unfold builtF at e
    simp only [ok.ty] at e
    have fin : ∀ n : Nat, (Builtin.cap_ (t0 :: ts).toArray ty ul.toArray).run P w = .ok (goInt n) w → RV.ok (.int .i64 (.ofNat n)) h = .ok v h' → DidV G φ h w v h' ((Builtin.cap_ (t0 :: ts).toArray ty ul.toArray).run P w) := by
      intro n hr hh
      cases hh
      exact DidV.same r (by rw [conc]; rfl) hr
    split at e
    · rename_i el hk
      have hu := k_slice hk
      dsimp only at e
      split at e
      · rename_i b off len c xx
        obtain ⟨es, n, sz, ex, hb, e1⟩ := onCells_ok e
        clear e
        obtain ⟨hx, e2⟩ := bif_ok e1
        clear e1
        obtain ⟨u, h1, rfl⟩ := one_conc hl
        obtain ⟨lc, hlc, rfl⟩ := conc_slice h1
        have hcap : (bif xx then c + lc.slack else c) = c := by
          cases xx with
          | false => rfl
          | true =>
            obtain ⟨C, e, _, _, h3, _⟩ := r.cells hb hlc
            simp at hx
            rw [h3 hx]; rfl
        exact fin _ (by simp [Builtin.cap_, run_underlying hu, hcap]) e2
      · obtain ⟨u, h1, rfl⟩ := one_conc hl
        rw [conc] at h1; cases h1
        exact fin 0 (by simp [Builtin.cap_, run_underlying hu]) e
      · cases e
    · cases e

theorem delete_ok (ok : EnvOk E P G) {ts : List Nat} {ty : TypeId} {cs : Array Bool} {l : List V} {ul : List Value} (hl : concL G φ l = some ul) (r : HRel G φ h w)
    (e : (builtF E .delete ts).v l h = .ok v h') : Did G φ h w v h' ((builtin .delete ts.toArray ty cs ul.toArray).run P w) := by
  refine DidV.builtin rfl ?_
  cases ts with
  | nil => cases e
  | cons t0 ts =>
    unfold builtF at e
    simp only [ok.ty] at e
    split at e
    · rename_i kt el hk
      have hu := k_map hk
      cases hq : eqTy E 8 kt with
      | none => rw [hq] at e; cases e
      | some q =>
        rw [hq] at e
        simp only [Box.use_v] at e
        split at e
        · rename_i b k
          obtain ⟨es, hb, e1⟩ := onMap_ok e
          clear e
          obtain ⟨hkk, e2⟩ := okKey_ok e1
          clear e1
          obtain ⟨es', hdel, e3⟩ := onSome_ok e2
          clear e2
          cases e3
          obtain ⟨um, uk, h1, h2, rfl⟩ := two_conc hl
          obtain ⟨lc, hlc, rfl⟩ := conc_map h1
          obtain ⟨El, cl, hw, hE, hB⟩ := r.ents2 hb hlc
          obtain ⟨ix, hix, hrv⟩ := delK_idx hdel
          have hfk := findKey_ok (w := w) ok hq h2 hix hE
          have hck : ∀ em, (Instr.checkKey em 10000 kt uk).run P w = .ok () w := fun em => (key_ok ok 8 kt q hq).1 φ w _ _ 10000 em (by omega) hkk h2
          cases ix with
          | none =>
            dsimp only at hrv
            subst hrv
            obtain ⟨r', hf', hx'⟩ := r.putMap (c := cl) hb hlc hE hB
            refine ⟨φ, .tuple #[], _, ?_, by rw [conc], r', hf', hx'⟩
            have hfa : foundAt El.toList 0 none = none := rfl
            rw [hfa] at hfk
            simp [Builtin.delete_, run_underlying hu, getObj_at hw, hck, hfk, setObj_map _ hw]
          | some i =>
            obtain ⟨rfl, hlt⟩ := hrv
            have hlt' : i < El.size := by have := hE.1; simp at this; omega
            have hE' : Ents G φ (es.eraseIdx i) (El.eraseIdxIfInBounds i).toList := by
              have h3 : (El.eraseIdxIfInBounds i).toList = El.toList.eraseIdx i := by simp [Array.eraseIdxIfInBounds, hlt']
              rw [h3]
              refine ⟨by rw [List.length_eraseIdx, List.length_eraseIdx, hE.1], fun j k' v' hj => ?_⟩
              rw [List.getElem?_eraseIdx] at hj ⊢
              split at hj
              · rename_i hji; rw [if_pos hji]; exact hE.2 _ _ _ hj
              · rename_i hji; rw [if_neg hji]; exact hE.2 _ _ _ hj
            have hB' : Born (El.eraseIdxIfInBounds i).toList cl := by
              have h3 : (El.eraseIdxIfInBounds i).toList = El.toList.eraseIdx i := by simp [Array.eraseIdxIfInBounds, hlt']
              rw [h3]
              exact hB.erase i
            obtain ⟨r', hf', hx'⟩ := r.putMap (c := cl) hb hlc hE' hB'
            refine ⟨φ, .tuple #[], _, ?_, by rw [conc], r', hf', hx'⟩
            have hfa : foundAt El.toList 0 (some i) = some (i, El[i].val) := by simp [foundAt, hlt']
            rw [hfa] at hfk
            simp [Builtin.delete_, run_underlying hu, getObj_at hw, hck, hfk, setObj_map _ hw]
        · cases e
    · cases e
end
end Go.Proofs.YtjpkfdmjhgnmbaaGreat.Gv
