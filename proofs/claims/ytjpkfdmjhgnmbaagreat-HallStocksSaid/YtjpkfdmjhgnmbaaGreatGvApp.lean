/- slices.AppendSeq onto nil, over an iterator that yields nothing. -/
import Derived.Test.YtjpkfdmjhgnmbaaGreatGvSort
import Derived.RangeFuncGives
import Derived.RangeFuncLeaves
namespace Go.Proofs.YtjpkfdmjhgnmbaaGreat.Gv
open Go Go.RowKit

noncomputable def appH (ks : List Nat) (call : Call) (l : List V) (h : H) : RV :=
  match l with
  | [.nilslice, .func (.func k) [] lb] => bif ks.elem k then (match call k (.yld h.next :: lb) ⟨h.t, h.next + 1⟩ with
    | .ok _ h' => bif Nat.ble (h.next + 1) h'.next then .ok .nilslice h' else .bad "AppendSeq" 1
    | .bad w n => .bad w n) else .bad "AppendSeq" 2
  | _ => .bad "AppendSeq" 0

/-- What slices.AppendSeq onto nil is asked to do, where nothing is yielded. -/
def AppOk (P : Program) (f : Nat) : Prop :=
  ∀ (g : Nat) (lb : Array Value) (w : World) (R : Nat → World → World → Prop), (∀ args w, (callFunc g args).run P w = .ok (.enter g args) w) →
    (∀ (l : Nat) (W : World), w.heap.size ≤ l → l < W.heap.size → Below w.heap.size w W → Calls P g (#[.func (.yield l) #[] #[]] ++ lb) W fun e W2 => (∃ v, e = .returned v) ∧ (∀ k, w.heap.size ≤ k → k < W.heap.size → W2.heap[k]? = W.heap[k]?) ∧ W.heap.size ≤ W2.heap.size ∧ R l W W2) →
    Calls P f #[.slice none 0 0, .func (.func g) #[] lb] w fun e W4 => e = .returned (.slice none 0 0) ∧ ∃ l W W2, w.heap.size ≤ l ∧ l < W.heap.size ∧ Below w.heap.size w W ∧ R l W W2 ∧ W4.os = W2.os ∧ W4.tape = W2.tape ∧ W4.output = W2.output ∧ W4.heap.size = W2.heap.size ∧
      ∀ k, ¬ (w.heap.size ≤ k ∧ k < W.heap.size) → W4.heap[k]? = W2.heap[k]?

section
variable {P : Program} {G : Gh} {φ : Mp} {h : H} {w w' : World}
theorem appH_ok (hP : ProgOk P) {f : Nat} {fn : Func} {c : Code} (hf : P.funcs[f]? = some fn) (hb : fn.body = some c) {ks : List Nat} (hk : ∀ k ∈ ks, ∃ fn c, P.funcs[k]? = some fn ∧ fn.body = some c) (hA : AppOk P f) : HookOk P G f (appH ks) := by
  intro call ck l h v h' e φ w ul hl r hfr
  unfold appH at e
  split at e
  · rename_i k lb
    cases hkk : ks.elem k with
    | false => rw [hkk] at e; cases e
    | true =>
      rw [hkk, cond_true] at e
      obtain ⟨gn, gc, hg, hgb⟩ := hk k (List.elem_iff.1 hkk)
      split at e
      · rename_i v1 hz hcall
        obtain ⟨hn, e1⟩ := bif_ok e
        clear e
        rw [nble, decide_eq_true_eq] at hn
        cases e1
        obtain ⟨ulb, hlb, rfl⟩ : ∃ ulb, concL G φ lb = some ulb ∧ ul = [.slice none 0 0, .func (.func k) #[] ulb.toArray] := by
          obtain ⟨u, t, hu, ht, rfl⟩ := concL_cons.1 hl
          rw [conc] at hu
          cases hu
          obtain ⟨u2, t2, hu2, ht2, rfl⟩ := concL_cons.1 ht
          rw [concL_nil] at ht2
          cases ht2
          obtain ⟨uf, uc, h1, h2, rfl⟩ := conc_func' hu2
          rw [concL_nil] at h1
          cases h1
          exact ⟨uc, h2, rfl⟩
        have hfn : φ h.next = none := hfr _ (Nat.le_refl _) (by omega)
        have footlt : ∀ k, Foot φ h k → k < w.heap.size := fun k hk => r.foot_lt hk
        have foot1 : ∀ l k, Foot (φ.put h.next ⟨l, 0, 0⟩) ⟨h.t, h.next + 1⟩ k → Foot φ h k := by
          rintro l k ⟨b, x, lc, hb', hlc, hk⟩
          have hne : b ≠ h.next := fun e => by
            subst e
            have hb'' : h.t.get h.next = some x := hb'
            rw [r.fresh _ (Nat.le_refl _)] at hb''
            cases hb''
          rw [Mp.put_other hne] at hlc
          exact ⟨b, x, lc, hb', hlc, hk⟩
        rw [run_enter hf (prog_name hP hf) hb]
        refine (hA k ulb.toArray w (fun l W W2 => ∃ u, Post G (φ.put h.next ⟨l, 0, 0⟩) ⟨h.t, h.next + 1⟩ W v1 h' u W2) (fun args w => run_enter hg (prog_name hP hg) hgb args) ?_).mono ?_
        · intro l W hl1 hl2 hB
          have hle := Mp.le_put (l := ⟨l, 0, 0⟩) hfn
          have r1 : HRel G (φ.put h.next ⟨l, 0, 0⟩) ⟨h.t, h.next + 1⟩ W := by
            have hlive : ∀ b x lc, h.t.get b = some x → (φ.put h.next ⟨l, 0, 0⟩) b = some lc → φ b = some lc := by
              intro b x lc hb' hlc
              have hne : b ≠ h.next := fun e => by
                subst e
                rw [r.fresh _ (Nat.le_refl _)] at hb'
                cases hb'
              rw [Mp.put_other hne] at hlc
              exact hlc
            have := r.frame hle hlive (fun k hk => hB.block k (footlt k hk))
            exact ⟨this.blk, this.inj, fun b hb' => this.fresh b (by have : h.next + 1 ≤ b := hb'; omega)⟩
          have hargs : concL G (φ.put h.next ⟨l, 0, 0⟩) (.yld h.next :: lb) = some (.func (.yield l) #[] #[] :: ulb) := concL_cons.2 ⟨_, _, by rw [conc, Mp.put_self], concL_mono hle hlb, rfl⟩
          have hfree : Free (φ.put h.next ⟨l, 0, 0⟩) (h.next + 1) h'.next := fun b hb1 hb2 => by
            rw [Mp.put_other (by omega)]
            exact hfr b (by omega) hb2
          have g := ck k _ _ v1 h' hcall _ W _ hargs r1 hfree
          rw [run_enter hg (prog_name hP hg) hgb] at g
          have he : (Value.func (Fn.yield l) #[] #[] :: ulb).toArray = #[.func (.yield l) #[] #[]] ++ ulb.toArray := by
            apply Array.toList_inj.1
            simp
          rw [he] at g
          refine Calls.mono g ?_
          rintro e W2 ⟨u, rfl, hp⟩
          have hp' := hp
          obtain ⟨φ2, hu, r2, f2, x2⟩ := hp
          exact ⟨⟨u, rfl⟩, fun k hk1 hk2 => f2.block k hk2 (fun hh => by have := footlt k (foot1 l k hh); omega), f2.size, u, hp'⟩
        · rintro e W4 ⟨rfl, l, W, W2, hl1, hl2, hB, ⟨u, φ2, hu, r2, f2, x2⟩, ho, ht, hout, hsz, hblk⟩
          have hsz2 := f2.size
          have hsz1 := hB.size
          have foot2 : ∀ k, Foot φ2 h' k → k < W.heap.size → Foot φ h k := fun k hk hkw => foot1 l k (x2.foot k hk hkw)
          refine ⟨_, rfl, φ2, by rw [conc], ?_, ⟨ho.trans (f2.os.trans hB.os), ht.trans (f2.tape.trans hB.tape), hout.trans (f2.output.trans hB.output), by omega, fun k hk hnf => ?_⟩, ⟨Mp.le_trans (Mp.le_put hfn) x2.le, fun b hb' hr => ?_, by omega, fun k hk hkw => foot2 k hk (by omega)⟩⟩
          · refine r2.frame (Mp.le_refl _) (fun _ _ _ _ e => e) (fun k hk => hblk k fun ⟨h1', h2'⟩ => ?_)
            have := footlt k (foot2 k hk h2')
            omega
          · rw [hblk k (by omega), f2.block k (by omega) (fun hh => hnf (foot1 l k hh)), hB.block k hk]
          · refine x2.new b ?_ ?_
            · rw [Mp.put_other (by omega)]; exact hb'
            · rcases hr with hr | hr
              · left; show b < h.next + 1; omega
              · right; exact hr
      · cases e
  · cases e
end
end Go.Proofs.YtjpkfdmjhgnmbaaGreat.Gv
