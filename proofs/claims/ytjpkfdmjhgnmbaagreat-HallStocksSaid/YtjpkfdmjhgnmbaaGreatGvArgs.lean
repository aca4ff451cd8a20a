/- Arguments: their cells, and that they read as before. -/
import Derived.Test.YtjpkfdmjhgnmbaaGreatGvHook
import Derived.Carry
import Derived.OpenShut
import Derived.ProofKit
import Derived.ChangeSame
namespace Go.Proofs.YtjpkfdmjhgnmbaaGreat.Gv
open Go Go.RowKit Go.WideShapes Go.ChangeShapes

/-- Unknown values in a row. -/
def opqs (k n : Nat) : List V := (List.range' k n).map .opq
theorem opqs_ok {G : Gh} {φ : Mp} {e : List Value} : ∀ (n k : Nat), k + n ≤ e.length → (∀ (i : Nat) (u : Value), e[i]? = some u → G.ε i = u) → concL G φ (opqs k n) = some ((e.drop k).take n)
  | 0, k, _, _ => by simp [opqs, concL]
  | n + 1, k, h, he => by
    have hk : k < e.length := by omega
    have ih := opqs_ok (G := G) (φ := φ) n (k + 1) (by omega) he
    rw [List.drop_eq_getElem_cons hk, List.take_succ_cons]
    refine concL_cons.2 ⟨e[k], _, ?_, ih, rfl⟩
    rw [conc, he k e[k] (by simp [hk])]

section
variable {P : Program} {w : World} {base : Nat}
/-- A struct's cells and their types. -/
theorem agg_cells {t : TypeId} {fs : Array Field} {ts : List TypeId} {v : Value} (ht : P.underlying t = some (.struct fs)) (hts : P.cellTypes P.depth t = some ts) (hn : ts.length = P.cellsOf t) (h : Value.okWide P w .any base t v) :
    ∃ cs : List Value, v = .agg cs.toArray ∧ cs.length = ts.length ∧ ∀ (i : Nat) (u : TypeId) (x : Value), ts[i]? = some u → cs[i]? = some x → Cell.okWide P w .any base u x := by
  unfold Value.okWide at h
  rw [ht] at h
  obtain ⟨cs, rfl, hsz, ts', h1, _, h3⟩ := h
  rw [hts] at h1
  cases h1
  refine ⟨cs.toList, rfl, by simp [hsz, hn], fun i u x hu hx => ?_⟩
  obtain ⟨u', hu', hc⟩ := h3 i x (by simpa using hx)
  have hlt : i < ts.length := (List.getElem?_eq_some_iff.1 hu).1
  rw [Nat.mod_eq_of_lt hlt, hu] at hu'
  cases hu'
  exact hc
theorem cell_int {u : TypeId} {x : Value} (hu : P.underlying u = some (.int .i64)) (h : Cell.okWide P w .any base u x) : ∃ n, x = .int .i64 n ∧ -9223372036854775808 ≤ n ∧ n ≤ 9223372036854775807 := by
  unfold Cell.okWide at h
  rw [hu] at h
  cases x <;> simp [Cell.ok, hu] at h
  obtain ⟨rfl, h1, h2⟩ := h
  exact ⟨_, rfl, h1, h2⟩
theorem cell_bool {u : TypeId} {x : Value} (hu : P.underlying u = some .bool) (h : Cell.okWide P w .any base u x) : ∃ b, x = .bool b := by
  unfold Cell.okWide at h
  rw [hu] at h
  cases x <;> simp [Cell.ok, hu] at h
  exact ⟨_, rfl⟩
theorem cell_string {u : TypeId} {x : Value} (hu : P.underlying u = some .string) (h : Cell.okWide P w .any base u x) : ∃ s, x = .string s := by
  unfold Cell.okWide at h
  rw [hu] at h
  cases x <;> simp [Cell.ok, hu] at h
  exact ⟨_, rfl⟩
theorem cell_one {u : TypeId} {x : Value} (h : Cell.okWide P w .any base u x) : x.oneCell' = true := by
  cases x <;> first | rfl | (exfalso; unfold Cell.okWide Cell.ok at h; split at h <;> simp_all <;> (split at h <;> simp_all))
theorem cells_one {ts : List TypeId} {cs : List Value} (hl : cs.length = ts.length) (h : ∀ (i : Nat) (u : TypeId) (x : Value), ts[i]? = some u → cs[i]? = some x → Cell.okWide P w .any base u x) : cs.all (·.oneCell') = true := by
  rw [List.all_eq_true]
  intro x hx
  obtain ⟨i, hi⟩ := List.mem_iff_getElem?.1 hx
  have hlt : i < ts.length := by rw [← hl]; exact (List.getElem?_eq_some_iff.1 hi).1
  exact cell_one (h i ts[i] x (by simp [hlt]) hi)

variable {H : Type} {enc : TypeId × Value → H}
/-- An argument reads behind the call as it did. -/
theorem stays {t : TypeId} (hl : laidOutB P = true) (hr : P.readableRec t = true) (hrow : t < P.types.size) {W W' : World} {before ps : List MemPlace} {sp : Nat → Bool} {v : Value} {d : DataW H} (hb : Below W.heap.size W W') (hlt : ∀ x ∈ before, x.block < W.heap.size)
    (hsp : ∀ x ∈ before, sp x.block = true) (hsub : ∀ x ∈ ps, x ∈ before) (h : DataW.Trod enc P W 0 (fun _ => true) true t v d ps) : DataW.Trod enc P W' 0 sp true t v d ps :=
  WideElems.Trod_stays hl hr hrow h (fun x hx => hb.same (hlt x (hsub x hx))) (fun x hx => hsp x (hsub x hx))

theorem post_of_below {f : Func} {s : ChangeSpec} {apart fresh handsOn again : Bool} {W W' : World} {args : Array Value} {v : Value} {ds gs : List (DataW H)} {before pa pv : List MemPlace}
    (hW : DataW.Whole enc P f.params.toList s.vars apart W args.toList ds gs before)
    (hres : ∀ (b : Nat) (sp : Nat → Bool) (hd : Bool), DataW.TrodAll enc P W' b sp hd f.resultTypes.toList (v.resultList f.resultTypes.size) (s.fn H (ds ++ gs)).results [])
    (hargs : ∀ sp : Nat → Bool, (∀ p ∈ before, sp p.block = true) → DataW.TrodAll enc P W' 0 sp true f.params.toList args.toList (s.fn H (ds ++ gs)).args pa)
    (hvars : ∀ sp : Nat → Bool, (∀ p ∈ before, sp p.block = true) → DataW.TrodVars enc P W' sp s.vars (s.fn H (ds ++ gs)).vars pv)
    (hps : before = pa ++ pv) (hb : Below W.heap.size W W')
    (hok : ∀ (j : Nat) (t : TypeId) (r : Value), f.resultTypes[j]? = some t → (v.resultList f.resultTypes.size)[j]? = some r → Value.okWide P W' .any 0 t r) :
    s.post enc P f apart fresh handsOn again W args v W' := by
  have hlt : ∀ p ∈ before, p.block < W.heap.size := fun p hp => hW.lt p hp
  have hold : ∀ p ∈ before, (fun b => decide (b < W.heap.size)) p.block = true := fun p hp => by simpa using hlt p hp
  refine ⟨ds, gs, before, [], pa, pv, hW, hres _ _ _, hargs _ hold, hvars _ hold, World.keptBut_mono (fun p hp => ⟨hp, ?_⟩) (hb.frame (· ∈ before)), fun _ => ?_⟩
  · rw [hps, List.mem_append] at hp
    exact Or.inr hp
  · obtain ⟨_, _, _, _, _, hz, hn⟩ := hW
    refine ⟨hok, _, _, ([] ++ pa) ++ pv, ⟨[] ++ pa, pv, trodAll_append (hargs _ (fun _ _ => rfl)) (hres _ _ _), hvars _ (fun _ _ => rfl), rfl, ?_, ?_⟩, ?_⟩
    · intro b off hp
      have hin : MemPlace.cell b off ∈ before := by rw [hps]; simpa using hp
      rw [hb.frozen (hlt _ hin)]
      exact hz b off hin
    · intro ha
      have := hn ha
      rw [hps] at this
      simpa using this
    · intro p hp _
      rw [hps]
      simpa using hp
end
end Go.Proofs.YtjpkfdmjhgnmbaaGreat.Gv
