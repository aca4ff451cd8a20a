/- (*wire.Reader).Text. -/
import Derived.Test.YthlpdficpmdebaaGreatJ5
import Derived.Test.YthlpdficpmdebaaGreatJ3
namespace Go.Proofs.YthlpdficpmdebaaGreat.Wire
open Go Go.RowKit Go.Lib
theorem extract_eq (b : ByteArray) (i k n : Nat) : b.extract (i + k) (i + k + n) = ⟨(List.take (n : Int).toNat (List.drop k (List.drop i (bl b)))).toArray⟩ := by
  apply ByteArray.ext
  apply Array.ext'
  rw [ByteArray.data_extract, Array.toList_extract]
  simp [bl, List.drop_drop]
set_option maxRecDepth 20000 in
set_option maxHeartbeats 1000000 in
theorem rText_any (p : Nat) (e : Int) (b : ByteArray) (at_ : Nat) (w : World) (h : Rd p e b at_ w) (hat : at_ ≤ b.size) (hb : b.size ≤ 1000000000000) :
    Calls Tryz.prog 42 #[.pointer (some ⟨p, 0, none⟩)] w (REnd p b (.string ⟨(rText ⟨e, (bl b).drop at_⟩).1.toArray⟩) (rText ⟨e, (bl b).drop at_⟩).2 w) := by
  by_cases he : e ≠ 0
  · rw [rText, if_pos he]
    have HR := Lib.hid h
    have HE := Lib.hid he
    clear h he
    go_enter Tryz.func42, Tryz.ntmps42
    go_wp2_with (go_at_call 138; refine (off_yes _ _ HE.out _ _ _ HR.out).mono ?_; rintro e1 w1 ⟨rfl, rfl⟩)
    refine bodyPost_ret (results_tmp rfl _ _ _) rfl ?_
    exact ⟨rfl, World.grownBy.refl _ _, at_, hat, HR.out, rfl⟩
  · have he0 : e = 0 := by omega
    subst he0
    rw [rText, if_neg he]
    clear he
    obtain ⟨⟨v, k, x⟩, hr⟩ : ∃ r, rdN ((bl b).drop at_) 0 0 = r := ⟨_, rfl⟩
    simp only [hr]
    have HR := Lib.hid h
    have HRD := Lib.hid hr
    have f0 := h.froz 0
    have f2 := h.froz 2
    obtain ⟨c0, c1, c2⟩ := h.cells
    clear h hr
    by_cases hx : x ≠ 0
    · have hc : tErr ((bl b).drop at_).length (v, k, x) = x := by unfold tErr; rw [if_pos hx]
      rw [hc, if_pos hx]
      have HX := Lib.hid hx
      have hb1 : (x == 0) = false := by simpa using hx
      have hb2 : (x != 0) = true := by simpa using hx
      clear hx hc
      go_enter Tryz.func42, Tryz.ntmps42
      go_wp2_with (first
        | (go_at_call 138; refine (off_no _ _ _ _ HR.out).mono ?_; rintro e1 w1 ⟨rfl, rfl⟩)
        | (go_at_call 139; refine (rnum_bad _ _ _ _ _ HR.out hat hb v x k HX.out HRD.out).mono ?_; rintro e1 w1 ⟨rfl, n1, rfl⟩)
        | (go_at_call 135; refine (fail_any p x (w.drewN n1) c0 f0).mono ?_; rintro e1 w1 ⟨⟨u, rfl⟩, rfl⟩))
      refine bodyPost_ret (results_tmp rfl _ _ _) rfl ?_
      exact ⟨rfl, only_set (only_drewN (World.grownBy.refl _ _) _) _, at_, hat, (HR.out.drewN n1).setE, rfl⟩
    · have hx0 : x = 0 := by omega
      subst hx0
      clear hx
      by_cases h1 : v > 1000
      · have hc : tErr ((bl b).drop at_).length (v, k, 0) = 2 := by unfold tErr; rw [if_neg (by simp), if_pos h1]
        rw [hc, if_pos (by decide)]
        clear hc
        go_enter Tryz.func42, Tryz.ntmps42
        go_wp2_with (first
          | (go_at_call 138; refine (off_no _ _ _ _ HR.out).mono ?_; rintro e1 w1 ⟨rfl, rfl⟩)
          | (go_at_call 139; refine (rnum_ok _ _ _ _ _ HR.out hat hb v k HRD.out).mono ?_; rintro e1 w1 ⟨rfl, n1, rfl⟩)
          | (go_at_call 135; refine (fail_any p 2 (w.drewN n1) c0 f0).mono ?_; rintro e1 w1 ⟨⟨u, rfl⟩, rfl⟩))
        refine bodyPost_ret (results_tmp rfl _ _ _) rfl ?_
        exact ⟨rfl, only_set (only_drewN (World.grownBy.refl _ _) _) _, at_, hat, (HR.out.drewN n1).setE, rfl⟩
      · by_cases h2 : v < 0
        · have hc : tErr ((bl b).drop at_).length (v, k, 0) = 4 := by unfold tErr; rw [if_neg (by simp), if_neg h1, if_pos h2]
          rw [hc, if_pos (by decide)]
          clear hc
          go_enter Tryz.func42, Tryz.ntmps42
          go_wp2_with (first
            | (go_at_call 138; refine (off_no _ _ _ _ HR.out).mono ?_; rintro e1 w1 ⟨rfl, rfl⟩)
            | (go_at_call 139; refine (rnum_ok _ _ _ _ _ HR.out hat hb v k HRD.out).mono ?_; rintro e1 w1 ⟨rfl, n1, rfl⟩)
            | (go_at_call 135; refine (fail_any p 4 (w.drewN n1) c0 f0).mono ?_; rintro e1 w1 ⟨⟨u, rfl⟩, rfl⟩))
          refine bodyPost_ret (results_tmp rfl _ _ _) rfl ?_
          exact ⟨rfl, only_set (only_drewN (World.grownBy.refl _ _) _) _, at_, hat, (HR.out.drewN n1).setE, rfl⟩
        · have hn : (((bl b).drop at_).length : Int) = (b.size : Int) - at_ := by rw [bl_drop_len]; omega
          have hk := rd_le HRD.out
          rw [bl_drop_len] at hk
          obtain ⟨A, hA⟩ : ∃ A, at_ + k = A := ⟨_, rfl⟩
          have hAle : A ≤ b.size := by omega
          obtain ⟨nv, hnv⟩ : ∃ nv : Nat, v = nv := ⟨v.toNat, by omega⟩
          subst hnv
          have HC : Hid (Calls Tryz.prog 139 #[.pointer (some ⟨p, 0, none⟩)] w fun en w' => en = .returned (.tuple #[.int .i64 (nv : Int), .int .i64 (A : Int), .int .i64 0]) ∧ ∃ n, w' = w.drewN n) := Lib.hid (by rw [← hA]; exact rnum_ok _ _ _ _ _ HR.out hat hb _ _ HRD.out)
          by_cases h3 : (nv : Int) > (b.size : Int) - A
          · have hc : tErr ((bl b).drop at_).length ((nv : Int), k, 0) = 5 := by
              unfold tErr
              rw [if_neg (by simp), if_neg h1, if_neg h2, if_pos (by rw [hn]; show (nv : Int) > (b.size : Int) - at_ - (k : Int); omega)]
            rw [hc, if_pos (by decide)]
            have HA := Lib.hid hA
            clear hc hn hA hk
            go_enter Tryz.func42, Tryz.ntmps42
            go_wp2_with (first
              | (go_at_call 138; refine (off_no _ _ _ _ HR.out).mono ?_; rintro e1 w1 ⟨rfl, rfl⟩)
              | (go_at_call 139; refine HC.out.mono ?_; rintro e1 w1 ⟨rfl, n1, rfl⟩)
              | (go_at_call 135; refine (fail_any p 5 (w.drewN n1) c0 f0).mono ?_; rintro e1 w1 ⟨⟨u, rfl⟩, rfl⟩))
            refine bodyPost_ret (results_tmp rfl _ _ _) rfl ?_
            exact ⟨rfl, only_set (only_drewN (World.grownBy.refl _ _) _) _, at_, hat, (HR.out.drewN n1).setE, rfl⟩
          · have hc : tErr ((bl b).drop at_).length ((nv : Int), k, 0) = 0 := by
              unfold tErr
              rw [if_neg (by simp), if_neg h1, if_neg h2, if_neg (by rw [hn]; show ¬ (nv : Int) > (b.size : Int) - at_ - (k : Int); omega)]
            rw [hc, if_neg (by decide)]
            have h4 : A + nv ≤ b.size := by omega
            have HA := Lib.hid hA
            have HH4 := Lib.hid h4
            clear hc hn hA hk h4
            go_enter Tryz.func42, Tryz.ntmps42
            go_wp2_with (first
              | (go_at_call 138; refine (off_no _ _ _ _ HR.out).mono ?_; rintro e1 w1 ⟨rfl, rfl⟩)
              | (go_at_call 139; refine HC.out.mono ?_; rintro e1 w1 ⟨rfl, n1, rfl⟩))
            have h9 := (HR.out.drewN n1).setAt (A + nv)
            rw [show ((A + nv : Nat) : Int) = (A : Int) + nv by omega] at h9
            have hG : w.grownBy ((w.drewN n1).setCell ⟨p, 2, none⟩ (.int .i64 ((A : Int) + nv))) (some p) := only_set (only_drewN (World.grownBy.refl _ _) _) _
            have HG := Lib.hid hG
            clear hG
            generalize (w.drewN n1).setCell ⟨p, 2, none⟩ (.int .i64 ((A : Int) + nv)) = W2 at h9 HG ⊢
            obtain ⟨e0, e1, e2⟩ := h9.cells
            have H9 := Lib.hid h9
            clear h9
            have hsl : ∀ W : World, (Instr.slice 9 (.string b) (some (.int .i64 (A : Int))) (some (.int .i64 ((A : Int) + nv))) none).run Tryz.prog W = .ok (.string (b.extract A (A + nv))) W := fun W => by
              have h := run_slice_string (P := Tryz.prog) W 9 b .i64 .i64 (A : Int) ((A : Int) + nv) Tryz.underlying9 (by omega) (by omega) (by have := HH4.out; omega)
              rw [show ((A : Int)).toNat = A from by omega, show ((A : Int) + nv).toNat = A + nv from by omega] at h
              exact h
            go_quiet (fail)
            clear hsl
            go_wp2_with fail
            go_ret
            have hH := HH4.out
            have hAA := HA.out
            subst hAA
            refine ⟨by rw [extract_eq]; rfl, ?_, at_ + k + nv, hH, H9.out.drewN nq, by simp [List.drop_drop]⟩
            exact only_drewN HG.out nq
end Go.Proofs.YthlpdficpmdebaaGreat.Wire
/- What a writer leaves as it was: EVERY other block in which its own row does not lie. (For the document's chain: to be laid beside Keeps.) -/
namespace Go.Proofs.YthlpdficpmdebaaGreat.Wire
open Go Go.RowKit Go.Lib
/-- The row of the writer at p (its first cell) does not lie in block b. -/
def RowOff (p b : Nat) (w : World) : Prop := ∀ v e t fr, w.heap[p]? = some (.cells #[v, e] t fr) → v.ownBlock ≠ some b
def KeepsR (p : Nat) (w w' : World) : Prop := ∀ b, b < w.heap.size → b ≠ p → RowOff p b w → w'.heap[b]? = w.heap[b]? ∧ RowOff p b w'
theorem KeepsR.refl (p : Nat) (w : World) : KeepsR p w w := fun _ _ _ h => ⟨rfl, h⟩
theorem KeepsR.trans {p : Nat} {a b c : World} (h : KeepsR p a b) (k : KeepsR p b c) : KeepsR p a c := fun x hx hp hr => by
  obtain ⟨h1, h2⟩ := h x hx hp hr
  have hx2 : x < b.heap.size := by
    rcases Nat.lt_or_ge x b.heap.size with h3 | h3
    · exact h3
    · rw [Array.getElem?_eq_none h3, Array.getElem?_eq_getElem hx] at h1; cases h1
  obtain ⟨k1, k2⟩ := k x hx2 hp h2
  exact ⟨k1.trans h1, k2⟩
theorem KeepsR.alloc {p : Nat} {w : World} (hp : p < w.heap.size) (o : Obj) : KeepsR p w (w.alloc o) := fun b hb _ hr =>
  ⟨Below.heap_alloc w o b hb, fun v e t fr h => hr v e t fr ((Below.heap_alloc w o p hp).symm.trans h)⟩
/-- Any cell but the first is set (the error). -/
theorem KeepsR.set1 {p : Nat} {w : World} {v e : Value} {t : TypeId} (hp : w.heap[p]? = some (.cells #[v, e] t (0, 0))) (u : Value) : KeepsR p w (w.setCell ⟨p, 1, none⟩ u) := fun b hb hbp hr =>
  ⟨(grownBy_setCell w p 1 u).block b hb (fun h => hbp (Option.some.inj h)), fun v' e' t' fr' h => by
    have h1 := Go.Lib.heap_setCell_same (i := 1) hp u
    rw [h1] at h
    have h2 : (#[v, e].setIfInBounds 1 u) = #[v, u] := rfl
    simp only [Option.some.injEq, Obj.cells.injEq] at h
    have h3 : #[v, u] = #[v', e'] := h.1
    have h4 : v = v' := by have h5 := congrArg Array.toList h3; injection h5
    rw [← h4]
    exact hr v e t (0, 0) hp⟩
/-- The row grows and is set anew. -/
theorem KeepsR.put {p : Nat} {w w1 : World} {v v' e : Value} {t : TypeId} (hp : w.heap[p]? = some (.cells #[v, e] t (0, 0))) (hne : v.ownBlock ≠ some p) (hg : w.grownBy w1 v.ownBlock) (hat : v'.ownBlock = v.ownBlock ∨ v'.ownBlock = some w.heap.size) : KeepsR p w (w1.setCell ⟨p, 0, none⟩ v') := fun b hb hbp hr => by
  have hvb := hr v e t (0, 0) hp
  have hp1 : w1.heap[p]? = some (.cells #[v, e] t (0, 0)) := (hg.block p (blk_lt hp) (fun h => hne h.symm)).trans hp
  refine ⟨((grownBy_setCell w1 p 0 v').block b (Nat.lt_of_lt_of_le hb hg.size) (fun h => hbp (Option.some.inj h))).trans (hg.block b hb (fun h => hvb h.symm)), fun u e' t' fr' h => ?_⟩
  have h1 := Go.Lib.heap_setCell_same (i := 0) hp1 v'
  rw [h1] at h
  simp only [Option.some.injEq, Obj.cells.injEq] at h
  have h3 : #[v', e] = #[u, e'] := h.1
  have h4 : v' = u := by have h5 := congrArg Array.toList h3; injection h5
  rw [← h4]
  rcases hat with ha | ha
  · rw [ha]; exact hvb
  · rw [ha]; intro hh; have := Option.some.inj hh; omega
/-- The other form, for the append of a string too (its law does not say where the new row lies): the row stays above a bound. -/
def RowUp (p B : Nat) (w : World) : Prop := ∀ v e t fr, w.heap[p]? = some (.cells #[v, e] t fr) → ∀ g, v.ownBlock = some g → B ≤ g
def KeepsU (p : Nat) (w w' : World) : Prop := w.heap.size ≤ w'.heap.size ∧ ∀ B, B ≤ w.heap.size → RowUp p B w → (∀ b, b < B → b ≠ p → w'.heap[b]? = w.heap[b]?) ∧ RowUp p B w'
theorem KeepsU.refl (p : Nat) (w : World) : KeepsU p w w := ⟨Nat.le_refl _, fun _ _ h => ⟨fun _ _ _ => rfl, h⟩⟩
theorem KeepsU.trans {p : Nat} {a b c : World} (h : KeepsU p a b) (k : KeepsU p b c) : KeepsU p a c := ⟨Nat.le_trans h.1 k.1, fun B hB hr => by
  obtain ⟨h1, h2⟩ := h.2 B hB hr
  obtain ⟨k1, k2⟩ := k.2 B (Nat.le_trans hB h.1) h2
  exact ⟨fun x hx hp => (k1 x hx hp).trans (h1 x hx hp), k2⟩⟩
theorem KeepsU.alloc {p : Nat} {w : World} (hp : p < w.heap.size) (o : Obj) : KeepsU p w (w.alloc o) := ⟨by simp, fun B hB hr =>
  ⟨fun b hb _ => Below.heap_alloc w o b (by omega), fun v e t fr h => hr v e t fr ((Below.heap_alloc w o p hp).symm.trans h)⟩⟩
/-- The bound under which a row may be owned anew: its own block, or the next one to be made. -/
def ownAt (v : Value) (w : World) : Nat := v.ownBlock.getD w.heap.size
theorem own_at {w : World} {base e size n : Nat} {v : Value} {xs : List Value} (h : w.ownsRow base e size v n xs) : w.ownsRow (ownAt v w) e size v n xs := by
  obtain ⟨h1, h2⟩ := h
  refine ⟨h1, ?_⟩
  rcases h2 with h2 | ⟨g, cap, cur, a, b, c⟩
  · exact .inl h2
  · exact .inr ⟨g, cap, cur, a, by subst a; exact Nat.le_refl _, c⟩
theorem own_at_le {v : Value} {w : World} {B : Nat} (hB : B ≤ w.heap.size) (h : ∀ g, v.ownBlock = some g → B ≤ g) : B ≤ ownAt v w := by
  unfold ownAt
  cases hv : v.ownBlock with
  | none => exact hB
  | some g => exact h g hv
/-- The row grows (owned under ownAt) and is set anew. -/
theorem KeepsU.put {p n : Nat} {w w1 : World} {v v' e : Value} {t el size : TypeId} {xs : List Value} (hp : w.heap[p]? = some (.cells #[v, e] t (0, 0))) (hne : v.ownBlock ≠ some p) (hg : w.grownBy w1 v.ownBlock) (hown : w1.ownsRow (ownAt v w) el size v' n xs) : KeepsU p w (w1.setCell ⟨p, 0, none⟩ v') := by
  refine ⟨Nat.le_trans hg.size (grownBy_setCell w1 p 0 v').size, fun B hB hr => ?_⟩
  have hvb := hr v e t (0, 0) hp
  have hp1 : w1.heap[p]? = some (.cells #[v, e] t (0, 0)) := (hg.block p (blk_lt hp) (fun h => hne h.symm)).trans hp
  refine ⟨fun b hb hbp => ((grownBy_setCell w1 p 0 v').block b (Nat.lt_of_lt_of_le (Nat.lt_of_lt_of_le hb hB) hg.size) (fun h => hbp (Option.some.inj h))).trans (hg.block b (by omega) (fun h => by have := hvb b h.symm; omega)), fun u e' t' fr' h g hug => ?_⟩
  have h1 := Go.Lib.heap_setCell_same (i := 0) hp1 v'
  rw [h1] at h
  simp only [Option.some.injEq, Obj.cells.injEq] at h
  have h3 : #[v', e] = #[u, e'] := h.1
  have h4 : v' = u := by have h5 := congrArg Array.toList h3; injection h5
  rw [← h4] at hug
  exact Nat.le_trans (own_at_le hB hvb) (own_ge hown g hug)
end Go.Proofs.YthlpdficpmdebaaGreat.Wire
/- (*complineref1.Writer).Num puts a number's bytes. -/
namespace Go.Proofs.YthlpdficpmdebaaGreat.Wire
open Go Go.RowKit Go.Lib
theorem own_down {w : World} {base base' e size n : Nat} {v : Value} {xs : List Value} (h : w.ownsRow base e size v n xs) (hb : base' ≤ base) : w.ownsRow base' e size v n xs := by
  obtain ⟨h1, h2⟩ := h
  refine ⟨h1, ?_⟩
  rcases h2 with h2 | ⟨g, cap, cur, a, b, c⟩
  · exact .inl h2
  · exact .inr ⟨g, cap, cur, a, by omega, c⟩
theorem own_at_size {w : World} {base e size n : Nat} {v : Value} {xs : List Value} (h : w.ownsRow base e size v n xs) : ownAt v w ≤ w.heap.size := by
  unfold ownAt
  cases hv : v.ownBlock with
  | none => exact Nat.le_refl _
  | some g => have := (h.lt g hv).2; show g ≤ _; omega
/-- The document's writer at block p. -/
def RWr (B p : Nat) (e : Int) (l : List UInt8) (w : World) : Prop :=
  B ≤ p ∧ ∃ v, w.heap[p]? = some (.cells #[v, .int .i64 e] 93 (0, 0)) ∧ w.ownsRow B 5 1 v l.length (byteCells l) ∧ v.ownBlock ≠ some p
theorem RWr.step {B p : Nat} {e : Int} {l : List UInt8} {n : Nat} {xs : List Value} (m : List UInt8) {w w1 : World} {v v' : Value} (hB : B ≤ p) (hp : w.heap[p]? = some (.cells #[v, .int .i64 e] 93 (0, 0))) (h0 : w.ownsRow B 5 1 v l.length (byteCells l))
    (hown : w1.ownsRow B 5 1 v' n xs) (hn : n = l.length + m.length) (hxs : xs = byteCells l ++ byteCells m) (hg : w.grownBy w1 v.ownBlock) :
    RWr B p e (l ++ m) (w1.setCell ⟨p, 0, none⟩ v') := by
  subst hn
  subst hxs
  have hp1 : w1.heap[p]? = some (.cells #[v, .int .i64 e] 93 (0, 0)) := (hg.block p (blk_lt hp) (fun h => own_ne h0 hp (by decide) h.symm)).trans hp
  have hne1 := own_ne hown hp1 (by decide)
  refine ⟨hB, v', ?_, ?_, hne1⟩
  · exact Go.Lib.heap_setCell_same (i := 0) hp1 v'
  · have := hown.kept (grownBy_setCell w1 p 0 v') (Or.inr hne1)
    simpa [byteCells, List.length_append] using this
theorem RWr.cells {B p : Nat} {e : Int} {l : List UInt8} {w : World} (h : RWr B p e l w) : w.cell? ⟨p, 1, none⟩ = some (.int .i64 e) ∧ w.frozen? ⟨p, 1, none⟩ = false ∧ B ≤ w.heap.size := by
  obtain ⟨hB, v, hp, _⟩ := h
  exact ⟨by rw [cell_p hp]; rfl, frozen_p hp, by have := blk_lt hp; omega⟩
theorem zz_pos {v : Int} (h : okI v) (hv : 0 ≤ v) : IntKind.u64.wrap (IntKind.u64.wrap v * 2) = ((zz v : Nat) : Int) := by
  obtain ⟨h1, h2⟩ := h
  unfold zz
  rw [if_pos hv, IntKind.wrap_u64, IntKind.wrap_u64]; omega
theorem zz_neg {v : Int} (h : okI v) (hv : v < 0) : IntKind.u64.wrap (IntKind.u64.wrap (IntKind.u64.wrap (wrap64 (-wrap64 (v + 1))) * 2) + 1) = ((zz v : Nat) : Int) := by
  obtain ⟨h1, h2⟩ := h
  unfold zz
  rw [if_neg (by omega)]
  simp only [IntKind.wrap_u64, w64, IntKind.wrap_i64]
  omega
set_option maxRecDepth 20000 in
theorem rwnum_any (B p : Nat) (v : Int) (l : List UInt8) (w : World) (h : RWr B p 0 l w) (hv : okI v) (hl : l.length ≤ 2000000000000) :
    Calls Tryz.prog 35 #[.pointer (some ⟨p, 0, none⟩), .int .i64 v] w fun en w' => (∃ u, en = .returned u) ∧ RWr B p 0 (l ++ numB v) w' ∧ Below B w w' ∧ Keeps p w w' ∧ KeepsU p w w' := by
  obtain ⟨i0, hi0, hz0, hz1, hz2⟩ := info_parts u8_info
  obtain ⟨hB, vv, hp, hown, hne⟩ := h
  have c0 : w.cell? ⟨p, 1, none⟩ = some (.int .i64 0) := by rw [cell_p hp]; rfl
  have HP := Lib.hid hp
  have HV := Lib.hid hv
  have HLL := Lib.hid hl
  clear hp hv hl
  go_enter Tryz.func35, Tryz.ntmps35
  have HZ := Lib.hid (zz_lt HV.out.1 HV.out.2)
  by_cases hv0 : v < 0
  all_goals
    go_wp2_with fail
    first
      | rw [zz_neg HV.out hv0]
      | rw [zz_pos HV.out hv0]
    go_loopw [4] (fun n wr => ∃ (k : Nat) (l' : List UInt8), n = .int .u64 k ∧ k < 18446744073709551616 ∧ l' ++ vb k = l ++ numB v ∧ l'.length + (vb k).length ≤ 2000000000010 ∧ RWr B p 0 l' wr ∧ Below B w wr ∧ Keeps p w wr ∧ KeepsU p w wr) (fun n _ => (intOf n).toNat)
    case atStart => exact ⟨zz v, l, rfl, HZ.out, rfl, by have := vb_len10 HZ.out; have := HLL.out; omega, ⟨hB, vv, HP.out, hown, hne⟩, Below.refl _ _, Keeps.refl _ _, KeepsU.refl _ _⟩
    case round =>
      obtain ⟨k, l', rfl, hk, hl', hlen, ⟨_, v1, hp1, hown1, hne1⟩, hb, hkp, hku⟩ := hrel
      have d0 : wr.cell? ⟨p, 1, none⟩ = some (.int .i64 0) := by rw [cell_p hp1]; rfl
      have d1 : wr.cell? ⟨p, 0, none⟩ = some v1 := by rw [cell_p hp1]; rfl
      have g1 : wr.frozen? ⟨p, 0, none⟩ = false := frozen_p hp1
      have HP1 := Lib.hid hp1
      have HL := Lib.hid hl'
      have HK := Lib.hid hk
      have HN := Lib.hid hlen
      clear hp1 hl' hk hlen
      have hbs : B ≤ wr.heap.size := by have := blk_lt HP1.out; omega
      by_cases h7 : k < 128
      · go_wp2_with ((at_builtin
                      refine wpList_append_own_at _ rfl (.tmp 42) (.tmp 45) _ rfl (ownAt v1 (wr.alloc (.cells #[.int .u8 (k : Int)] 5))) 5 i0 _ 1 1 Tryz.underlying91 hi0 hz0 hz1 hz2 rfl (by omega) v1 l'.length (byteCells l') rfl (own_at (hown1.alloc (.cells #[.int .u8 (k : Int)] 5))) ⟨wr.heap.size, 0, none⟩ 1 1 [.int .u8 k] rfl rfl (cell_one_new _ _ _) (by simp [Value.oneCell']) (by have := HN.out; unfold maxLen; omega) (by have := HN.out; omega) (own_at_size (hown1.alloc (.cells #[.int .u8 (k : Int)] 5))) ?_
                      intro v2 w2 hownA hg2 _ hat2
                      have hown2 := own_down hownA (own_at_le (B := B) (by simp; omega) (own_ge (hown1.alloc (.cells #[.int .u8 (k : Int)] 5))))
                      obtain ⟨g2, cap2, rfl, hf2, hf3⟩ := hownA.form (by omega)
                      clear hat2
                      have hpa := (Below.heap_alloc wr (.cells #[.int .u8 (k : Int)] 5) p (blk_lt HP1.out)).trans HP1.out
                      have hp2 := (hg2.block p (blk_lt hpa) (fun hh => own_ne (hown1.alloc _) hpa (by decide) hh.symm)).trans hpa
                      have e1 : w2.cell? ⟨p, 0, none⟩ = some v1 := by rw [cell_p hp2]; rfl
                      have e2 : w2.frozen? ⟨p, 0, none⟩ = false := frozen_p hp2
                      have HP2 := Lib.hid hpa
                      clear hpa hp2))
        go_end0
        have hl2 : l' ++ [UInt8.ofNat k] = l ++ numB v := by rw [← HL.out, vb_small h7]
        refine ⟨⟨_, rfl⟩, ?_, (below_grown (hb.alloc hbs _) hg2 (by simp; omega) (own_ge hown1)).setCell (p := ⟨p, 0, none⟩) hB _, hkp.trans (Keeps.put (hown1.alloc _) hg2 _), hku.trans ((KeepsU.alloc (blk_lt HP1.out) _).trans (KeepsU.put HP2.out hne1 hg2 hownA))⟩
        rw [← hl2]
        exact RWr.step [UInt8.ofNat k] hB HP2.out (hown1.alloc _) hown2 rfl (by simp [byteCells, byte_of (show k < 256 by omega)]) hg2
      · have h8 : 128 ≤ k := by omega
        have hbt : IntKind.u8.wrap (IntKind.u8.wrap ((k : Int).tmod 128) + 128) = ((k % 128 + 128 : Nat) : Int) := by
          rw [Int.tmod_eq_emod_of_nonneg (by omega), wrap_u8, wrap_u8]; omega
        go_wp2_with ((at_builtin
                      refine wpList_append_own_at _ rfl (.tmp 27) (.tmp 32) _ rfl (ownAt v1 (wr.alloc (.cells #[.int .u8 ((k : Int) % 128 + 128)] 5))) 5 i0 _ 1 1 Tryz.underlying91 hi0 hz0 hz1 hz2 rfl (by omega) v1 l'.length (byteCells l') rfl (own_at (hown1.alloc (.cells #[.int .u8 ((k : Int) % 128 + 128)] 5))) ⟨wr.heap.size, 0, none⟩ 1 1 [.int .u8 ((k : Int) % 128 + 128)] rfl rfl (cell_one_new _ _ _) (by simp [Value.oneCell']) (by have := HN.out; unfold maxLen; omega) (by have := HN.out; omega) (own_at_size (hown1.alloc (.cells #[.int .u8 ((k : Int) % 128 + 128)] 5))) ?_
                      intro v2 w2 hownA hg2 _ hat2
                      have hown2 := own_down hownA (own_at_le (B := B) (by simp; omega) (own_ge (hown1.alloc (.cells #[.int .u8 ((k : Int) % 128 + 128)] 5))))
                      obtain ⟨g2, cap2, rfl, hf2, hf3⟩ := hownA.form (by omega)
                      clear hat2
                      have hpa := (Below.heap_alloc wr (.cells #[.int .u8 ((k : Int) % 128 + 128)] 5) p (blk_lt HP1.out)).trans HP1.out
                      have hp2 := (hg2.block p (blk_lt hpa) (fun hh => own_ne (hown1.alloc _) hpa (by decide) hh.symm)).trans hpa
                      have e1 : w2.cell? ⟨p, 0, none⟩ = some v1 := by rw [cell_p hp2]; rfl
                      have e2 : w2.frozen? ⟨p, 0, none⟩ = false := frozen_p hp2
                      have HP2 := Lib.hid hpa
                      clear hpa hp2))
        go_roundw
        case rel =>
          have hvb := vb_big h7
          refine ⟨k / 128, l' ++ [UInt8.ofNat (k % 128 + 128)], by have := HK.out; simp [IntKind.wrap_u64]; omega, by have := HK.out; omega, ?_, ?_, ?_, (below_grown (hb.alloc hbs _) hg2 (by simp; omega) (own_ge hown1)).setCell (p := ⟨p, 0, none⟩) hB _, hkp.trans (Keeps.put (hown1.alloc _) hg2 _), hku.trans ((KeepsU.alloc (blk_lt HP1.out) _).trans (KeepsU.put HP2.out hne1 hg2 hownA))⟩
          · rw [← HL.out, hvb]; simp
          · have := HN.out; rw [hvb] at this; simp only [List.length_cons, List.length_append, List.length_nil] at this ⊢; omega
          · refine RWr.step [UInt8.ofNat (k % 128 + 128)] hB HP2.out (hown1.alloc _) hown2 rfl ?_ hg2
            have e9 : (((UInt8.ofNat (k % 128 + 128)).toNat : Nat) : Int) = (k : Int) % 128 + 128 := by rw [byte_of (by omega)]; omega
            simp only [byteCells, List.map_cons, List.map_nil, e9]
        case measure => have := HK.out; simp [intOf, IntKind.wrap_u64]; omega
end Go.Proofs.YthlpdficpmdebaaGreat.Wire
