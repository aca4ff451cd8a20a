/- What comes in: a slice of sets (legs; takes with their pledges). -/
import Derived.Test.YtgmbppfkkiobhaaGreatChkA
import Derived.Test.YtgmbppfkkiobhaaGreatWireB
import Derived.Deep.SlicePairs
namespace Go.Proofs.YtgmbppfkkiobhaaGreat.Wire
open Go Go.RowKit Go.Lib Go.ChangeShapes Go.WideShapes
/-- Numbers and texts as values have them. -/
def SetNum (x : SetD) : Prop := (∀ y ∈ x.legs, LegOk y) ∧ ∀ t ∈ x.takes, okI t.amount ∧ t.acc.length ≤ maxLen ∧ t.ccy.length ≤ maxLen ∧ ∀ y ∈ t.pl, PlIn y
theorem list_of {α : Type} : ∀ (n : Nat) (p : Nat → α → Prop), (∀ i, i < n → ∃ x, p i x) → ∃ xs : List α, xs.length = n ∧ ∀ (i : Nat) (x : α), xs[i]? = some x → p i x
  | 0, _, _ => ⟨[], rfl, fun i x h => by simp at h⟩
  | n + 1, p, h => by
    obtain ⟨xs, hl, hx⟩ := list_of n p (fun i hi => h i (by omega))
    obtain ⟨x, hp⟩ := h n (by omega)
    refine ⟨xs ++ [x], by simp [hl], fun i z hz => ?_⟩
    rcases Nat.lt_trichotomy i n with hlt | rfl | hgt
    · rw [List.getElem?_append_left (by omega)] at hz
      exact hx i z hz
    · rw [List.getElem?_append_right (by omega), hl, Nat.sub_self] at hz
      simp only [List.getElem?_cons_zero, Option.some.injEq] at hz
      subst hz
      exact hp
    · rw [List.getElem?_eq_none (by simp [hl]; omega)] at hz
      cases hz
section
variable {H : Type} {enc : TypeId × Value → H} {w : World}
set_option maxRecDepth 20000 in
theorem legs_in {cs : List Value} {fuel : Nat} {y : DataW H × List MemPlace} (h : DataW.trod enc Tryz.prog w 0 (fun _ => true) true fuel 34 cs = some y) :
    ∃ A n c xs, cs = [.slice A n c] ∧ n = xs.length ∧ n ≤ maxLen ∧ LegsAt w A xs ∧ ∀ x ∈ xs, LegOk x := by
  rcases Go.Deep.open_slice_pairs Tryz.underlying34 Tryz.underlying99 (by kernel_rfl) rfl rfl (by kernel_rfl) (by kernel_rfl) h with ⟨rfl, _⟩ | ⟨a, len, cap, m, k, V0, V1, D0, D1, P0, P1, rfl, _, hl, hm, hmm, _, hc⟩
  · exact ⟨none, 0, 0, [], rfl, rfl, by unfold maxLen; omega, fun h0 => absurd rfl h0, by simp⟩
  · simp only [if_true] at hmm
    obtain ⟨xs, hxl, hxs⟩ := list_of (α := LegD) len (fun i x => (w.cell? (a.add (i * 2)) = some (.int .i64 x.id) ∧ w.cell? (a.add (i * 2 + 1)) = some (.int .i64 x.qty)) ∧ LegOk x) (fun i hi => by
      obtain ⟨h0, h1, g0, g1⟩ := hc i (by omega)
      obtain ⟨u, e0, _, hu⟩ := DataW.trod_int Tryz.underlying3 g0
      obtain ⟨v, e1, _, hv⟩ := DataW.trod_int Tryz.underlying3 g1
      injection e0 with e0
      injection e1 with e1
      rw [e0] at h0
      rw [e1] at h1
      exact ⟨⟨u, v⟩, ⟨h0, h1⟩, okI_of hu, okI_of hv⟩)
    refine ⟨some a, len, cap, xs, rfl, hxl.symm, by omega, fun _ => ⟨a, rfl, fun j x hx => (hxs j x hx).1⟩, fun x hx => ?_⟩
    obtain ⟨i, hi⟩ := List.mem_iff_getElem?.1 hx
    exact (hxs i x hi).2
set_option maxRecDepth 20000 in
theorem pls_in {cs : List Value} {fuel : Nat} {y : DataW H × List MemPlace} (h : DataW.trod enc Tryz.prog w 0 (fun _ => true) true fuel 56 cs = some y) :
    ∃ A n c xs, cs = [.slice A n c] ∧ n = xs.length ∧ n ≤ maxLen ∧ PlsAt w A xs ∧ ∀ x ∈ xs, PlIn x := by
  rcases Go.Deep.open_slice_pairs Tryz.underlying56 Tryz.underlying112 (by kernel_rfl) rfl rfl (by kernel_rfl) (by kernel_rfl) h with ⟨rfl, _⟩ | ⟨a, len, cap, m, k, V0, V1, D0, D1, P0, P1, rfl, _, hl, hm, hmm, _, hc⟩
  · exact ⟨none, 0, 0, [], rfl, rfl, by unfold maxLen; omega, fun h0 => absurd rfl h0, by simp⟩
  · simp only [if_true] at hmm
    obtain ⟨xs, hxl, hxs⟩ := list_of (α := PlD) len (fun i x => (w.cell? (a.add (i * 2)) = some (str8 x.asset) ∧ w.cell? (a.add (i * 2 + 1)) = some (.int .i64 x.qty)) ∧ PlIn x) (fun i hi => by
      obtain ⟨h0, h1, g0, g1⟩ := hc i (by omega)
      obtain ⟨u, e0, _, hu⟩ := DataW.trod_string Tryz.underlying9 g0
      obtain ⟨v, e1, _, hv⟩ := DataW.trod_int Tryz.underlying3 g1
      injection e0 with e0
      injection e1 with e1
      rw [e0] at h0
      rw [e1] at h1
      exact ⟨⟨u.data.toList, v⟩, ⟨by rw [h0, str8, Go.Joins.bytes_eta], h1⟩, okI_of hv, by simpa using hu⟩)
    refine ⟨some a, len, cap, xs, rfl, hxl.symm, by omega, fun _ => ⟨a, rfl, fun j x hx => (hxs j x hx).1⟩, fun x hx => ?_⟩
    obtain ⟨i, hi⟩ := List.mem_iff_getElem?.1 hx
    exact (hxs i x hi).2
set_option maxRecDepth 20000 in
theorem take_in {cs : List Value} {fuel : Nat} {y : DataW H × List MemPlace} (h : DataW.trod enc Tryz.prog w 0 (fun _ => true) true fuel 58 cs = some y) :
    ∃ (x : TakeD) (Q : Option Addr) (n c : Nat), cs = [str8 x.acc, str8 x.ccy, .int .i64 x.amount, .slice Q n c] ∧ n = x.pl.length ∧ PlsAt w Q x.pl ∧ okI x.amount ∧ x.acc.length ≤ maxLen ∧ x.ccy.length ≤ maxLen ∧ ∀ z ∈ x.pl, PlIn z := by
  obtain ⟨y0, y1, y2, y3, k, _, hl, h0, h1, h2, h3⟩ := Go.Joins.trod_struct4 Tryz.underlying58 h
  have hc : Tryz.prog.cellsOf 58 = 4 := by kernel_rfl
  rw [hc] at hl
  match cs, hl with
  | [c0, c1, c2, c3], _ =>
    have s1 : Tryz.prog.cellsOf 9 = 1 := by kernel_rfl
    have s2 : Tryz.prog.cellsOf 3 = 1 := by kernel_rfl
    have s3 : Tryz.prog.cellsOf 56 = 1 := by kernel_rfl
    simp only [s1, s2, s3, List.drop_zero, List.drop_succ_cons, List.take_succ_cons, List.take_zero] at h0 h1 h2 h3
    obtain ⟨u, e0, _, hu⟩ := DataW.trod_string Tryz.underlying9 h0
    obtain ⟨v, e1, _, hv⟩ := DataW.trod_string Tryz.underlying9 h1
    obtain ⟨z, e2, _, hz⟩ := DataW.trod_int Tryz.underlying3 h2
    obtain ⟨Q, n, c, xs, e3, hn, _, hx, hp⟩ := pls_in h3
    injection e0 with e0
    injection e1 with e1
    injection e2 with e2
    injection e3 with e3
    subst e0 e1 e2 e3
    exact ⟨⟨u.data.toList, v.data.toList, z, xs⟩, Q, n, c, by simp only [str8, Go.Joins.bytes_eta], hn, hx, okI_of hz, by simpa using hu, by simpa using hv, hp⟩
set_option maxRecDepth 20000 in
theorem takes_in {cs : List Value} {fuel : Nat} {y : DataW H × List MemPlace} (h : DataW.trod enc Tryz.prog w 0 (fun _ => true) true fuel 35 cs = some y) :
    ∃ A n c xs, cs = [.slice A n c] ∧ n = xs.length ∧ n ≤ maxLen ∧ TakesAt w A xs ∧ ∀ t ∈ xs, okI t.amount ∧ t.acc.length ≤ maxLen ∧ t.ccy.length ≤ maxLen ∧ ∀ y ∈ t.pl, PlIn y := by
  rcases Go.Deep.open_slice Tryz.underlying35 h with ⟨rfl, _⟩ | ⟨a, len, cap, m, k, D, Pl, rfl, _, hl, hm, hmm, _, hc⟩
  · exact ⟨none, 0, 0, [], rfl, rfl, by unfold maxLen; omega, fun h0 => absurd rfl h0, by simp⟩
  · simp only [if_true] at hmm
    have h4 : Tryz.prog.cellsOf 58 = 4 := by kernel_rfl
    rw [h4] at hc
    obtain ⟨xs, hxl, hxs⟩ := list_of (α := TakeD) len (fun i x => TakeAt w a i x ∧ (okI x.amount ∧ x.acc.length ≤ maxLen ∧ x.ccy.length ≤ maxLen ∧ ∀ z ∈ x.pl, PlIn z)) (fun i hi => by
      obtain ⟨cs', h1, h2⟩ := hc i (by omega)
      obtain ⟨x, Q, n, c, rfl, hn, hp, hr⟩ := take_in h2
      obtain ⟨_, _, hcell⟩ := World.cells?_some h1
      have e0 := hcell 0 (by simp)
      have e1 := hcell 1 (by simp)
      have e2 := hcell 2 (by simp)
      have e3 := hcell 3 (by simp)
      rw [Go.Deep.add_add] at e0 e1 e2 e3
      exact ⟨x, ⟨Q, n, c, by simpa using e0, by simpa using e1, by simpa using e2, by simpa using e3, hn, hp⟩, hr⟩)
    refine ⟨some a, len, cap, xs, rfl, hxl.symm, by omega, fun _ => ⟨a, rfl, fun j x hx => (hxs j x hx).1⟩, fun x hx => ?_⟩
    obtain ⟨i, hi⟩ := List.mem_iff_getElem?.1 hx
    exact (hxs i x hi).2
set_option maxRecDepth 20000 in
/-- The sets that came in. -/
theorem sets_in {base : Nat} {v : Value} {d : DataW H} {p : List MemPlace} (hv : Value.okWide Tryz.prog w .any base 22 v) (h : DataW.Trod enc Tryz.prog w 0 (fun _ => true) true 22 v d p) :
    ∃ A n c xs, v = .slice A n c ∧ n = xs.length ∧ SetsAt w A xs ∧ ∀ x ∈ xs, SetNum x := by
  obtain ⟨A, n, c, rfl⟩ := okWide_slice Tryz.underlying22 hv
  obtain ⟨fuel, hf⟩ := h
  rcases Go.Deep.open_slice_pairs Tryz.underlying22 Tryz.underlying39 (by kernel_rfl) rfl rfl (by kernel_rfl) (by kernel_rfl) hf with ⟨e, _⟩ | ⟨a, len, cap, m, k, V0, V1, D0, D1, P0, P1, e, _, hl, hm, hmm, _, hc⟩
  · have e' : [Value.slice A n c] = [.slice none 0 0] := e
    injection e' with e'
    injection e' with e1 e2 e3
    subst e1 e2 e3
    exact ⟨none, 0, 0, [], rfl, rfl, fun h0 => absurd rfl h0, by simp⟩
  · have e' : [Value.slice A n c] = [.slice (some a) len cap] := e
    injection e' with e'
    injection e' with e1 e2 e3
    subst e1 e2 e3
    simp only [if_true] at hmm
    obtain ⟨xs, hxl, hxs⟩ := list_of (α := SetD) n (fun i x => (∃ L n c T m d, w.cell? (a.add (i * 2)) = some (.slice L n c) ∧ w.cell? (a.add (i * 2 + 1)) = some (.slice T m d) ∧ SetAt w L n T m x) ∧ SetNum x) (fun i hi => by
      obtain ⟨h0, h1, g0, g1⟩ := hc i (by omega)
      obtain ⟨L, n1, c1, ls, e0, hn1, _, hls, hlo⟩ := legs_in g0
      obtain ⟨T, m1, d1, ts, e1, hm1, _, hts, hto⟩ := takes_in g1
      injection e0 with e0
      injection e1 with e1
      rw [e0] at h0
      rw [e1] at h1
      exact ⟨⟨ls, ts⟩, ⟨L, n1, c1, T, m1, d1, h0, h1, hn1, hls, hm1, hts⟩, hlo, hto⟩)
    refine ⟨some a, n, c, xs, rfl, hxl.symm, fun _ => ⟨a, rfl, fun j x hx => (hxs j x hx).1⟩, fun x hx => ?_⟩
    obtain ⟨i, hi⟩ := List.mem_iff_getElem?.1 hx
    exact (hxs i x hi).2
end
end Go.Proofs.YtgmbppfkkiobhaaGreat.Wire
