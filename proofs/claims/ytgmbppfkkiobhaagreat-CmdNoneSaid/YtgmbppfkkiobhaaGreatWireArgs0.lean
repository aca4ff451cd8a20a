/- What comes in: a command, a reply, a text. -/
import Derived.Test.YtgmbppfkkiobhaaGreatWireLaw0
import Derived.Lib.SmallJoins
import Derived.SliceStrings
import Derived.ChangeSlices
import Derived.ChangeMaps5
namespace Go.Proofs.YtgmbppfkkiobhaaGreat.Wire
open Go Go.RowKit Go.Lib Go.ChangeShapes Go.WideShapes
section
variable {H : Type} {enc : TypeId × Value → H} {w : World}
theorem ints_in {cs : List Value} {fuel : Nat} {y : DataW H × List MemPlace} (h : DataW.trod enc Tryz.prog w 0 (fun _ => true) true fuel 60 cs = some y) :
    ∃ A n c nums, cs = [.slice A n c] ∧ n ≤ maxLen ∧ IntsAt w A nums ∧ nums.length = n ∧ (nums ≠ [] → ∀ ad, A = some ad → ad.block < w.heap.size) ∧ ∀ x ∈ nums, okI x := by
  rcases open_ints Tryz.underlying60 Tryz.underlying3 (by kernel_rfl) h with ⟨rfl, _⟩ | ⟨a, len, cap, zs, rfl, _, hl, hm, hz, _, hc, hw⟩
  · exact ⟨none, 0, 0, [], rfl, by unfold maxLen; omega, fun h0 => absurd rfl h0, rfl, fun h0 => absurd rfl h0, by simp⟩
  · simp only [if_true] at hz
    have hcell : ∀ j x, (zs.take len)[j]? = some x → w.cell? (a.add j) = some (.int .i64 x) := by
      intro j x hx
      obtain ⟨hj, hx'⟩ := List.getElem?_eq_some_iff.1 hx
      rw [List.length_take] at hj
      have h1 := hc j (by omega)
      rw [List.getElem_take] at hx'
      rw [← hx', h1, List.getD_eq_getElem?_getD, List.getElem?_eq_getElem (by omega)]
      rfl
    refine ⟨some a, len, cap, zs.take len, rfl, by omega, fun _ => ⟨a, rfl, hcell⟩, by rw [List.length_take]; omega, ?_, ?_⟩
    · rintro hne ad ⟨rfl⟩
      have hpos : 0 < (zs.take len).length := List.length_pos_iff.2 hne
      have := World.block_lt_of_cell? w _ (hcell 0 _ (List.getElem?_eq_getElem hpos))
      rw [add_block] at this
      exact this
    · intro x hx
      have h1 := hw x (List.mem_of_mem_take hx)
      simp only [Lit.wf, IntKind.min, IntKind.max, IntKind.signed, IntKind.bits, Bool.and_eq_true, decide_eq_true_eq, if_true] at h1
      unfold okI
      omega
theorem texts_in {cs : List Value} {fuel : Nat} {y : DataW H × List MemPlace} (h : DataW.trod enc Tryz.prog w 0 (fun _ => true) true fuel 61 cs = some y) :
    ∃ A n c texts, cs = [.slice A n c] ∧ n ≤ maxLen ∧ TextsAt w A texts ∧ texts.length = n ∧ (texts ≠ [] → ∀ ad, A = some ad → ad.block < w.heap.size) ∧ ∀ x ∈ texts, x.size ≤ maxLen := by
  rcases open_strings Tryz.underlying61 Tryz.underlying9 (by kernel_rfl) h with ⟨rfl, _⟩ | ⟨a, len, cap, zs, rfl, _, hl, hm, hz, _, hc, hw⟩
  · exact ⟨none, 0, 0, [], rfl, by unfold maxLen; omega, fun h0 => absurd rfl h0, rfl, fun h0 => absurd rfl h0, by simp⟩
  · simp only [if_true] at hz
    have hcell : ∀ j x, (zs.take len)[j]? = some x → w.cell? (a.add j) = some (.string x) := by
      intro j x hx
      obtain ⟨hj, hx'⟩ := List.getElem?_eq_some_iff.1 hx
      rw [List.length_take] at hj
      have h1 := hc j (by omega)
      rw [List.getElem_take] at hx'
      rw [← hx', h1, List.getD_eq_getElem?_getD, List.getElem?_eq_getElem (by omega)]
      rfl
    refine ⟨some a, len, cap, zs.take len, rfl, by omega, fun _ => ⟨a, rfl, hcell⟩, by rw [List.length_take]; omega, ?_, fun x hx => hw x (List.mem_of_mem_take hx)⟩
    rintro hne ad ⟨rfl⟩
    have hpos : 0 < (zs.take len).length := List.length_pos_iff.2 hne
    have := World.block_lt_of_cell? w _ (hcell 0 _ (List.getElem?_eq_getElem hpos))
    rw [add_block] at this
    exact this
theorem okI_of {k : Int} (h : (Lit.int .i64 k).wf = true) : okI k := by
  simp only [Lit.wf, IntKind.min, IntKind.max, IntKind.signed, IntKind.bits, Bool.and_eq_true, decide_eq_true_eq, if_true] at h
  unfold okI
  omega
set_option maxRecDepth 20000 in
/-- A command that came in. -/
theorem cmd_in {base : Nat} {v : Value} {d : DataW H} {p : List MemPlace} (hv : Value.okWide Tryz.prog w .any base 63 v) (h : DataW.Trod enc Tryz.prog w 0 (fun _ => true) true 63 v d p) :
    ∃ kind party A n c nums A' m c' texts, v = .agg #[.int .i64 kind, .string party, .slice A n c, .slice A' m c'] ∧ okI kind ∧ party.size ≤ maxLen ∧ n ≤ maxLen ∧ m ≤ maxLen ∧ Rows2 w w.heap.size A n nums A' m texts := by
  obtain ⟨v0, v1, v2, v3, y0, y1, y2, y3, fuel, rfl, _, _, h0, h1, h2, h3⟩ := Go.Joins.open_agg4 Tryz.underlying63 (by kernel_rfl) (by kernel_rfl) hv h
  obtain ⟨kind, e0, _, hk⟩ := DataW.trod_int Tryz.underlying3 h0
  obtain ⟨party, e1, _, hp⟩ := DataW.trod_string Tryz.underlying9 h1
  obtain ⟨A, n, c, nums, e2, hn, a1, a2, a3, a4⟩ := ints_in h2
  obtain ⟨A', m, c', texts, e3, hm, b1, b2, b3, b4⟩ := texts_in h3
  injection e0 with e0
  injection e1 with e1
  injection e2 with e2
  injection e3 with e3
  subst e0 e1 e2 e3
  exact ⟨kind, party, A, n, c, nums, A', m, c', texts, rfl, okI_of hk, hp, hn, hm, ⟨a1, a2, a3, a4, b1, b2, b3, b4⟩⟩
set_option maxRecDepth 20000 in
/-- A reply that came in. -/
theorem rep_in {base : Nat} {v : Value} {d : DataW H} {p : List MemPlace} (hv : Value.okWide Tryz.prog w .any base 67 v) (h : DataW.Trod enc Tryz.prog w 0 (fun _ => true) true 67 v d p) :
    ∃ err A n c nums A' m c' texts, v = .agg #[.int .i64 err, .slice A n c, .slice A' m c'] ∧ okI err ∧ n ≤ maxLen ∧ m ≤ maxLen ∧ Rows2 w w.heap.size A n nums A' m texts := by
  obtain ⟨v0, v2, v3, y0, y2, y3, fuel, rfl, _, _, h0, h2, h3⟩ := Go.Joins.open_agg3 Tryz.underlying67 (by kernel_rfl) (by kernel_rfl) hv h
  obtain ⟨kind, e0, _, hk⟩ := DataW.trod_int Tryz.underlying29 h0
  obtain ⟨A, n, c, nums, e2, hn, a1, a2, a3, a4⟩ := ints_in h2
  obtain ⟨A', m, c', texts, e3, hm, b1, b2, b3, b4⟩ := texts_in h3
  injection e0 with e0
  injection e2 with e2
  injection e3 with e3
  subst e0 e2 e3
  exact ⟨kind, A, n, c, nums, A', m, c', texts, rfl, okI_of hk, hn, hm, ⟨a1, a2, a3, a4, b1, b2, b3, b4⟩⟩
set_option maxRecDepth 20000 in
theorem text_in {base : Nat} {v : Value} {d : DataW H} {p : List MemPlace} (hv : Value.okWide Tryz.prog w .any base 9 v) (h : DataW.Trod enc Tryz.prog w 0 (fun _ => true) true 9 v d p) : ∃ s, v = .string s := by
  obtain ⟨s, e, _⟩ := Go.ChangeMaps.open_string Tryz.underlying9 hv h
  exact ⟨s, e⟩
end
end Go.Proofs.YtgmbppfkkiobhaaGreat.Wire
