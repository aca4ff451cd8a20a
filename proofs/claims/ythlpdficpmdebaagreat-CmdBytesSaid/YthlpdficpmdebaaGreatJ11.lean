/- Rows that stay; what the laws of the wire share. -/
import Derived.Test.YthlpdficpmdebaaGreatJ4
import Derived.Lib.SmallJoins
import Derived.SliceStrings
import Derived.ChangeSlices
import Derived.ChangeMaps5
import Derived.Test.YthlpdficpmdebaaGreatBySl
namespace Go.Proofs.YthlpdficpmdebaaGreat.Wire
open Go Go.RowKit Go.Lib
theorem Rows2.to {w w1 : World} {B : Nat} {A : Option Addr} {n : Nat} {nums : List Int} {A' : Option Addr} {m : Nat} {texts : List ByteArray} (h : Rows2 w B A n nums A' m texts) (hb : Below B w w1) (hB : B ≤ w1.heap.size) : Rows2 w1 w1.heap.size A n nums A' m texts := h.below hb hB
theorem below_un {B : Nat} {a b : World} (h : Below B a.drew b) : Below B a b := ⟨h.os, h.tape, h.output, h.size, h.block⟩
theorem mo_pos {x : ByteArray} (h : x.toList.isEmpty = false) : 0 < x.size := by
  rcases Nat.eq_zero_or_pos x.size with h0 | h0
  · exfalso
    obtain ⟨d⟩ := x
    have hd : d = #[] := Array.eq_empty_of_size_eq_zero h0
    subst hd
    have e : (⟨#[]⟩ : ByteArray).toList = [] := by
      unfold ByteArray.toList
      unfold ByteArray.toList.loop
      simp [ByteArray.size]
    rw [e] at h
    exact absurd h (by decide)
  · exact h0
end Go.Proofs.YthlpdficpmdebaaGreat.Wire
/- What comes in: a command, a reply, a text. -/
namespace Go.Proofs.YthlpdficpmdebaaGreat.Wire
open Go Go.RowKit Go.Lib Go.ChangeShapes Go.WideShapes
section
variable {H : Type} {enc : TypeId × Value → H} {w : World}
theorem ints_in {cs : List Value} {fuel : Nat} {y : DataW H × List MemPlace} (h : DataW.trod enc Tryz.prog w 0 (fun _ => true) true fuel 22 cs = some y) :
    ∃ A n c nums, cs = [.slice A n c] ∧ n ≤ maxLen ∧ IntsAt w A nums ∧ nums.length = n ∧ (nums ≠ [] → ∀ ad, A = some ad → ad.block < w.heap.size) ∧ ∀ x ∈ nums, okI x := by
  rcases open_ints Tryz.underlying22 Tryz.underlying3 (by kernel_rfl) h with ⟨rfl, _⟩ | ⟨a, len, cap, zs, rfl, _, hl, hm, hz, _, hc, hw⟩
  · exact ⟨none, 0, 0, [], rfl, by unfold maxLen; omega, fun h0 => absurd rfl h0, rfl, fun h0 => absurd rfl h0, by simp⟩
  · simp only [if_true] at hz
    have hcell : ∀ j x, (zs.take len)[j]? = some x → w.cell? (a.add j) = some (.int .i64 x) := by
      intro j x hx
      obtain ⟨hj, hx'⟩ := List.getElem?_eq_some_iff.1 hx
      rw [List.length_take] at hj
      have h1 := hc j (by omega)
      rw [List.getElem_take] at hx'
      rw [← hx', h1, List.getD_eq_getElem?_getD, List.getElem?_eq_getElem (by omega)]
      rfl
    refine ⟨some a, len, cap, zs.take len, rfl, by omega, fun _ => ⟨a, rfl, hcell⟩, by rw [List.length_take]; omega, ?_, ?_⟩
    · rintro hne ad ⟨rfl⟩
      have hpos : 0 < (zs.take len).length := List.length_pos_iff.2 hne
      have := World.block_lt_of_cell? w _ (hcell 0 _ (List.getElem?_eq_getElem hpos))
      rw [add_block] at this
      exact this
    · intro x hx
      have h1 := hw x (List.mem_of_mem_take hx)
      simp only [Lit.wf, IntKind.min, IntKind.max, IntKind.signed, IntKind.bits, Bool.and_eq_true, decide_eq_true_eq, if_true] at h1
      unfold okI
      omega
theorem texts_in {cs : List Value} {fuel : Nat} {y : DataW H × List MemPlace} (h : DataW.trod enc Tryz.prog w 0 (fun _ => true) true fuel 23 cs = some y) :
    ∃ A n c texts, cs = [.slice A n c] ∧ n ≤ maxLen ∧ TextsAt w A texts ∧ texts.length = n ∧ (texts ≠ [] → ∀ ad, A = some ad → ad.block < w.heap.size) ∧ ∀ x ∈ texts, x.size ≤ maxLen := by
  rcases open_strings Tryz.underlying23 Tryz.underlying9 (by kernel_rfl) h with ⟨rfl, _⟩ | ⟨a, len, cap, zs, rfl, _, hl, hm, hz, _, hc, hw⟩
  · exact ⟨none, 0, 0, [], rfl, by unfold maxLen; omega, fun h0 => absurd rfl h0, rfl, fun h0 => absurd rfl h0, by simp⟩
  · simp only [if_true] at hz
    have hcell : ∀ j x, (zs.take len)[j]? = some x → w.cell? (a.add j) = some (.string x) := by
      intro j x hx
      obtain ⟨hj, hx'⟩ := List.getElem?_eq_some_iff.1 hx
      rw [List.length_take] at hj
      have h1 := hc j (by omega)
      rw [List.getElem_take] at hx'
      rw [← hx', h1, List.getD_eq_getElem?_getD, List.getElem?_eq_getElem (by omega)]
      rfl
    refine ⟨some a, len, cap, zs.take len, rfl, by omega, fun _ => ⟨a, rfl, hcell⟩, by rw [List.length_take]; omega, ?_, fun x hx => hw x (List.mem_of_mem_take hx)⟩
    rintro hne ad ⟨rfl⟩
    have hpos : 0 < (zs.take len).length := List.length_pos_iff.2 hne
    have := World.block_lt_of_cell? w _ (hcell 0 _ (List.getElem?_eq_getElem hpos))
    rw [add_block] at this
    exact this
theorem okI_of {k : Int} (h : (Lit.int .i64 k).wf = true) : okI k := by
  simp only [Lit.wf, IntKind.min, IntKind.max, IntKind.signed, IntKind.bits, Bool.and_eq_true, decide_eq_true_eq, if_true] at h
  unfold okI
  omega
set_option maxRecDepth 20000 in
/-- A command that came in. -/
theorem cmd_in {base : Nat} {v : Value} {d : DataW H} {p : List MemPlace} (hv : Value.okWide Tryz.prog w .any base 25 v) (h : DataW.Trod enc Tryz.prog w 0 (fun _ => true) true 25 v d p) :
    ∃ kind party A n c nums A' m c' texts, v = .agg #[.int .i64 kind, .string party, .slice A n c, .slice A' m c'] ∧ okI kind ∧ party.size ≤ maxLen ∧ n ≤ maxLen ∧ m ≤ maxLen ∧ Rows2 w w.heap.size A n nums A' m texts := by
  obtain ⟨v0, v1, v2, v3, y0, y1, y2, y3, fuel, rfl, _, _, h0, h1, h2, h3⟩ := Go.Joins.open_agg4 Tryz.underlying25 (by kernel_rfl) (by kernel_rfl) hv h
  obtain ⟨kind, e0, _, hk⟩ := DataW.trod_int Tryz.underlying3 h0
  obtain ⟨party, e1, _, hp⟩ := DataW.trod_string Tryz.underlying9 h1
  obtain ⟨A, n, c, nums, e2, hn, a1, a2, a3, a4⟩ := ints_in h2
  obtain ⟨A', m, c', texts, e3, hm, b1, b2, b3, b4⟩ := texts_in h3
  injection e0 with e0
  injection e1 with e1
  injection e2 with e2
  injection e3 with e3
  subst e0 e1 e2 e3
  exact ⟨kind, party, A, n, c, nums, A', m, c', texts, rfl, okI_of hk, hp, hn, hm, ⟨a1, a2, a3, a4, b1, b2, b3, b4⟩⟩
set_option maxRecDepth 20000 in
/-- A reply that came in. -/
theorem rep_in {base : Nat} {v : Value} {d : DataW H} {p : List MemPlace} (hv : Value.okWide Tryz.prog w .any base 28 v) (h : DataW.Trod enc Tryz.prog w 0 (fun _ => true) true 28 v d p) :
    ∃ err A n c nums A' m c' texts, v = .agg #[.int .i64 err, .slice A n c, .slice A' m c'] ∧ okI err ∧ n ≤ maxLen ∧ m ≤ maxLen ∧ Rows2 w w.heap.size A n nums A' m texts := by
  obtain ⟨v0, v2, v3, y0, y2, y3, fuel, rfl, _, _, h0, h2, h3⟩ := Go.Joins.open_agg3 Tryz.underlying28 (by kernel_rfl) (by kernel_rfl) hv h
  obtain ⟨kind, e0, _, hk⟩ := DataW.trod_int Tryz.underlying26 h0
  obtain ⟨A, n, c, nums, e2, hn, a1, a2, a3, a4⟩ := ints_in h2
  obtain ⟨A', m, c', texts, e3, hm, b1, b2, b3, b4⟩ := texts_in h3
  injection e0 with e0
  injection e2 with e2
  injection e3 with e3
  subst e0 e2 e3
  exact ⟨kind, A, n, c, nums, A', m, c', texts, rfl, okI_of hk, hn, hm, ⟨a1, a2, a3, a4, b1, b2, b3, b4⟩⟩
set_option maxRecDepth 20000 in
theorem text_in {base : Nat} {v : Value} {d : DataW H} {p : List MemPlace} (hv : Value.okWide Tryz.prog w .any base 9 v) (h : DataW.Trod enc Tryz.prog w 0 (fun _ => true) true 9 v d p) : ∃ s, v = .string s := by
  obtain ⟨s, e, _⟩ := Go.ChangeMaps.open_string Tryz.underlying9 hv h
  exact ⟨s, e⟩
end
end Go.Proofs.YthlpdficpmdebaaGreat.Wire
/- What comes in: a command, a reply; a slice that is nil has no room. -/
namespace Go.Proofs.YthlpdficpmdebaaGreat.Wire
open Go Go.RowKit Go.Lib Go.ChangeShapes Go.WideShapes
section
variable {H : Type} {enc : TypeId × Value → H} {w : World}
theorem ints_in2 {cs : List Value} {fuel : Nat} {y : DataW H × List MemPlace} (h : DataW.trod enc Tryz.prog w 0 (fun _ => true) true fuel 22 cs = some y) :
    ∃ A n c nums, cs = [.slice A n c] ∧ n ≤ maxLen ∧ (A = none → n = 0 ∧ c = 0) ∧ IntsAt w A nums ∧ nums.length = n ∧ (nums ≠ [] → ∀ ad, A = some ad → ad.block < w.heap.size) ∧ ∀ x ∈ nums, okI x := by
  rcases open_ints Tryz.underlying22 Tryz.underlying3 (by kernel_rfl) h with ⟨rfl, _⟩ | ⟨a, len, cap, zs, rfl, _, hl, hm, hz, _, hc, hw⟩
  · exact ⟨none, 0, 0, [], rfl, by unfold maxLen; omega, fun _ => ⟨rfl, rfl⟩, fun h0 => absurd rfl h0, rfl, fun h0 => absurd rfl h0, by simp⟩
  · simp only [if_true] at hz
    have hcell : ∀ j x, (zs.take len)[j]? = some x → w.cell? (a.add j) = some (.int .i64 x) := by
      intro j x hx
      obtain ⟨hj, hx'⟩ := List.getElem?_eq_some_iff.1 hx
      rw [List.length_take] at hj
      have h1 := hc j (by omega)
      rw [List.getElem_take] at hx'
      rw [← hx', h1, List.getD_eq_getElem?_getD, List.getElem?_eq_getElem (by omega)]
      rfl
    refine ⟨some a, len, cap, zs.take len, rfl, by omega, fun h0 => (by cases h0), fun _ => ⟨a, rfl, hcell⟩, by rw [List.length_take]; omega, ?_, ?_⟩
    · rintro hne ad ⟨rfl⟩
      have hpos : 0 < (zs.take len).length := List.length_pos_iff.2 hne
      have := World.block_lt_of_cell? w _ (hcell 0 _ (List.getElem?_eq_getElem hpos))
      rw [add_block] at this
      exact this
    · intro x hx
      have h1 := hw x (List.mem_of_mem_take hx)
      simp only [Lit.wf, IntKind.min, IntKind.max, IntKind.signed, IntKind.bits, Bool.and_eq_true, decide_eq_true_eq, if_true] at h1
      unfold okI
      omega
theorem texts_in2 {cs : List Value} {fuel : Nat} {y : DataW H × List MemPlace} (h : DataW.trod enc Tryz.prog w 0 (fun _ => true) true fuel 23 cs = some y) :
    ∃ A n c texts, cs = [.slice A n c] ∧ n ≤ maxLen ∧ (A = none → n = 0 ∧ c = 0) ∧ TextsAt w A texts ∧ texts.length = n ∧ (texts ≠ [] → ∀ ad, A = some ad → ad.block < w.heap.size) ∧ ∀ x ∈ texts, x.size ≤ maxLen := by
  rcases open_strings Tryz.underlying23 Tryz.underlying9 (by kernel_rfl) h with ⟨rfl, _⟩ | ⟨a, len, cap, zs, rfl, _, hl, hm, hz, _, hc, hw⟩
  · exact ⟨none, 0, 0, [], rfl, by unfold maxLen; omega, fun _ => ⟨rfl, rfl⟩, fun h0 => absurd rfl h0, rfl, fun h0 => absurd rfl h0, by simp⟩
  · simp only [if_true] at hz
    have hcell : ∀ j x, (zs.take len)[j]? = some x → w.cell? (a.add j) = some (.string x) := by
      intro j x hx
      obtain ⟨hj, hx'⟩ := List.getElem?_eq_some_iff.1 hx
      rw [List.length_take] at hj
      have h1 := hc j (by omega)
      rw [List.getElem_take] at hx'
      rw [← hx', h1, List.getD_eq_getElem?_getD, List.getElem?_eq_getElem (by omega)]
      rfl
    refine ⟨some a, len, cap, zs.take len, rfl, by omega, fun h0 => (by cases h0), fun _ => ⟨a, rfl, hcell⟩, by rw [List.length_take]; omega, ?_, fun x hx => hw x (List.mem_of_mem_take hx)⟩
    rintro hne ad ⟨rfl⟩
    have hpos : 0 < (zs.take len).length := List.length_pos_iff.2 hne
    have := World.block_lt_of_cell? w _ (hcell 0 _ (List.getElem?_eq_getElem hpos))
    rw [add_block] at this
    exact this
set_option maxRecDepth 20000 in
/-- A command that came in. -/
theorem cmd_in2 {base : Nat} {v : Value} {d : DataW H} {p : List MemPlace} (hv : Value.okWide Tryz.prog w .any base 25 v) (h : DataW.Trod enc Tryz.prog w 0 (fun _ => true) true 25 v d p) :
    ∃ kind party A n c nums A' m c' texts, v = .agg #[.int .i64 kind, .string party, .slice A n c, .slice A' m c'] ∧ okI kind ∧ party.size ≤ maxLen ∧ n ≤ maxLen ∧ m ≤ maxLen ∧ (A = none → n = 0 ∧ c = 0) ∧ (A' = none → m = 0 ∧ c' = 0) ∧ Rows2 w w.heap.size A n nums A' m texts := by
  obtain ⟨v0, v1, v2, v3, y0, y1, y2, y3, fuel, rfl, _, _, h0, h1, h2, h3⟩ := Go.Joins.open_agg4 Tryz.underlying25 (by kernel_rfl) (by kernel_rfl) hv h
  obtain ⟨kind, e0, _, hk⟩ := DataW.trod_int Tryz.underlying3 h0
  obtain ⟨party, e1, _, hp⟩ := DataW.trod_string Tryz.underlying9 h1
  obtain ⟨A, n, c, nums, e2, hn, a0, a1, a2, a3, a4⟩ := ints_in2 h2
  obtain ⟨A', m, c', texts, e3, hm, b0, b1, b2, b3, b4⟩ := texts_in2 h3
  injection e0 with e0
  injection e1 with e1
  injection e2 with e2
  injection e3 with e3
  subst e0 e1 e2 e3
  exact ⟨kind, party, A, n, c, nums, A', m, c', texts, rfl, okI_of hk, hp, hn, hm, a0, b0, ⟨a1, a2, a3, a4, b1, b2, b3, b4⟩⟩
set_option maxRecDepth 20000 in
/-- A reply that came in. -/
theorem rep_in2 {base : Nat} {v : Value} {d : DataW H} {p : List MemPlace} (hv : Value.okWide Tryz.prog w .any base 28 v) (h : DataW.Trod enc Tryz.prog w 0 (fun _ => true) true 28 v d p) :
    ∃ err A n c nums A' m c' texts, v = .agg #[.int .i64 err, .slice A n c, .slice A' m c'] ∧ okI err ∧ n ≤ maxLen ∧ m ≤ maxLen ∧ (A = none → n = 0 ∧ c = 0) ∧ (A' = none → m = 0 ∧ c' = 0) ∧ Rows2 w w.heap.size A n nums A' m texts := by
  obtain ⟨v0, v2, v3, y0, y2, y3, fuel, rfl, _, _, h0, h2, h3⟩ := Go.Joins.open_agg3 Tryz.underlying28 (by kernel_rfl) (by kernel_rfl) hv h
  obtain ⟨kind, e0, _, hk⟩ := DataW.trod_int Tryz.underlying26 h0
  obtain ⟨A, n, c, nums, e2, hn, a0, a1, a2, a3, a4⟩ := ints_in2 h2
  obtain ⟨A', m, c', texts, e3, hm, b0, b1, b2, b3, b4⟩ := texts_in2 h3
  injection e0 with e0
  injection e2 with e2
  injection e3 with e3
  subst e0 e2 e3
  exact ⟨kind, A, n, c, nums, A', m, c', texts, rfl, okI_of hk, hn, hm, a0, b0, ⟨a1, a2, a3, a4, b1, b2, b3, b4⟩⟩
end
theorem slat_ints {w : World} {A : Option Addr} {n c : Nat} {xs : List Int} (h : IntsAt w A xs) (hn : xs.length = n) (h0 : A = none → n = 0 ∧ c = 0) : SlAt w A n c (ints xs) := by
  refine ⟨by simp [ints, hn], ?_⟩
  cases A with
  | none => exact .inl ⟨rfl, h0 rfl⟩
  | some ad =>
    refine .inr ⟨ad, rfl, fun j u hu => ?_⟩
    simp only [ints, List.getElem?_map, Option.map_eq_some_iff] at hu
    obtain ⟨x, hx, rfl⟩ := hu
    obtain ⟨ad', e, hc⟩ := h (by intro e; rw [e] at hx; simp at hx)
    injection e with e
    subst e
    exact hc j x hx
theorem slat_texts {w : World} {A : Option Addr} {n c : Nat} {xs : List ByteArray} (h : TextsAt w A xs) (hn : xs.length = n) (h0 : A = none → n = 0 ∧ c = 0) : SlAt w A n c (strV xs) := by
  refine ⟨by simp [strV, hn], ?_⟩
  cases A with
  | none => exact .inl ⟨rfl, h0 rfl⟩
  | some ad =>
    refine .inr ⟨ad, rfl, fun j u hu => ?_⟩
    simp only [strV, List.getElem?_map, Option.map_eq_some_iff] at hu
    obtain ⟨x, hx, rfl⟩ := hu
    obtain ⟨ad', e, hc⟩ := h (by intro e; rw [e] at hx; simp at hx)
    injection e with e
    subst e
    exact hc j x hx
/-! What is read, told once for the program and for the document. -/
theorem rMany_len {α : Type} (f : RS → α × RS) : ∀ (n : Nat) (s : RS), (rMany f n s).1.length = n
  | 0, _ => rfl
  | n + 1, s => by rw [rMany, List.length_cons, rMany_len f n]
theorem rGet_len {a b : Int} (ha : 0 ≤ a) (hb : 0 ≤ b) (s : RS) : ((rGet a b s).1.1.length : Int) ≤ a ∧ ((rGet a b s).1.2.length : Int) ≤ b := by
  obtain ⟨n, hn, hn2⟩ := rCount_rng ha s
  obtain ⟨m, hm, hm2⟩ := rCount_rng hb (rMany rNum (rCount a s).1.toNat (rCount a s).2).2
  simp only [rGet, rMany_len, hn, Int.toNat_natCast]
  rw [hn, Int.toNat_natCast] at hm
  rw [hm, Int.toNat_natCast]
  exact ⟨hn2, hm2⟩
structure Got (nums : List Int) (texts : List (List UInt8)) (w w' : World) (A1 : Option Addr) (k1 : Nat) (A2 : Option Addr) (k2 : Nat) : Prop where
  b : Below w.heap.size w w'
  o1 : w'.ownsRow w.heap.size 3 1 (.slice A1 nums.length k1) nums.length (ints nums)
  o2 : w'.ownsRow w.heap.size 9 1 (.slice A2 texts.length k2) texts.length (strs texts)
/-- What Get reads. -/
def gKind (b : ByteArray) : Int := if rEnd (cmdR (bl b)).2 = 0 then (cmdR (bl b)).1.1.1 else 0
def gParty (b : ByteArray) : ByteArray := if rEnd (cmdR (bl b)).2 = 0 then ⟨(cmdR (bl b)).1.1.2.toArray⟩ else ⟨#[]⟩
def gNums (b : ByteArray) : List Int := if rEnd (cmdR (bl b)).2 = 0 then (cmdR (bl b)).1.2.1 else []
def gTexts (b : ByteArray) : List (List UInt8) := if rEnd (cmdR (bl b)).2 = 0 then (cmdR (bl b)).1.2.2 else []
def gErr (b : ByteArray) : Int := if rEnd (cmdR (bl b)).2 = 0 then 0 else rEnd (cmdR (bl b)).2
def GotC (b : ByteArray) (w : World) (en : Ending) (w' : World) : Prop := ∃ A1 k1 A2 k2, en = .returned (.tuple #[.agg #[.int .i64 (gKind b), .string (gParty b), .slice A1 (gNums b).length k1, .slice A2 (gTexts b).length k2], .int .i64 (gErr b)]) ∧ Got (gNums b) (gTexts b) w w' A1 k1 A2 k2
theorem gotC (b : ByteArray) (w : World) (en : Ending) (w' : World) (h : GetCPost b w en w') : GotC b w en w' := by
  unfold GotC gKind gParty gNums gTexts gErr
  obtain ⟨hb, ⟨he, v1, v2, n1, n2, rfl, rfl, h1, rfl, h2⟩ | ⟨he, rfl⟩⟩ := h
  · obtain ⟨A1, k1, rfl⟩ := own_form h1
    obtain ⟨A2, k2, rfl⟩ := own_form h2
    simp only [he, if_true]
    exact ⟨A1, k1, A2, k2, rfl, hb, h1, h2⟩
  · simp only [if_neg he]
    exact ⟨none, 0, none, 0, rfl, hb, World.ownsRow_nil _ _ _ _, World.ownsRow_nil _ _ _ _⟩
theorem gNums_len (b : ByteArray) : (gNums b).length ≤ 70 := by
  unfold gNums
  split
  · have h := (rGet_len (a := 70) (b := 10) (by decide) (by decide) (rText (rNum ⟨0, bl b⟩).2).2).1
    simp only [cmdR]
    omega
  · simp
theorem gTexts_len (b : ByteArray) : (gTexts b).length ≤ 10 := by
  unfold gTexts
  split
  · have h := (rGet_len (a := 70) (b := 10) (by decide) (by decide) (rText (rNum ⟨0, bl b⟩).2).2).2
    simp only [cmdR]
    omega
  · simp
/-- What GetReply reads. -/
def rErr (b : ByteArray) : Int := if rEnd (repR (bl b)).2 = 0 then (repR (bl b)).1.1 else 0
def rNums (b : ByteArray) : List Int := if rEnd (repR (bl b)).2 = 0 then (repR (bl b)).1.2.1 else []
def rTexts (b : ByteArray) : List (List UInt8) := if rEnd (repR (bl b)).2 = 0 then (repR (bl b)).1.2.2 else []
def rEr (b : ByteArray) : Int := if rEnd (repR (bl b)).2 = 0 then 0 else rEnd (repR (bl b)).2
def GotR (b : ByteArray) (w : World) (en : Ending) (w' : World) : Prop := ∃ A1 k1 A2 k2, en = .returned (.tuple #[.agg #[.int .i64 (rErr b), .slice A1 (rNums b).length k1, .slice A2 (rTexts b).length k2], .int .i64 (rEr b)]) ∧ Got (rNums b) (rTexts b) w w' A1 k1 A2 k2
theorem gotR (b : ByteArray) (w : World) (en : Ending) (w' : World) (h : GetRPost b w en w') : GotR b w en w' := by
  unfold GotR rErr rNums rTexts rEr
  obtain ⟨hb, ⟨he, v1, v2, n1, n2, rfl, rfl, h1, rfl, h2⟩ | ⟨he, rfl⟩⟩ := h
  · obtain ⟨A1, k1, rfl⟩ := own_form h1
    obtain ⟨A2, k2, rfl⟩ := own_form h2
    simp only [he, if_true]
    exact ⟨A1, k1, A2, k2, rfl, hb, h1, h2⟩
  · simp only [if_neg he]
    exact ⟨none, 0, none, 0, rfl, hb, World.ownsRow_nil _ _ _ _, World.ownsRow_nil _ _ _ _⟩
theorem rNums_len (b : ByteArray) : (rNums b).length ≤ 2000 := by
  unfold rNums
  split
  · have h := (rGet_len (a := 2000) (b := 100) (by decide) (by decide) (rNum ⟨0, bl b⟩).2).1
    simp only [repR]
    omega
  · simp
theorem rTexts_len (b : ByteArray) : (rTexts b).length ≤ 100 := by
  unfold rTexts
  split
  · have h := (rGet_len (a := 2000) (b := 100) (by decide) (by decide) (rNum ⟨0, bl b⟩).2).2
    simp only [repR]
    omega
  · simp
/-- Rows that are new, apart from what there is. -/
theorem off_of_type {B : Nat} {w : World} {a b : Row} (ha : a.at B w) (hb : b.at B w) (ht : a.t ≠ b.t) : a.off b := by
  rcases hb.2 with ⟨hv, _⟩ | ⟨g, cap, cur, hv, _, hg, _⟩
  · exact Row.off.symm (.inl (by rw [hv]; rfl))
  · refine .inr ?_
    rw [show b.v.ownBlock = some g by rw [hv]; rfl]
    exact own_ne ha hg ht
theorem off_of_new {B : Nat} {w0 w : World} {a b : Row} (ha : w.ownsRow w0.heap.size a.t 1 a.v a.n a.xs) (hb : b.at B w0) : a.off b := by
  cases ea : a.v.ownBlock with
  | none => exact .inl ea
  | some g =>
    refine .inr ?_
    rw [ea]
    intro e
    have h1 := (at_lt hb e.symm).2
    have h2 := (ha.lt g ea).1
    omega
theorem Mem.add2 {B : Nat} {l r : List Row} {w w' : World} (h : Mem B l r w) (hB : B ≤ w.heap.size) (hg : w.grownBy w' none) {a b : Row} (ha : w'.ownsRow w.heap.size a.t 1 a.v a.n a.xs) (hb : w'.ownsRow w.heap.size b.t 1 b.v b.n b.xs) (ht : a.t ≠ b.t) : Mem B (l ++ [a] ++ [b]) r w' := by
  have h1 := h.push hg ha hB
  have hbat : b.at B w' := by
    rcases hb.2 with h0 | ⟨g, cap, cur, e1, e2, e3⟩
    · exact ⟨hb.1, .inl h0⟩
    · exact ⟨hb.1, .inr ⟨g, cap, cur, e1, Nat.le_trans hB e2, e3⟩⟩
  have haat : a.at B w' := h1.own l.length a (by rw [List.getElem?_append_right (Nat.le_refl _), Nat.sub_self]; rfl)
  have hoff : ∀ (i : Nat) (c : Row), (l ++ [a])[i]? = some c → b.off c := fun i c hc => by
    by_cases hi : i < l.length
    · rw [List.getElem?_append_left hi] at hc
      exact off_of_new hb (h.own i c hc)
    · rw [List.getElem?_append_right (by omega)] at hc
      have hm := List.mem_of_getElem? hc
      simp only [List.mem_cons, List.not_mem_nil, or_false] at hm
      subst hm
      exact off_of_type hbat haat (Ne.symm ht)
  have key : ∀ (i : Nat) (c : Row), (l ++ [a] ++ [b])[i]? = some c → (l ++ [a])[i]? = some c ∨ (i = (l ++ [a]).length ∧ c = b) := by
    intro i c e
    by_cases hi : i < (l ++ [a]).length
    · rw [List.getElem?_append_left hi] at e; exact .inl e
    · rw [List.getElem?_append_right (by omega)] at e
      by_cases h0 : i - (l ++ [a]).length = 0
      · rw [h0] at e; simp at e; exact .inr ⟨by omega, e.symm⟩
      · rw [List.getElem?_eq_none (by simp at h0 ⊢; omega)] at e; cases e
  refine ⟨fun i c e => ?_, fun i j c d hij e1 e2 => ?_, h1.rd, fun i c e d hd => ?_⟩
  · rcases key i c e with e | ⟨_, rfl⟩
    · exact h1.own i c e
    · exact hbat
  · rcases key i c e1 with f1 | ⟨rfl, rfl⟩ <;> rcases key j d e2 with f2 | ⟨rfl, rfl⟩
    · exact h1.off i j c d hij f1 f2
    · exact (hoff i c f1).symm
    · exact hoff j d f2
    · exact absurd rfl hij
  · rcases key i c e with e | ⟨_, rfl⟩
    · exact h1.far i c e d hd
    · exact off_of_new hb (h.rd d hd)
end Go.Proofs.YthlpdficpmdebaaGreat.Wire
