/- A map of the world's, as the library's contracts speak of it. -/
import Derived.Test.YtjpkfdmjhgnmbaaGreatGvApp
namespace Go.Proofs.YtjpkfdmjhgnmbaaGreat.Gv
open Go Go.RowKit Go.Maps Go.WideElems

theorem keyOf_str' {P : Program} {k : TypeId} (hk : P.underlying k = some .string) {s : ByteArray} (hs : s.size ≤ maxLen) : keyOf P k (.string s) = some (.string s.data.toList) := by
  simp [keyOf, hk, mapKey]
  exact hs
theorem owns_of {P : Program} {k : TypeId} (hk : P.underlying k = some .string) {w : World} {b c : Nat} {El : Array MapEntry} (hb : w.heap[b]? = some (.map El c)) (hs : MapKept.Stamped El c) (hkey : ∀ x ∈ El.toList, ∃ s : ByteArray, x.key = .string s ∧ s.size ≤ 281474976710656) (hsz : El.size ≤ 4294967296) :
    ∃ D0 : DataW Unit, w.ownsMap P k (fun _ => some (.nil, [])) b El.size D0 ∧ (strKeys D0).Perm (El.toList.map keyL) ∧ Maps.size D0 = El.size := by
  have hmax : El.size ≤ maxLen := by unfold maxLen; omega
  have hrd : ∀ x ∈ El.toList, rd P k (fun _ => some ((.nil : DataW Unit), ([] : List MemPlace))) x = some (.string (keyL x), .nil) := by
    intro x hx
    obtain ⟨s, h1, h2⟩ := hkey x hx
    unfold rd
    rw [h1, keyOf_str' hk (by unfold maxLen; omega)]
    simp [keyL, h1]
  have hrg : El.toList.map (rg P k (fun _ => some ((.nil : DataW Unit), ([] : List MemPlace)))) = El.toList.map fun x => (Lit.string (keyL x), (.nil : DataW Unit)) := by
    refine List.map_congr_left fun x hx => ?_
    unfold rg
    rw [hrd x hx]
    rfl
  refine ⟨_, ⟨El, c, hb, ⟨hmax, hs, fun x hx => ⟨_, hrd x hx⟩⟩, Nat.le_refl _, rfl⟩, ?_, ?_⟩
  · rw [hrg]
    show ((((El.toList.map fun x => (Lit.string (keyL x), (.nil : DataW Unit))).foldr DataW.insert []).map fun p => strOf p.1)).Perm _
    refine ((WideShapes.sorted_perm _).map _).trans ?_
    rw [List.map_map]
    exact List.Perm.refl _
  · show (((El.toList.map (rg P k (fun _ => some ((.nil : DataW Unit), ([] : List MemPlace))))).foldr DataW.insert []).length) = _
    rw [length_sorted]
    simp
theorem sorted_le (ss : List (List UInt8)) : (ss.mergeSort (fun x y => decide (x ≤ y))).Pairwise (fun x y => x ≤ y) := by
  have tr : ∀ a b c : List UInt8, decide (a ≤ b) = true → decide (b ≤ c) = true → decide (a ≤ c) = true := fun a b c h1 h2 => by simp only [decide_eq_true_eq] at *; exact List.le_trans h1 h2
  have to : ∀ a b : List UInt8, (decide (a ≤ b) || decide (b ≤ a)) = true := fun a b => by simp only [Bool.or_eq_true, decide_eq_true_eq]; exact List.le_total a b
  exact (List.pairwise_mergeSort tr to ss).imp (fun h => by simpa using h)
end Go.Proofs.YtjpkfdmjhgnmbaaGreat.Gv
