/- Rows that stay; what the laws of the wire share. -/
import Derived.Test.YtgmbppfkkiobhaaGreatWirePutC
namespace Go.Proofs.YtgmbppfkkiobhaaGreat.Wire
open Go Go.RowKit Go.Lib
theorem Rows2.to {w w1 : World} {B : Nat} {A : Option Addr} {n : Nat} {nums : List Int} {A' : Option Addr} {m : Nat} {texts : List ByteArray} (h : Rows2 w B A n nums A' m texts) (hb : Below B w w1) (hB : B ≤ w1.heap.size) : Rows2 w1 w1.heap.size A n nums A' m texts := h.below hb hB
theorem below_un {B : Nat} {a b : World} (h : Below B a.drew b) : Below B a b := ⟨h.os, h.tape, h.output, h.size, h.block⟩
theorem mo_pos {x : ByteArray} (h : x.toList.isEmpty = false) : 0 < x.size := by
  rcases Nat.eq_zero_or_pos x.size with h0 | h0
  · exfalso
    obtain ⟨d⟩ := x
    have hd : d = #[] := Array.eq_empty_of_size_eq_zero h0
    subst hd
    have e : (⟨#[]⟩ : ByteArray).toList = [] := by
      unfold ByteArray.toList
      unfold ByteArray.toList.loop
      simp [ByteArray.size]
    rw [e] at h
    exact absurd h (by decide)
  · exact h0
end Go.Proofs.YtgmbppfkkiobhaaGreat.Wire
