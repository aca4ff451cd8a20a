/- wire.NewReader. -/
import Derived.Test.YtgmbppfkkiobhaaGreatWireC
import Derived.Test.YtgmbppfkkiobhaaGreatLay
namespace Go.Proofs.YtgmbppfkkiobhaaGreat.Wire
open Go Go.RowKit Go.Lib
theorem cloneS_any (s : ByteArray) (w : World) (h : s.size ≤ 281474976710656) : Calls Tryz.prog 37 #[.string s] w fun en w' => en = .returned (.string s) ∧ Below w.heap.size w w' := by
  have H := Lib.hid h
  clear h
  go_enter Tryz.func37, Tryz.ntmps37
  go_wp2_with (go_at_call 124; refine (Tryz.stringslite_Clone s _ H.out).mono ?_; rintro e w1 ⟨rfl, hb⟩)
  go_ret
  exact ⟨rfl, hb⟩
theorem newRd_any (b : ByteArray) (w : World) (h : b.size ≤ 281474976710656) : Calls Tryz.prog 13 #[.string b] w fun en w' => (∃ p, en = .returned (.pointer (some ⟨p, 0, none⟩)) ∧ w.heap.size ≤ p ∧ Rd p 0 b 0 w') ∧ Below w.heap.size w w' := by
  have H := Lib.hid h
  clear h
  go_enter Tryz.func13, Tryz.ntmps13
  go_wp2_with (go_at_call 37; refine (cloneS_any b _ H.out).mono ?_; rintro e w1 ⟨rfl, hb⟩)
  go_ret
  exact ⟨⟨_, rfl, hb.size, heap_alloc_new w1 _⟩, hb.alloc hb.size _⟩
end Go.Proofs.YtgmbppfkkiobhaaGreat.Wire
