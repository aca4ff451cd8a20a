/- The program's reader as a general reader. -/
import Derived.Test.YtgmbppfkkiobhaaGreatChkGetD
import Derived.Test.YtgmbppfkkiobhaaGreatWireC
namespace Go.Proofs.YtgmbppfkkiobhaaGreat.Wire
open Go Go.RowKit Go.Lib
def RP (p : Nat) (s : RS) (w : World) : Prop := ∃ (b : ByteArray) (at_ : Nat), Rd p s.e b at_ w ∧ s.l = (bl b).drop at_ ∧ at_ ≤ b.size ∧ b.size ≤ 1000000000000
theorem RP.of (p : Nat) : RdOf p 54 (RP p) :=
  ⟨fun h => by obtain ⟨b, a, h, _⟩ := h; exact ⟨_, h⟩, fun h hg hr => by obtain ⟨b, a, h, h2⟩ := h; exact ⟨b, a, (hg.block p (blk_lt h) (fun e => hr e.symm)).trans h, h2⟩⟩
theorem RP.num {p : Nat} {s : RS} {w : World} (h : RP p s w) : Calls Tryz.prog 39 #[.pointer (some ⟨p, 0, none⟩)] w fun en w' => en = .returned (.int .i64 (rNum s).1) ∧ w.grownBy w' (some p) ∧ RP p (rNum s).2 w' := by
  obtain ⟨b, a, h, hl, ha, hb⟩ := h
  obtain ⟨e, l⟩ := s
  subst hl
  refine (rNum_any p _ b a w h ha hb).mono ?_
  rintro en w' ⟨h1, h2, a2, h3, h4, h5⟩
  exact ⟨h1, h2, b, a2, h4, h5, h3, hb⟩
theorem RP.count {p : Nat} {s : RS} {w : World} (h : RP p s w) (m : Int) : Calls Tryz.prog 38 #[.pointer (some ⟨p, 0, none⟩), .int .i64 m] w fun en w' => en = .returned (.int .i64 (rCount m s).1) ∧ w.grownBy w' (some p) ∧ RP p (rCount m s).2 w' := by
  obtain ⟨b, a, h, hl, ha, hb⟩ := h
  obtain ⟨e, l⟩ := s
  subst hl
  refine (rCount_any p _ m b a w h ha hb).mono ?_
  rintro en w' ⟨h1, h2, a2, h3, h4, h5⟩
  exact ⟨h1, h2, b, a2, h4, h5, h3, hb⟩
theorem RP.text {p : Nat} {s : RS} {w : World} (h : RP p s w) : Calls Tryz.prog 40 #[.pointer (some ⟨p, 0, none⟩)] w fun en w' => en = .returned (.string ⟨(rText s).1.toArray⟩) ∧ w.grownBy w' (some p) ∧ RP p (rText s).2 w' := by
  obtain ⟨b, a, h, hl, ha, hb⟩ := h
  obtain ⟨e, l⟩ := s
  subst hl
  refine (rText_any p _ b a w h ha hb).mono ?_
  rintro en w' ⟨h1, h2, a2, h3, h4, h5⟩
  exact ⟨h1, h2, b, a2, h4, h5, h3, hb⟩
theorem grownBy_drew (w : World) (r : Option Nat) : w.grownBy w.drew r := ⟨rfl, rfl, rfl, Nat.le_refl _, fun _ _ _ => rfl⟩
theorem RdOf.drew {p : Nat} {tR : TypeId} {R : RS → World → Prop} (H : RdOf p tR R) {s : RS} {w : World} (h : R s w) : R s w.drew := H.keep h (grownBy_drew w none) (by simp)
end Go.Proofs.YtgmbppfkkiobhaaGreat.Wire
