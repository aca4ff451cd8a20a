/- What is read is small and of fit numbers; that writers stay where others write. -/
import Derived.Test.YtgmbppfkkiobhaaGreatChkGetP
import Derived.Test.YtgmbppfkkiobhaaGreatChkPut
import Derived.Test.YtgmbppfkkiobhaaGreatChkSets
import Derived.Test.YtgmbppfkkiobhaaGreatChkArgs
namespace Go.Proofs.YtgmbppfkkiobhaaGreat.Wire
open Go Go.RowKit Go.Lib
theorem SetIn.of {x : SetD} (h : SetNum x) (k : SmallSet x) : SetIn x := ⟨k.1, k.2.1, h.1, fun t ht => ⟨(h.2 t ht).1, (h.2 t ht).2.1, (h.2 t ht).2.2.1, k.2.2 t ht, (h.2 t ht).2.2.2⟩⟩
theorem okI_zero : okI 0 := ⟨by decide, by decide⟩
theorem rdN_ok : ∀ (l : List UInt8) (i acc : Nat), i ≤ 10 → acc < 2 ^ (7 * i) → okI (rdN l i acc).1
  | [], i, acc, _, _ => by unfold rdN; split <;> exact okI_zero
  | c :: t, i, acc, hi, ha => by
    unfold rdN
    split
    · exact okI_zero
    · rename_i h10
      split
      · exact okI_zero
      · rename_i h9
        have hp := pow_step i
        split
        · refine rdN_ok t (i + 1) _ (by omega) ?_
          have h1 : c.toNat % 128 ≤ 127 := by omega
          have h2 := Nat.mul_le_mul_right (2 ^ (7 * i)) h1
          rw [hp]
          omega
        · rename_i h128
          split
          · exact okI_zero
          · have hn : acc + c.toNat * 2 ^ (7 * i) < 18446744073709551616 := by
              rcases Nat.lt_or_ge i 9 with h | h
              · have h1 : c.toNat ≤ 127 := by omega
                have h2 := Nat.mul_le_mul_right (2 ^ (7 * i)) h1
                have h3 : (2 : Nat) ^ (7 * i) ≤ 2 ^ 56 := Nat.pow_le_pow_right (by decide) (by omega)
                have h4 : (2 : Nat) ^ 56 = 72057594037927936 := by decide
                omega
              · rcases Nat.lt_or_ge 9 i with h' | h'
                · exfalso; omega
                · have hi : i = 9 := by omega
                  subst hi
                  have h1 : c.toNat ≤ 1 := by omega
                  have h2 := Nat.mul_le_mul_right (2 ^ (7 * 9)) h1
                  have h4 : (2 : Nat) ^ (7 * 9) = 9223372036854775808 := by decide
                  omega
            exact unzz_rng hn
theorem rNum_ok (s : RS) : okI (rNum s).1 := by
  unfold rNum
  split
  · exact okI_zero
  · split
    · exact okI_zero
    · exact rdN_ok s.l 0 0 (by decide) (by decide)
theorem rText_le (s : RS) : (rText s).1.length ≤ 1000 := by
  unfold rText
  split
  · simp
  · split
    · simp
    · rename_i h1 h2
      have h3 : tErr s.l.length (rdN s.l 0 0) = 0 := by omega
      have h4 : (rdN s.l 0 0).1 ≤ 1000 := by
        unfold tErr at h3
        split at h3
        · contradiction
        · split at h3
          · cases h3
          · omega
      simp only [List.length_take]
      omega
theorem rMany_len {α : Type} (f : RS → α × RS) : ∀ (n : Nat) (s : RS), (rMany f n s).1.length = n
  | 0, _ => rfl
  | n + 1, s => by simp only [rMany, List.length_cons, rMany_len f n]
theorem rMany_all {α : Type} {f : RS → α × RS} {p : α → Prop} (h : ∀ s, p (f s).1) : ∀ (n : Nat) (s : RS), ∀ x ∈ (rMany f n s).1, p x
  | 0, _, x, hx => by simp [rMany] at hx
  | n + 1, s, x, hx => by
    simp only [rMany, List.mem_cons] at hx
    rcases hx with rfl | hx
    · exact h s
    · exact rMany_all h n _ x hx
theorem count_le {most : Int} (hm : 0 ≤ most) (hm2 : most ≤ 200) (s : RS) : (rCount most s).1.toNat ≤ 200 := by
  obtain ⟨n, hn, hl⟩ := rCount_rng2 hm s
  rw [hn]
  omega
theorem rPl_in (s : RS) : PlIn (rPl s).1 := ⟨rNum_ok _, by have := rText_le s; unfold maxLen; exact Nat.le_trans this (by decide)⟩
theorem rTake_in (s : RS) : TakeIn (rTake s).1 :=
  ⟨rNum_ok _, Nat.le_trans (rText_le _) (by unfold maxLen; decide), Nat.le_trans (rText_le _) (by unfold maxLen; decide), Nat.le_trans (Nat.le_of_eq (rMany_len rPl _ _)) (count_le (by decide) (by decide) _), rMany_all rPl_in _ _⟩
theorem rSet_in (s : RS) : SetIn (rSet s).1 := by
  have h0 : SetIn ⟨[], []⟩ := ⟨by simp, by simp, by simp, by simp⟩
  have h1 : SetIn (rSet0 s).1 := ⟨Nat.le_trans (Nat.le_of_eq (rMany_len rLeg _ _)) (count_le (by decide) (by decide) _), Nat.le_trans (Nat.le_of_eq (rMany_len rTake _ _)) (count_le (by decide) (by decide) _),
    rMany_all (fun s => ⟨rNum_ok _, rNum_ok _⟩) _ _, rMany_all rTake_in _ _⟩
  show SetIn (if (rSet0 s).2.e ≠ 0 then ⟨[], []⟩ else (rSet0 s).1)
  split
  · exact h0
  · exact h1
theorem only_bel {a w : World} (h : Below a.heap.size a w) : a.grownBy w none := ⟨h.os, h.tape, h.output, h.size, fun i hi _ => h.block i hi⟩
theorem RWr.below {B p : Nat} {e : Int} {l : List UInt8} {w w' : World} (h : RWr B p e l w) (hb : Below w.heap.size w w') : RWr B p e l w' := by
  obtain ⟨hB, v, hp, hown, hne⟩ := h
  exact ⟨hB, v, (hb.block p (blk_lt hp)).trans hp, hown.kept (only_bel hb) (by cases hv : v.ownBlock <;> simp), hne⟩
theorem RWrS.below {B p : Nat} {s : WS} {w w' : World} (h : RWrS B p s w) (hb : Below w.heap.size w w') : RWrS B p s w' :=
  ⟨fun he => (h.1 he).below hb, fun he => by obtain ⟨l, hl⟩ := h.2 he; exact ⟨l, hl.below hb⟩⟩
theorem KeepsU.below {p : Nat} {w w' : World} (hp : p < w.heap.size) (hb : Below w.heap.size w w') : KeepsU p w w' :=
  ⟨hb.size, fun B hB hr => ⟨fun b hbB _ => hb.block b (by omega), fun v e t fr h => hr v e t fr ((hb.block p hp).symm.trans h)⟩⟩
/-- The program's writer stays where the document's one writes. -/
theorem Wr.keepsU {B p q : Nat} {e : Int} {l : List UInt8} {w w' : World} (h : Wr B p e l w) (k : KeepsU q w w') (hr : RowUp q w.heap.size w) (hos : w'.os = w.os) (htape : w'.tape = w.tape) (hout : w'.output = w.output) (hpq : p ≠ q)
    {cs : Array Value} (hq : w.heap[q]? = some (.cells cs 31 (0, 0))) : Wr B p e l w' := by
  obtain ⟨h1, _⟩ := k.2 _ (Nat.le_refl _) hr
  have g : w.grownBy w' (some q) := ⟨hos, htape, hout, k.1, fun i hi hne => h1 i hi (fun e => hne (congrArg some e))⟩
  obtain ⟨hB, v, hp, hown, hne⟩ := h
  exact ⟨hB, v, (h1 p (blk_lt hp) hpq).trans hp, hown.kept g (Or.inr (own_ne hown hq (by decide))), hne⟩
theorem WrS.keepsU {B p q : Nat} {s : WS} {w w' : World} (h : WrS B p s w) (k : KeepsU q w w') (hr : RowUp q w.heap.size w) (hos : w'.os = w.os) (htape : w'.tape = w.tape) (hout : w'.output = w.output) (hpq : p ≠ q)
    {cs : Array Value} (hq : w.heap[q]? = some (.cells cs 31 (0, 0))) : WrS B p s w' :=
  ⟨fun he => (h.1 he).keepsU k hr hos htape hout hpq hq, fun he => by obtain ⟨l, hl⟩ := h.2 he; exact ⟨l, hl.keepsU k hr hos htape hout hpq hq⟩⟩
/-- What the two writers hand back. -/
def outB (s : WS) : ByteArray := if s.e = 0 then ⟨s.l.toArray⟩ else ⟨#[]⟩
theorem wbytes_s (B p : Nat) (s : WS) (w : World) (h : WrS B p s w) :
    Calls Tryz.prog 11 #[.pointer (some ⟨p, 0, none⟩)] w fun en w' => en = .returned (.tuple #[.string (outB s), .int .i64 s.e]) ∧ w = w' := by
  by_cases he : s.e = 0
  · have := wbytes_any B p s.l w (h.1 he)
    unfold outB
    rw [if_pos he, he]
    exact this
  · obtain ⟨l, hl⟩ := h.2 he
    have := wbytes_bad B p s.e he l w hl
    unfold outB
    rw [if_neg he]
    exact this
theorem rwbytes_s (B p : Nat) (s : WS) (w : World) (h : RWrS B p s w) :
    Calls Tryz.prog 12 #[.pointer (some ⟨p, 0, none⟩)] w fun en w' => en = .returned (.tuple #[.string (outB s), .int .i64 s.e]) ∧ ∃ n, w' = w.drewN n := by
  by_cases he : s.e = 0
  · have := rwbytes_any B p s.l w (h.1 he)
    unfold outB
    rw [if_pos he, he]
    exact this
  · obtain ⟨l, hl⟩ := h.2 he
    have := rwbytes_bad B p s.e he l w hl
    unfold outB
    rw [if_neg he]
    exact this
/-- Behind the put sets lies what is read. -/
theorem wSets_get {xs : List SetD} (h : (wSets ⟨0, []⟩ xs).e = 0) : (wSets ⟨0, []⟩ xs).l = (xs.map setB).flatten ∧ ∀ x ∈ xs, ∀ t ∈ x.takes, TakeFit t := by
  obtain ⟨_, h2, h3⟩ := good_sets xs ⟨0, []⟩ h
  exact ⟨by rw [h3]; rfl, h2⟩
end Go.Proofs.YtgmbppfkkiobhaaGreat.Wire
