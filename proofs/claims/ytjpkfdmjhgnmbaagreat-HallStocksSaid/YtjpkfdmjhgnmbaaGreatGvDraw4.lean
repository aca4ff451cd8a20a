/- Regions that draw their order, fourth part: memory while the region runs. -/
import Derived.Test.YtjpkfdmjhgnmbaaGreatGvDraw3
namespace Go.Proofs.YtjpkfdmjhgnmbaaGreat.Gv
open Go

theorem more_get {h h1 : H} {b : Nat} {x : B} (e : (h.more h1).t.get b = some x) : (b = h.next ∧ h1.t.get b = some x) ∨ (b ≠ h.next ∧ h.t.get b = some x) := by
  unfold H.more at e
  cases hx : h1.t.get h.next with
  | none =>
    rw [hx] at e
    exact .inr (T.get_del e)
  | some y =>
    rw [hx] at e
    rcases T.get_set e with ⟨rfl, rfl⟩ | ⟨h2, h3⟩
    · exact .inl ⟨rfl, hx⟩
    · exact .inr ⟨h2, h3⟩
theorem more_old {h h1 : H} {b : Nat} (hb : b ≠ h.next) : (h.more h1).t.get b = h.t.get b := by
  unfold H.more
  cases hx : h1.t.get h.next with
  | none => exact T.setO_other _ _ _ _ hb
  | some y => exact T.setO_other _ _ _ _ hb
theorem more_next {h h1 : H} : (h.more h1).next = h1.next := by
  unfold H.more
  cases h1.t.get h.next <;> rfl

/-- A step of the text's memory that is quiet. -/
def QStep (all : List Oper) (M : Nat → H) (j : Nat) : Prop := M (j + 1) = M j ∨ (late all (masks all) j = true ∧ ∃ h1, h1.next = (M j).next + 1 ∧ M (j + 1) = (M j).more h1)
/-- What place j has made. -/
def Made (M : Nat → H) (j b : Nat) (x : B) : Prop := b = (M j).next ∧ b < (M (j + 1)).next ∧ (M (j + 1)).t.get b = some x

structure Mem (G : Gh) (φ0 : Mp) (w0 : World) (M : Nat → H) (N : Nat) (φ : Mp) (c : Nat) (L : Nat → Prop) (w : World) : Prop where
  rel : HRel G φ (M c) w
  fresh : ∀ k, k ≤ c → ∀ b, (M k).next ≤ b → (M k).t.get b = none
  foot : ∀ k, Foot φ (M c) k → k < w0.heap.size → Foot φ0 (M 0) k
  made : ∀ (j b : Nat) (x : B) (l : Loc), c ≤ j → j < N → L j → Made M j b x → φ b = some l → BRel G φ x l w ∧ w0.heap.size ≤ l.blk ∧ ¬ Foot φ (M c) l.blk
  apart : ∀ (j j' b b' : Nat) (x x' : B) (l l' : Loc), c ≤ j → j < N → L j → c ≤ j' → j' < N → L j' → j ≠ j' → Made M j b x → Made M j' b' x' → φ b = some l → φ b' = some l' → l.blk ≠ l'.blk
structure Num (φ0 : Mp) (M : Nat → H) (N : Nat) (φ : Mp) (L : Nat → Prop) : Prop where
  le : φ0.le φ
  new : ∀ b, φ0 b = none → φ b ≠ none → ∃ j, j < N ∧ L j ∧ (M j).next ≤ b ∧ b < (M (j + 1)).next

section
variable {E : Env} {P : Program} {G : Gh} {φ φ0 : Mp} {w w0 : World} {n : Nat} {all : List Oper} {call : Call} {S : Nat → Fr} {M : Nat → H} {U : Nat → V} {c : Nat} {L : Nat → Prop}

theorem Num.free (R : Row E n all call S M U) (X : Num φ0 M all.length φ L) (hf : Free φ0 (M 0).next (M all.length).next) {i : Nat} (hi : i < all.length) (hL : ¬ L i) : Free φ (M i).next (M (i + 1)).next := by
  intro b h1 h2
  have h3 := R.next i (by omega) 0 (Nat.zero_le _)
  have h4 := R.next all.length (Nat.le_refl _) (i + 1) (by omega)
  have h0 : φ0 b = none := hf b (by omega) (by omega)
  cases hb : φ b with
  | none => rfl
  | some l =>
    obtain ⟨j, hj, hLj, h5, h6⟩ := X.new b h0 (by rw [hb]; simp)
    by_cases hij : j = i
    · subst hij; exact absurd hLj hL
    · rcases Nat.lt_or_ge j i with hlt | hge
      · have := R.next i (by omega) (j + 1) (by omega)
        omega
      · have := R.next j (by omega) (i + 1) (by omega)
        omega

theorem Mem.same (Me : Mem G φ0 w0 M all.length φ c L w) (hq : M (c + 1) = M c) : Mem G φ0 w0 M all.length φ (c + 1) L w := by
  have hf : ∀ k, Foot φ (M (c + 1)) k ↔ Foot φ (M c) k := fun k => by rw [hq]
  refine ⟨by rw [hq]; exact Me.rel, fun k hk b hb => ?_, fun k h => Me.foot k ((hf k).1 h), fun j b x l h1 h2 h3 h4 h5 => ?_, fun j j' b b' x x' l l' h1 h2 h3 h1' h2' h3' => Me.apart j j' b b' x x' l l' (by omega) h2 h3 (by omega) h2' h3'⟩
  · by_cases hk' : k = c + 1
    · subst hk'; rw [hq] at hb ⊢; exact Me.fresh c (Nat.le_refl _) b hb
    · exact Me.fresh k (by omega) b hb
  · obtain ⟨a, b', d⟩ := Me.made j b x l (by omega) h2 h3 h4 h5
    exact ⟨a, b', fun hh => d ((hf _).1 hh)⟩
theorem Mem.next (Me : Mem G φ0 w0 M all.length φ c L w) (hq : QStep all M c) (hc : c < all.length) (hL : ¬ L c → φ (M c).next = none) : Mem G φ0 w0 M all.length φ (c + 1) L w := by
  rcases hq with hq | ⟨_, h1, h1n, hq⟩
  · exact Me.same hq
  · have hnx : (M (c + 1)).next = (M c).next + 1 := by rw [hq, more_next, h1n]
    have get : ∀ b x, (M (c + 1)).t.get b = some x → (b = (M c).next ∧ Made M c b x) ∨ (b ≠ (M c).next ∧ (M c).t.get b = some x) := by
      intro b x hb
      have hb' := hb
      rw [hq] at hb'
      rcases more_get hb' with ⟨h2, _⟩ | h2
      · exact .inl ⟨h2, h2, by omega, hb⟩
      · exact .inr h2
    have listed : ∀ l, φ (M c).next = some l → L c := by
      intro l hl
      by_cases hLc : L c
      · exact hLc
      · rw [hL hLc] at hl; cases hl
    refine ⟨⟨fun b x l hb hl => ?_, fun b b' x x' l l' hb hb' hl hl' hll => ?_, fun b hb => ?_⟩, fun k hk b hb => ?_, fun k hk hkw => ?_, fun j b x l h1 h2 h3 h4 h5 => ?_, fun j j' b b' x x' l l' h1 h2 h3 h1' h2' h3' => Me.apart j j' b b' x x' l l' (by omega) h2 h3 (by omega) h2' h3'⟩
    · rcases get b x hb with ⟨rfl, hm⟩ | ⟨_, h⟩
      · exact (Me.made c _ x l (Nat.le_refl _) hc (listed l hl) hm hl).1
      · exact Me.rel.blk b x l h hl
    · rcases get b x hb with ⟨rfl, hm⟩ | ⟨_, h⟩
      · rcases get b' x' hb' with ⟨rfl, hm'⟩ | ⟨_, h'⟩
        · rfl
        · have := (Me.made c _ x l (Nat.le_refl _) hc (listed l hl) hm hl).2.2
          exact absurd ⟨b', x', l', h', hl', hll.symm⟩ this
      · rcases get b' x' hb' with ⟨rfl, hm'⟩ | ⟨_, h'⟩
        · have := (Me.made c _ x' l' (Nat.le_refl _) hc (listed l' hl') hm' hl').2.2
          exact absurd ⟨b, x, l, h, hl, hll⟩ this
        · exact Me.rel.inj b b' x x' l l' h h' hl hl' hll
    · cases hx : (M (c + 1)).t.get b with
      | none => rfl
      | some x =>
        rcases get b x hx with ⟨rfl, _⟩ | ⟨_, h⟩
        · omega
        · rw [Me.rel.fresh b (by omega)] at h; cases h
    · by_cases hk' : k = c + 1
      · subst hk'
        cases hx : (M (c + 1)).t.get b with
        | none => rfl
        | some x =>
          rcases get b x hx with ⟨rfl, _⟩ | ⟨_, h⟩
          · omega
          · rw [Me.rel.fresh b (by omega)] at h; cases h
      · exact Me.fresh k (by omega) b hb
    · obtain ⟨b, x, l, hb, hl, rfl⟩ := hk
      rcases get b x hb with ⟨rfl, hm⟩ | ⟨_, h⟩
      · have := (Me.made c _ x l (Nat.le_refl _) hc (listed l hl) hm hl).2.1
        omega
      · exact Me.foot _ ⟨b, x, l, h, hl, rfl⟩ hkw
    · obtain ⟨a1, a2, a3⟩ := Me.made j b x l (by omega) h2 h3 h4 h5
      refine ⟨a1, a2, fun hh => ?_⟩
      obtain ⟨b1, x1, l1, hb1, hl1, hll⟩ := hh
      rcases get b1 x1 hb1 with ⟨rfl, hm⟩ | ⟨_, h⟩
      · exact Me.apart c j _ b x1 x l1 l (Nat.le_refl _) hc (listed l1 hl1) (by omega) h2 h3 (by omega) hm h4 hl1 h5 hll
      · exact a3 ⟨b1, x1, l1, h, hl1, hll⟩

theorem Mem.list (Me : Mem G φ0 w0 M all.length φ c L w) {i : Nat} (hi : ∀ b x, ¬ Made M i b x) {L' : Nat → Prop} (hL : ∀ j, L' j → j = i ∨ L j) : Mem G φ0 w0 M all.length φ c L' w := by
  have key : ∀ j b x, L' j → Made M j b x → L j := by
    intro j b x h1 h2
    rcases hL j h1 with rfl | h
    · exact absurd h2 (hi b x)
    · exact h
  exact ⟨Me.rel, Me.fresh, Me.foot, fun j b x l h1 h2 h3 h4 h5 => Me.made j b x l h1 h2 (key j b x h3 h4) h4 h5,
    fun j j' b b' x x' l l' h1 h2 h3 h1' h2' h3' hne m m' => Me.apart j j' b b' x x' l l' h1 h2 (key j b x h3 m) h1' h2' (key j' b' x' h3' m') hne m m'⟩

theorem Frame.trans' {h0 hc : H} {w' : World} (f : Frame φ0 h0 w0 w) (g : Frame φ hc w w') (hft : ∀ k, Foot φ hc k → k < w0.heap.size → Foot φ0 h0 k) : Frame φ0 h0 w0 w' :=
  ⟨g.os.trans f.os, g.tape.trans f.tape, g.output.trans f.output, Nat.le_trans f.size g.size, fun k hk hn =>
    (g.block k (Nat.lt_of_lt_of_le hk f.size) fun hh => hn (hft k hh hk)).trans (f.block k hk hn)⟩

/-- A loud operation has run. -/
theorem Mem.loud (R : Row E n all call S M U) {i : Nat} (_hi : i < all.length) (Me : Mem G φ0 w0 M all.length φ i L w) (hs : w0.heap.size ≤ w.heap.size) {φ' : Mp} {w' : World} (r : HRel G φ' (M (i + 1)) w') (f : Frame φ (M i) w w') (x : Ext φ φ' (M i) (M (i + 1)) w)
    {L' : Nat → Prop} (hL : ∀ j, L' j → j = i ∨ L j) : Mem G φ0 w0 M all.length φ' (i + 1) L' w' := by
  have old : ∀ j b y l, i + 1 ≤ j → j < all.length → Made M j b y → φ' b = some l → φ b = some l := by
    intro j b y l h1 h2 hm hl
    cases hb : φ b with
    | some l0 => have := x.le b l0 hb; rw [this] at hl; exact hl
    | none =>
      have h3 := R.next j (by omega) (i + 1) h1
      have := x.new b hb (.inr (by rw [hm.1]; exact h3))
      rw [this] at hl; cases hl
  have lst : ∀ j, i + 1 ≤ j → L' j → L j := fun j h1 h2 => (hL j h2).resolve_left (by omega)
  refine ⟨r, fun k hk b hb => ?_, fun k hk hkw => ?_, fun j b y l h1 h2 h3 h4 h5 => ?_, fun j j' b b' y y' l l' h1 h2 h3 h1' h2' h3' hne m m' e e' => ?_⟩
  · by_cases hk' : k = i + 1
    · subst hk'; exact r.fresh b hb
    · exact Me.fresh k (by omega) b hb
  · exact Me.foot k (x.foot k hk (by omega)) hkw
  · obtain ⟨a1, a2, a3⟩ := Me.made j b y l (by omega) h2 (lst j h1 h3) h4 (old j b y l h1 h2 h4 h5)
    have hlt := a1.lt
    exact ⟨a1.mono x.le (f.block _ hlt a3), a2, fun hh => a3 (x.foot _ hh hlt)⟩
  · exact Me.apart j j' b b' y y' l l' (by omega) h2 (lst j h1 h3) (by omega) h2' (lst j' h1' h3') hne m m' (old j b y l h1 h2 m e) (old j' b' y' l' h1' h2' m' e')

/-- Going down from a later memory of quiet steps. -/
theorem down {b : Nat} {x : B} {i : Nat} (hb : b < (M i).next) : ∀ (k : Nat), i ≤ k → (∀ j, i ≤ j → j < k → QStep all M j) → (∀ j, i ≤ j → j < k → (M i).next ≤ (M j).next) → (M k).t.get b = some x → (M i).t.get b = some x
  | 0, hk, _, _, h => by have : i = 0 := by omega
                         subst this; exact h
  | k + 1, hk, hq, hm, h => by
    by_cases hik : i = k + 1
    · subst hik; exact h
    · refine down hb k (by omega) (fun j h1 h2 => hq j h1 (by omega)) (fun j h1 h2 => hm j h1 (by omega)) ?_
      rcases hq k (by omega) (by omega) with hq | ⟨_, h1, h1n, hq⟩
      · rw [hq] at h; exact h
      · rw [hq] at h
        have := hm k (by omega) (by omega)
        rcases more_get h with ⟨h2, _⟩ | ⟨_, h2⟩
        · omega
        · exact h2
/-- Going up to a later memory of quiet steps. -/
theorem up {b : Nat} {x : B} {i : Nat} : ∀ (k : Nat), i ≤ k → (∀ j, i ≤ j → j < k → QStep all M j) → (∀ j, i ≤ j → j < k → ∀ b, (M j).next ≤ b → (M j).t.get b = none) → (M i).t.get b = some x → (M k).t.get b = some x
  | 0, hk, _, _, h => by have : i = 0 := by omega
                         subst this; exact h
  | k + 1, hk, hq, hf, h => by
    by_cases hik : i = k + 1
    · subst hik; exact h
    · have ih := up k (by omega) (fun j h1 h2 => hq j h1 (by omega)) (fun j h1 h2 => hf j h1 (by omega)) h
      rcases hq k (by omega) (by omega) with hq | ⟨_, h1, h1n, hq⟩
      · rw [hq]; exact ih
      · rw [hq]
        have hne : b ≠ (M k).next := fun e => by
          have := hf k (by omega) (by omega) b (by omega)
          rw [this] at ih; cases ih
        rw [more_old hne]; exact ih

/-- A quiet operation has run, wherever. -/
theorem Mem.det (R : Row E n all call S M U) {i : Nat} (hi : i < all.length) (hLi : ¬ L i) (Me : Mem G φ0 w0 M all.length φ c L w) (hcl : c ≤ all.length) (hs : w0.heap.size ≤ w.heap.size) (hfr : Free φ (M i).next (M (i + 1)).next) {h1 : H} (Qu : Quiet all (masks all) i (M i) (M (i + 1)) h1)
    (hqs : late all (masks all) i = true → ∀ j, i ≤ j → j < c → QStep all M j)
    {φ' : Mp} {w' : World} (r : HRel G φ' h1 w') (f : Frame φ ⟨.lf, (M i).next⟩ w w') (x : Ext φ φ' ⟨.lf, (M i).next⟩ h1 w) {L' : Nat → Prop} (hL : ∀ j, L' j → j = i ∨ L j) : Mem G φ0 w0 M all.length φ' c L' w' := by
  have nofoot : ∀ k, ¬ Foot φ ⟨.lf, (M i).next⟩ k := fun k ⟨b, y, l, hb, _⟩ => (nomatch hb)
  have f1 : ∀ k, k < w.heap.size → w'.heap[k]? = w.heap[k]? := fun k hk => f.block k hk (nofoot k)
  have f4 : ∀ b y l, h1.t.get b = some y → φ' b = some l → BRel G φ' y l w' ∧ w.heap.size ≤ l.blk := by
    intro b y l hb hl
    refine ⟨r.blk b y l hb hl, ?_⟩
    rcases Nat.lt_or_ge l.blk w.heap.size with h | h
    · exact absurd (x.foot _ ⟨b, y, l, hb, hl, rfl⟩ h) (nofoot _)
    · exact h
  have hm1 : (M (i + 1)).next = h1.next := by
    rcases Qu with ⟨a, b⟩ | ⟨a, _, b⟩
    · rw [b, a]
    · rw [b, more_next]
  -- what is new
  have f3 : ∀ b l, φ b = none → φ' b = some l → b = (M i).next ∧ h1.next = (M i).next + 1 ∧ M (i + 1) = (M i).more h1 ∧ late all (masks all) i = true := by
    intro b l hb hl
    have hr : (M i).next ≤ b ∧ b < h1.next := by
      by_cases hh : b < (M i).next ∨ h1.next ≤ b
      · have := x.new b hb hh
        rw [this] at hl; cases hl
      · omega
    rcases Qu with ⟨a, _⟩ | ⟨a, hlt, e⟩
    · omega
    · exact ⟨by omega, a, e, hlt⟩
  have f5 : ∀ b l l', φ b = some l → φ' b = some l' → l = l' := fun b l l' h1 h2 => by have := x.le b l h1; rw [this] at h2; exact Option.some.inj h2
  have mk : ∀ y, (M (i + 1)).t.get (M i).next = some y → M (i + 1) = (M i).more h1 → h1.t.get (M i).next = some y := by
    intro y hy e
    rw [e] at hy
    rcases more_get hy with ⟨_, h⟩ | ⟨h, _⟩
    · exact h
    · exact absurd rfl h
  -- a live block of the cut that is new
  have live : ∀ b y l, (M c).t.get b = some y → φ b = none → φ' b = some l → i < c ∧ BRel G φ' y l w' ∧ w.heap.size ≤ l.blk ∧ b = (M i).next := by
    intro b y l hb hb0 hl
    obtain ⟨e1, e2, e3, e4⟩ := f3 b l hb0 hl
    have hic : i < c := by
      rcases Nat.lt_or_ge i c with h | h
      · exact h
      · have := R.next i (by omega) c h
        rw [Me.fresh c (Nat.le_refl _) b (by omega)] at hb
        cases hb
    have hd := down (all := all) (i := i + 1) (b := b) (by omega) c (by omega) (fun j h1 h2 => hqs e4 j (by omega) h2) (fun j h1 h2 => R.next j (by omega) (i + 1) h1) hb
    subst e1
    obtain ⟨k1, k2⟩ := f4 _ y l (mk y hd e3) hl
    exact ⟨hic, k1, k2, rfl⟩
  have oldm : ∀ j b y l, L' j → Made M j b y → φ b = some l → L j := by
    intro j b y l h1' h2 h3
    rcases hL j h1' with rfl | h
    · have := hfr b (by rw [h2.1]; exact Nat.le_refl _) h2.2.1
      rw [this] at h3; cases h3
    · exact h
  have newm : ∀ j b y l, j < all.length → Made M j b y → φ b = none → φ' b = some l → j = i ∧ BRel G φ' y l w' ∧ w.heap.size ≤ l.blk := by
    intro j b y l hj hm hb hl
    obtain ⟨e1, e2, e3, _⟩ := f3 b l hb hl
    have hji : j = i := by
      rcases Nat.lt_trichotomy j i with h | h | h
      · have := R.next i (by omega) (j + 1) (by omega)
        have := hm.2.1
        omega
      · exact h
      · have := R.next j (by omega) (i + 1) (by omega)
        have := hm.1
        omega
    subst hji
    have hy := hm.2.2
    rw [e1] at hy
    subst e1
    obtain ⟨k1, k2⟩ := f4 _ y l (mk y hy e3) hl
    exact ⟨rfl, k1, k2⟩
  refine ⟨⟨fun b y l hb hl => ?_, fun b b' y y' l l' hb hb' hl hl' hll => ?_, Me.rel.fresh⟩, Me.fresh, fun k hk hkw => ?_, fun j b y l g1 g2 g3 g4 g5 => ?_, fun j j' b b' y y' l l' g1 g2 g3 g1' g2' g3' hne m m' e e' => ?_⟩
  · cases hb0 : φ b with
    | some l0 =>
      have := f5 b l0 l hb0 hl; subst this
      have hB := Me.rel.blk b y l0 hb hb0
      exact hB.mono x.le (f1 _ hB.lt)
    | none => exact (live b y l hb hb0 hl).2.1
  · cases hb0 : φ b with
    | some l0 =>
      have := f5 b l0 l hb0 hl; subst this
      have hB := (Me.rel.blk b y l0 hb hb0).lt
      cases hb0' : φ b' with
      | some l0' =>
        have := f5 b' l0' l' hb0' hl'; subst this
        exact Me.rel.inj b b' y y' l0 l0' hb hb' hb0 hb0' hll
      | none =>
        have := (live b' y' l' hb' hb0' hl').2.2.1
        omega
    | none =>
      have h2 := live b y l hb hb0 hl
      cases hb0' : φ b' with
      | some l0' =>
        have := f5 b' l0' l' hb0' hl'; subst this
        have hB := (Me.rel.blk b' y' l0' hb' hb0').lt
        have := h2.2.2.1
        omega
      | none => rw [h2.2.2.2, (live b' y' l' hb' hb0' hl').2.2.2]
  · obtain ⟨b, y, l, hb, hl, rfl⟩ := hk
    cases hb0 : φ b with
    | some l0 =>
      have := f5 b l0 l hb0 hl; subst this
      exact Me.foot _ ⟨b, y, l0, hb, hb0, rfl⟩ hkw
    | none => have := (live b y l hb hb0 hl).2.2.1; omega
  · cases hb0 : φ b with
    | some l0 =>
      have := f5 b l0 l hb0 g5; subst this
      obtain ⟨a1, a2, a3⟩ := Me.made j b y l0 g1 g2 (oldm j b y l0 g3 g4 hb0) g4 hb0
      refine ⟨a1.mono x.le (f1 _ a1.lt), a2, fun hh => ?_⟩
      obtain ⟨b1, y1, l1, hb1, hl1, hll⟩ := hh
      cases hb10 : φ b1 with
      | some l10 =>
        have := f5 b1 l10 l1 hb10 hl1; subst this
        exact a3 ⟨b1, y1, l10, hb1, hb10, hll⟩
      | none =>
        have := (live b1 y1 l1 hb1 hb10 hl1).2.2.1
        have := a1.lt
        omega
    | none =>
      obtain ⟨rfl, k1, k2⟩ := newm j b y l g2 g4 hb0 g5
      refine ⟨k1, by omega, fun hh => ?_⟩
      obtain ⟨b1, y1, l1, hb1, hl1, hll⟩ := hh
      cases hb10 : φ b1 with
      | some l10 =>
        have := f5 b1 l10 l1 hb10 hl1; subst this
        have := (Me.rel.blk b1 y1 l10 hb1 hb10).lt
        omega
      | none =>
        have := (live b1 y1 l1 hb1 hb10 hl1).1
        omega
  · cases hb0 : φ b with
    | some l0 =>
      have := f5 b l0 l hb0 e; subst this
      have hB := (Me.made j b y l0 g1 g2 (oldm j b y l0 g3 m hb0) m hb0).1.lt
      cases hb0' : φ b' with
      | some l0' =>
        have := f5 b' l0' l' hb0' e'; subst this
        exact Me.apart j j' b b' y y' l0 l0' g1 g2 (oldm j b y l0 g3 m hb0) g1' g2' (oldm j' b' y' l0' g3' m' hb0') hne m m' hb0 hb0'
      | none =>
        have := (newm j' b' y' l' g2' m' hb0' e').2.2
        omega
    | none =>
      obtain ⟨rfl, k1, k2⟩ := newm j b y l g2 m hb0 e
      cases hb0' : φ b' with
      | some l0' =>
        have := f5 b' l0' l' hb0' e'; subst this
        have hB := (Me.made j' b' y' l0' g1' g2' (oldm j' b' y' l0' g3' m' hb0') m' hb0').1.lt
        omega
      | none =>
        have := (newm j' b' y' l' g2' m' hb0' e').1
        exact absurd this.symm hne
end
end Go.Proofs.YtjpkfdmjhgnmbaaGreat.Gv
