/- (*wire.Writer).Text, as ChkNum. -/
import Derived.Test.YthlpdficpmdebaaGreatJ1
import Derived.Test.YthlpdficpmdebaaGreatJ2
namespace Go.Proofs.YthlpdficpmdebaaGreat.Wire
open Go Go.RowKit Go.Lib
/-- Text's end: all is put, or one is too long. -/
def TextK (B p : Nat) (l : List UInt8) (xs : List ByteArray) (w : World) (en : Ending) (w' : World) : Prop :=
  (∃ u, en = .returned u) ∧ Below B w w' ∧ Keeps p w w' ∧ (((∀ x ∈ xs, x.size ≤ 1000) ∧ Wr B p 0 (l ++ (xs.map tb).flatten) w') ∨ ((∃ x ∈ xs, 1000 < x.size) ∧ ∃ l', Wr B p 2 l' w'))
set_option maxRecDepth 20000 in
theorem wtexts_k (B p : Nat) (l : List UInt8) (A : Option Addr) (n c : Nat) (xs : List ByteArray) (w : World) (h : Wr B p 0 l w) (hx : TextsAt w A xs) (hn : xs.length = n) (hs : RowOk B p n 9 A w)
    (hmax : ∀ x ∈ xs, x.size ≤ maxLen) (hl : l.length + 1010 * n ≤ 1000000000000) (hn2 : n ≤ 1000000000) :
    Calls Tryz.prog 33 #[.pointer (some ⟨p, 0, none⟩), .slice A n c] w (TextK B p l xs w) := by
  obtain ⟨i0, hi0, hz0, hz1, hz2⟩ := info_parts u8_info
  have HW := Lib.hid h
  have HX := Lib.hid hx
  have HNN := Lib.hid hn
  have HS := Lib.hid hs
  have HM := Lib.hid hmax
  have HL := Lib.hid hl
  clear h hx hn hs hmax hl
  go_enter Tryz.func33, Tryz.ntmps33
  go_wp2_with fail
  go_loopw [8] (fun i wr => ∃ k : Nat, i = .int .i64 k ∧ k ≤ n ∧ (k = 0 → wr = w) ∧ (∀ x ∈ xs.take k, x.size ≤ 1000) ∧ Wr B p 0 (l ++ ((xs.take k).map tb).flatten) wr ∧ Below B w wr ∧ Keeps p w wr) (fun i _ => n - (intOf i).toNat)
  case atStart => exact ⟨0, rfl, Nat.zero_le _, fun _ => rfl, by simp, by simpa using HW.out, Below.refl _ _, Keeps.refl _ _⟩
  case round =>
    obtain ⟨k, rfl, hk, hk0, hfit, hW, hb, hkp⟩ := hrel
    obtain ⟨d0, d1, d2⟩ := hW.cells
    have HK0 := Lib.hid hk0
    have HF := Lib.hid hfit
    have HW1 := Lib.hid hW
    clear hk0 hW hfit
    by_cases hlt : k < n
    · have hxl : k < xs.length := by have := HNN.out; omega
      obtain ⟨ad, hA, hcs⟩ := HX.out (by intro e0; rw [e0] at hxl; simp at hxl)
      subst hA
      have hxk : xs[k]? = some xs[k] := List.getElem?_eq_getElem hxl
      have hcell : wr.cell? (ad.add k) = some (.string xs[k]) := by
        by_cases hk1 : k = 0
        · rw [HK0.out hk1]; exact hcs _ _ hxk
        · rcases HS.out with hs | hs | ⟨q, cs, hq, hqp, hqh⟩
          · omega
          · rw [hb.cell (p := ad.add k) (by unfold Addr.add; split <;> exact hs ad rfl)]
            exact hcs _ _ hxk
          · cases hq
            have := hcs _ _ hxk
            rw [← this]
            exact cell_add_of_heap (hkp q cs _ hqh (by decide) hqp) _
      have HC := Lib.hid hcs
      have HXK := Lib.hid hxk
      have HMk := Lib.hid (HM.out _ (List.getElem_mem hxl))
      have HIn := Lib.hid (List.getElem_mem hxl)
      generalize xs[k] = x at hcell HXK HMk HIn
      clear hcs hxk
      have HFL := Lib.hid (flat_tlen (xs.take k) HF.out)
      have HNB : Hid ((numB (x.size : Int)).length ≤ 10 ∨ 1000 < x.size) := by
        by_cases h9 : 1000 < x.size
        · exact .inr h9
        · exact .inl (vb_len10 (zz_lt (by omega) (by omega)))
      by_cases hlong : 1000 < x.size
      · go_wp2_with (first
          | (go_at_call 133; refine (wrong_any _ _ _ d0).mono ?_; rintro e w1 ⟨rfl, rfl⟩)
          | (go_at_call 135; refine (fail_any _ _ _ d0 d1).mono ?_; rintro e w1 ⟨⟨u, rfl⟩, rfl⟩))
        refine bodyPost_ret (results_none rfl _ _ _) rfl ?_
        exact ⟨⟨_, rfl⟩, hb.setCell (p := ⟨p, 0, none⟩) HW1.out.1 _, hkp.trans (Keeps.set p 0 wr _), .inr ⟨⟨x, HIn.out, hlong⟩, _, HW1.out.fail 2⟩⟩
      · go_wp2_with (first
          | (go_at_call 133; refine (wrong_any _ _ _ d0).mono ?_; rintro e w1 ⟨rfl, rfl⟩)
          | (go_at_call 134
             refine (wnum_k B p 0 (x.size : Int) _ _ HW1.out ⟨by omega, by omega⟩ (by have h1 := HL.out; have h2 := HFL.out; simp only [List.length_append, List.length_take] at h2 ⊢; omega)).mono ?_
             rintro e w1 ⟨⟨u, rfl⟩, ⟨_, v1, hp1, hown1, hne1⟩, hb1, hkp1⟩
             obtain ⟨N1, hN1⟩ : ∃ N, (l ++ (List.map tb (List.take k xs)).flatten ++ numB (x.size : Int)).length = N := ⟨_, rfl⟩
             rw [hN1] at hown1
             have HN1 := Lib.hid hN1
             clear hN1
             have e0 : w1.cell? ⟨p, 1, none⟩ = some v1 := (by rw [cell_p hp1]; rfl)
             have HP1 := Lib.hid hp1
             have hbs1 : B ≤ w1.heap.size := (by have := hb1.size; omega)
             clear hp1)
          | (at_builtin
             refine wpList_append_own_string _ rfl (.tmp 38) (.tmp 39) _ _ rfl B 5 i0 Tryz.underlying91 Tryz.underlying9 hi0 hz0 hz1 hz2 v1 _ _ rfl hown1 x rfl (by have h1 := HL.out; have h2 := HFL.out; have h3 := HNB.out; have h4 := HN1.out; simp only [List.length_append, List.length_take] at h2 h3 h4 ⊢; unfold maxLen; omega) (by have h1 := HL.out; have h2 := HFL.out; have h3 := HNB.out; have h4 := HN1.out; simp only [List.length_append, List.length_take] at h2 h3 h4 ⊢; omega) hbs1 ?_
             intro v2 w2 hown2 hg2 _
             obtain ⟨g2, cap2, rfl, hf2, hf3⟩ := hown2.form (by have := vb_pos (zz (x.size : Int)); have h4 := HN1.out; simp only [List.length_append, numB] at h4; omega)
             have hp2 := (hg2.block p (blk_lt HP1.out) (fun hh => own_ne hown1 HP1.out (by decide) hh.symm)).trans HP1.out
             have e1 : w2.cell? ⟨p, 1, none⟩ = some v1 := (by rw [cell_p hp2]; rfl)
             have e2 : w2.frozen? ⟨p, 1, none⟩ = false := frozen_p hp2
             clear hp2))
        go_roundw
        case rel =>
          have hst := Wr.step x.data.toList HW1.out.1 HP1.out (by rw [HN1.out]; exact hown1) hown2 (by rw [HN1.out, sz]) (by rw [strB]) hg2
          refine ⟨k + 1, by go_num, by omega, fun h => absurd h (by omega), ?_, ?_, (below_grown (hb.trans hb1) hg2 hbs1 (own_ge hown1)).setCell (p := ⟨p, 1, none⟩) HW1.out.1 _, (hkp.trans hkp1).trans (Keeps.put0 hown1 hg2 _)⟩
          · intro y hy
            rw [List.take_succ_eq_append_getElem hxl, List.mem_append] at hy
            rcases hy with hy | hy
            · exact HF.out y hy
            · have hxx : xs[k] = x := by have := HXK.out; rw [List.getElem?_eq_getElem hxl] at this; injection this
              rw [hxx, List.mem_singleton] at hy
              rw [hy]; omega
          · rw [flat_snoc tb xs k x HXK.out, ← List.append_assoc]
            rw [List.append_assoc] at hst
            have he : tb x = numB (x.size : Int) ++ x.data.toList := by rw [tb, textB, sz]
            rw [he]
            exact hst
        case measure => simp [intOf]; omega
    · go_wp2
      go_end0
      have h3 := HW1.out
      have h4 := HF.out
      rw [List.take_of_length_le (by have := HNN.out; omega)] at h3 h4
      exact ⟨⟨_, rfl⟩, hb, hkp, .inl ⟨h4, h3⟩⟩
def bl8 (s : ByteArray) : List UInt8 := s.data.toList
def wTexts (xs : List ByteArray) (s : WS) : WS := xs.foldl (fun s t => wText (bl8 t) s) s
theorem wTexts_bad {s : WS} (h : s.e ≠ 0) : ∀ xs, wTexts xs s = s
  | [] => rfl
  | x :: xs => by
    have e : wText (bl8 x) s = s := by rw [wText, if_pos h]
    show wTexts xs (wText (bl8 x) s) = s
    rw [e]; exact wTexts_bad h xs
theorem wTexts_ok : ∀ (xs : List ByteArray) (s : WS), s.e = 0 → (∀ x ∈ xs, x.size ≤ 1000) → wTexts xs s = ⟨0, s.l ++ (xs.map tb).flatten⟩
  | [], s, h, _ => by obtain ⟨e, l⟩ := s; have h' : e = 0 := h; subst h'; simp [wTexts]
  | x :: xs, s, h, hx => by
    have e : wText (bl8 x) s = ⟨0, s.l ++ tb x⟩ := by
      rw [wText, if_neg (by omega), if_neg (by have := hx x (by simp); have := sz x; unfold bl8; omega)]
      rfl
    show wTexts xs (wText (bl8 x) s) = _
    rw [e, wTexts_ok xs _ rfl (fun y hy => hx y (by simp [hy]))]
    simp
theorem wTexts_long : ∀ (xs : List ByteArray) (s : WS), s.e = 0 → (∃ x ∈ xs, 1000 < x.size) → (wTexts xs s).e = 2
  | [], _, _, ⟨x, hx, _⟩ => by simp at hx
  | x :: xs, s, h, hx => by
    show (wTexts xs (wText (bl8 x) s)).e = 2
    by_cases h1 : 1000 < x.size
    · have e : wText (bl8 x) s = ⟨2, s.l⟩ := by rw [wText, if_neg (by omega), if_pos (by have := sz x; unfold bl8; omega)]
      rw [e, wTexts_bad (by simp)]
    · have e : wText (bl8 x) s = ⟨0, s.l ++ textB (bl8 x)⟩ := by rw [wText, if_neg (by omega), if_neg (by have := sz x; unfold bl8; omega)]
      rw [e]
      refine wTexts_long xs _ rfl ?_
      obtain ⟨y, hy, hy2⟩ := hx
      rcases List.mem_cons.1 hy with rfl | hy
      · exact absurd hy2 h1
      · exact ⟨y, hy, hy2⟩
theorem wtexts_s (B p : Nat) (s : WS) (A : Option Addr) (n c : Nat) (xs : List ByteArray) (w : World) (h : WrS B p s w) (hx : TextsAt w A xs) (hn : xs.length = n) (hs : RowOk B p n 9 A w)
    (hmax : ∀ x ∈ xs, x.size ≤ maxLen) (hl : s.e = 0 → s.l.length + 1010 * n ≤ 1000000000000) (hn2 : n ≤ 1000000) :
    Calls Tryz.prog 33 #[.pointer (some ⟨p, 0, none⟩), .slice A n c] w fun en w' => (∃ u, en = .returned u) ∧ WrS B p (wTexts xs s) w' ∧ Below B w w' ∧ Keeps p w w' := by
  by_cases he : s.e = 0
  · refine (wtexts_k B p s.l A n c xs w (h.1 he) hx hn hs hmax (hl he) (by omega)).mono ?_
    rintro e w' ⟨hu, hb, hk, ⟨hfit, hW⟩ | ⟨hlong, l', hW⟩⟩
    · refine ⟨hu, ?_, hb, hk⟩
      rw [wTexts_ok xs s he hfit]
      exact .ok rfl hW
    · have h2 := wTexts_long xs s he hlong
      exact ⟨hu, .bad (l := l') (by rw [h2]; decide) (by rw [h2]; exact hW), hb, hk⟩
  · obtain ⟨l, hl⟩ := h.2 he
    refine (wtexts_bad B p s.e he l A n c xs w hl hx hn hn2).mono ?_
    rintro e w' ⟨hu, rfl⟩
    refine ⟨hu, ?_, Below.refl _ _, Keeps.refl _ _⟩
    rw [wTexts_bad he]
    exact h
end Go.Proofs.YthlpdficpmdebaaGreat.Wire
/- Sets in memory, and that they stay. -/
namespace Go.Proofs.YthlpdficpmdebaaGreat.Wire
open Go Go.RowKit Go.Lib
def str8 (l : List UInt8) : Value := .string ⟨l.toArray⟩
def LegsAt (w : World) (A : Option Addr) (xs : List LegD) : Prop := xs ≠ [] → ∃ ad, A = some ad ∧ ∀ j x, xs[j]? = some x → w.cell? (ad.add (j * 2)) = some (.int .i64 x.id) ∧ w.cell? (ad.add (j * 2 + 1)) = some (.int .i64 x.qty)
def PlsAt (w : World) (A : Option Addr) (xs : List PlD) : Prop := xs ≠ [] → ∃ ad, A = some ad ∧ ∀ j x, xs[j]? = some x → w.cell? (ad.add (j * 2)) = some (str8 x.asset) ∧ w.cell? (ad.add (j * 2 + 1)) = some (.int .i64 x.qty)
def TakeAt (w : World) (ad : Addr) (j : Nat) (x : TakeD) : Prop := ∃ Q n c, w.cell? (ad.add (j * 4)) = some (str8 x.acc) ∧ w.cell? (ad.add (j * 4 + 1)) = some (str8 x.ccy) ∧ w.cell? (ad.add (j * 4 + 2)) = some (.int .i64 x.amount) ∧ w.cell? (ad.add (j * 4 + 3)) = some (.slice Q n c) ∧ n = x.pl.length ∧ PlsAt w Q x.pl
def TakesAt (w : World) (A : Option Addr) (xs : List TakeD) : Prop := xs ≠ [] → ∃ ad, A = some ad ∧ ∀ j x, xs[j]? = some x → TakeAt w ad j x
def SetAt (w : World) (L : Option Addr) (n : Nat) (T : Option Addr) (m : Nat) (x : SetD) : Prop := n = x.legs.length ∧ LegsAt w L x.legs ∧ m = x.takes.length ∧ TakesAt w T x.takes
def SetsAt (w : World) (A : Option Addr) (xs : List SetD) : Prop := xs ≠ [] → ∃ ad, A = some ad ∧ ∀ j x, xs[j]? = some x → ∃ L n c T m d, w.cell? (ad.add (j * 2)) = some (.slice L n c) ∧ w.cell? (ad.add (j * 2 + 1)) = some (.slice T m d) ∧ SetAt w L n T m x
section
variable {w w' : World} (hb : Below w.heap.size w w')
include hb
theorem cell_below {p : Addr} {v : Value} (h : w.cell? p = some v) : w'.cell? p = some v := (hb.cell (World.block_lt_of_cell? w _ h)).trans h
theorem LegsAt.below {A : Option Addr} {xs : List LegD} (h : LegsAt w A xs) : LegsAt w' A xs := fun hne => by
  obtain ⟨ad, hA, hc⟩ := h hne
  exact ⟨ad, hA, fun j x hx => ⟨cell_below hb (hc j x hx).1, cell_below hb (hc j x hx).2⟩⟩
theorem PlsAt.below {A : Option Addr} {xs : List PlD} (h : PlsAt w A xs) : PlsAt w' A xs := fun hne => by
  obtain ⟨ad, hA, hc⟩ := h hne
  exact ⟨ad, hA, fun j x hx => ⟨cell_below hb (hc j x hx).1, cell_below hb (hc j x hx).2⟩⟩
theorem TakeAt.below {ad : Addr} {j : Nat} {x : TakeD} (h : TakeAt w ad j x) : TakeAt w' ad j x := by
  obtain ⟨Q, n, c, h0, h1, h2, h3, h4, h5⟩ := h
  exact ⟨Q, n, c, cell_below hb h0, cell_below hb h1, cell_below hb h2, cell_below hb h3, h4, PlsAt.below hb h5⟩
theorem TakesAt.below {A : Option Addr} {xs : List TakeD} (h : TakesAt w A xs) : TakesAt w' A xs := fun hne => by
  obtain ⟨ad, hA, hc⟩ := h hne
  exact ⟨ad, hA, fun j x hx => TakeAt.below hb (hc j x hx)⟩
theorem SetAt.below {L T : Option Addr} {n m : Nat} {x : SetD} (h : SetAt w L n T m x) : SetAt w' L n T m x := ⟨h.1, LegsAt.below hb h.2.1, h.2.2.1, TakesAt.below hb h.2.2.2⟩
theorem SetsAt.below {A : Option Addr} {xs : List SetD} (h : SetsAt w A xs) : SetsAt w' A xs := fun hne => by
  obtain ⟨ad, hA, hc⟩ := h hne
  refine ⟨ad, hA, fun j x hx => ?_⟩
  obtain ⟨L, n, c, T, m, d, h0, h1, h2⟩ := hc j x hx
  exact ⟨L, n, c, T, m, d, cell_below hb h0, cell_below hb h1, SetAt.below hb h2⟩
end
/-- Few enough, and of fit numbers and texts, to be put. -/
def PlIn (x : PlD) : Prop := okI x.qty ∧ x.asset.length ≤ maxLen
def TakeIn (t : TakeD) : Prop := okI t.amount ∧ t.acc.length ≤ maxLen ∧ t.ccy.length ≤ maxLen ∧ t.pl.length ≤ 200 ∧ ∀ x ∈ t.pl, PlIn x
def SetIn (x : SetD) : Prop := x.legs.length ≤ 200 ∧ x.takes.length ≤ 200 ∧ (∀ y ∈ x.legs, LegOk y) ∧ ∀ t ∈ x.takes, TakeIn t
end Go.Proofs.YthlpdficpmdebaaGreat.Wire
/- cmd.put: numbers and texts, each behind how many there are. -/
namespace Go.Proofs.YthlpdficpmdebaaGreat.Wire
open Go Go.RowKit Go.Lib
theorem Wr.alloc {B p : Nat} {e : Int} {l : List UInt8} {w : World} (h : Wr B p e l w) (o : Obj) : Wr B p e l (w.alloc o) := by
  obtain ⟨hB, v, hp, hown, hne⟩ := h
  exact ⟨hB, v, (Below.heap_alloc w o p (blk_lt hp)).trans hp, hown.alloc o, hne⟩
theorem add_block (a : Addr) (n : Nat) : (a.add n).block = a.block := by unfold Addr.add; split <;> rfl
theorem ib_or {α : Type} {xs : List α} {n B : Nat} {A : Option Addr} (hn : xs.length = n) (h : xs ≠ [] → ∀ ad, A = some ad → ad.block < B) : n ≤ 1 ∨ ∀ ad, A = some ad → ad.block < B := by
  cases xs with
  | nil => exact .inl (by simp at hn; omega)
  | cons x xs => exact .inr (h (by simp))
theorem IntsAt.below {B : Nat} {w w1 : World} {A : Option Addr} {xs : List Int} (h : IntsAt w A xs) (hs : xs ≠ [] → ∀ ad, A = some ad → ad.block < B) (hb : Below B w w1) : IntsAt w1 A xs := by
  intro hne
  obtain ⟨ad, rfl, hc⟩ := h hne
  exact ⟨ad, rfl, fun j x hx => by rw [hb.cell (p := ad.add j) (by rw [add_block]; exact hs hne ad rfl)]; exact hc j x hx⟩
theorem TextsAt.below {B : Nat} {w w1 : World} {A : Option Addr} {xs : List ByteArray} (h : TextsAt w A xs) (hs : xs ≠ [] → ∀ ad, A = some ad → ad.block < B) (hb : Below B w w1) : TextsAt w1 A xs := by
  intro hne
  obtain ⟨ad, rfl, hc⟩ := h hne
  exact ⟨ad, rfl, fun j x hx => by rw [hb.cell (p := ad.add j) (by rw [add_block]; exact hs hne ad rfl)]; exact hc j x hx⟩
theorem ints_one (w : World) (x : Int) (t : TypeId) : IntsAt (w.alloc (.cells #[.int .i64 x] t)) (some ⟨w.heap.size, 0, none⟩) [x] := fun _ =>
  ⟨_, rfl, fun j y hy => by
    match j, hy with
    | 0, hy =>
      simp only [List.getElem?_cons_zero, Option.some.injEq] at hy
      subst hy
      exact cell_one_new w (.int .i64 x) t 0 _ rfl⟩
theorem texts_one (w : World) (x : ByteArray) (t : TypeId) : TextsAt (w.alloc (.cells #[.string x] t)) (some ⟨w.heap.size, 0, none⟩) [x] := fun _ =>
  ⟨_, rfl, fun j y hy => by
    match j, hy with
    | 0, hy =>
      simp only [List.getElem?_cons_zero, Option.some.injEq] at hy
      subst hy
      exact cell_one_new w (.string x) t 0 _ rfl⟩
theorem wnums_bad' (B p : Nat) (e : Int) (he : e ≠ 0) (l : List UInt8) (A : Option Addr) (n c : Nat) (xs : List Int) (w : World) (h : Wr B p e l w) (hx : IntsAt w A xs) (hn : xs.length = n) (hn2 : n ≤ 1000000) :
    Calls Tryz.prog 32 #[.pointer (some ⟨p, 0, none⟩), .slice A n c] w fun en w' => (∃ u, en = .returned u) ∧ Wr B p e l w' ∧ Below B w w' :=
  (wnums_bad B p e he l A n c xs w h hx hn hn2).mono fun _ _ ⟨h1, h2⟩ => ⟨h1, h2 ▸ h, h2 ▸ Below.refl B w⟩
def bl (s : ByteArray) : List UInt8 := s.data.toList
theorem map_tb (xs : List ByteArray) : xs.map tb = (xs.map bl).map textB := by rw [List.map_map]; rfl
/-- put's end. -/
def PutPost (B : Nat) (l : List UInt8) (nums : List Int) (texts : List ByteArray) (w : World) (en : Ending) (w' : World) : Prop :=
  Below B w w' ∧ (((∀ x ∈ texts, x.size ≤ 1000) ∧ en = .returned (.tuple #[.string ⟨(l ++ putB nums (texts.map bl)).toArray⟩, .int .i64 0])) ∨ ((∃ x ∈ texts, 1000 < x.size) ∧ en = .returned (.tuple #[.string ⟨#[]⟩, .int .i64 2])))
set_option maxRecDepth 20000 in
theorem put_ok (B p : Nat) (l : List UInt8) (A : Option Addr) (n c : Nat) (nums : List Int) (A' : Option Addr) (m c' : Nat) (texts : List ByteArray) (mn mt : Int) (w : World) (h : Wr B p 0 l w)
    (hx : IntsAt w A nums) (hn : nums.length = n) (hs : nums ≠ [] → ∀ ad, A = some ad → ad.block < B) (hok : ∀ x ∈ nums, okI x)
    (hx' : TextsAt w A' texts) (hm : texts.length = m) (hs' : texts ≠ [] → ∀ ad, A' = some ad → ad.block < B) (hmax : ∀ x ∈ texts, x.size ≤ maxLen)
    (hnm : (n : Int) ≤ mn) (hmm : (m : Int) ≤ mt) (hn2 : n ≤ 2000) (hm2 : m ≤ 100) (hl : l.length ≤ 2000) :
    Calls Tryz.prog 34 #[.pointer (some ⟨p, 0, none⟩), .slice A n c, .slice A' m c', .int .i64 mn, .int .i64 mt] w (PutPost B l nums texts w) := by
  have HW := Lib.hid h
  have HX := Lib.hid hx
  have HNN := Lib.hid hn
  have HS := Lib.hid hs
  have HOK := Lib.hid hok
  have HX' := Lib.hid hx'
  have HMM := Lib.hid hm
  have HS' := Lib.hid hs'
  have HMAX := Lib.hid hmax
  have HB := Lib.hid h.cells.2.2
  have HL := Lib.hid hl
  clear h hx hn hs hok hx' hm hs' hmax hl
  go_enter Tryz.func34, Tryz.ntmps34
  go_wp2_with fail
  refine (wnums_any B p l _ 1 1 [(n : Int)] _ (HW.out.alloc _) (ints_one w n _) rfl (.inl (Nat.le_refl _)) (by intro x hx; simp at hx; subst hx; exact ⟨by omega, by omega⟩) (by have := HL.out; omega) (by omega)).mono ?_
  rintro e w1 ⟨⟨u1, rfl⟩, hW1, hb1⟩
  have hb1' := ((Below.refl B w).alloc HB.out _).trans hb1
  have HW1 := Lib.hid hW1
  clear hW1 hb1
  go_wp2_with fail
  refine (wnums_any B p _ A n c nums _ HW1.out (HX.out.below HS.out hb1') HNN.out (ib_or HNN.out HS.out) HOK.out (by have := HL.out; have := flat_len [(n : Int)] (by intro x hx; simp at hx; subst hx; exact ⟨by omega, by omega⟩); simp only [List.length_append, List.length_cons, List.length_nil] at this ⊢; omega) (by omega)).mono ?_
  rintro e w2 ⟨⟨u2, rfl⟩, hW2, hb2⟩
  have hb2' := hb1'.trans hb2
  have HW2 := Lib.hid hW2
  have HBS2 := Lib.hid hW2.cells.2.2
  have hl2 : (l ++ ([(n : Int)].map numB).flatten ++ (nums.map numB).flatten).length ≤ 22010 := by
    have h0 := HL.out
    have h1 := flat_len [(n : Int)] (by intro x hx; simp at hx; subst hx; exact ⟨by omega, by omega⟩)
    have h2 := flat_len nums HOK.out
    have h3 := HNN.out
    simp only [List.length_append, List.length_cons, List.length_nil] at h1 h2 ⊢
    omega
  have HL2 := Lib.hid hl2
  clear hW2 hb2 hb1' hl2
  go_wp2_with fail
  refine (wnums_any B p _ _ 1 1 [(m : Int)] _ (HW2.out.alloc _) (ints_one w2 m _) rfl (.inl (Nat.le_refl _)) (by intro x hx; simp at hx; subst hx; exact ⟨by omega, by omega⟩) (by have := HL2.out; omega) (by omega)).mono ?_
  rintro e w3 ⟨⟨u3, rfl⟩, hW3, hb3⟩
  have hb3' := (hb2'.alloc HBS2.out _).trans hb3
  have HW3 := Lib.hid hW3
  clear hW3 hb3 hb2'
  go_wp2_with fail
  refine (wtexts_any B p _ A' m c' texts _ HW3.out (HX'.out.below HS'.out hb3') HMM.out (ib_or HMM.out HS'.out) HMAX.out (by
    have h0 := HL2.out
    have h1 := flat_len [(m : Int)] (by intro x hx; simp at hx; subst hx; exact ⟨by omega, by omega⟩)
    simp only [List.length_append, List.length_cons, List.length_nil] at h0 h1 ⊢
    omega) (by omega)).mono ?_
  rintro e w4 ⟨⟨u4, rfl⟩, hb4, hh⟩
  have hb4' := hb3'.trans hb4
  clear hb4 hb3'
  rcases hh with ⟨hfit, hW4⟩ | ⟨hlong, l', hW4⟩
  · have hE : l ++ ([(n : Int)].map numB).flatten ++ (nums.map numB).flatten ++ ([(m : Int)].map numB).flatten ++ (texts.map tb).flatten = l ++ putB nums (texts.map bl) := by
      simp only [putB, map_tb, List.map_cons, List.map_nil, List.flatten_cons, List.flatten_nil, List.append_nil, List.append_assoc, HNN.out, HMM.out, List.length_map]
    rw [hE] at hW4
    obtain ⟨L4, hL4⟩ : ∃ L, l ++ putB nums (texts.map bl) = L := ⟨_, rfl⟩
    rw [hL4] at hW4
    have HL4 := Lib.hid hL4
    have HFIT := Lib.hid hfit
    have HW4 := Lib.hid hW4
    clear hfit hW4 hL4 hE
    go_wp2_with fail
    refine (wbytes_any B p _ _ HW4.out).mono ?_
    rintro e w5 ⟨rfl, rfl⟩
    go_wp2_with fail
    go_ret2
    refine ⟨hb4', .inl ⟨HFIT.out, ?_⟩⟩
    rw [HL4.out]
    rfl
  · have HLONG := Lib.hid hlong
    have HW4 := Lib.hid hW4
    clear hlong hW4
    go_wp2_with fail
    refine (wbytes_bad B p 2 (by decide) _ _ HW4.out).mono ?_
    rintro e w5 ⟨rfl, rfl⟩
    go_wp2_with fail
    go_ret2
    exact ⟨hb4', .inr ⟨HLONG.out, rfl⟩⟩
set_option maxRecDepth 20000 in
/-- Too many. -/
theorem put_many (p : Nat) (A : Option Addr) (n c : Nat) (A' : Option Addr) (m c' : Nat) (mn mt : Int) (w : World) (hmany : mn < (n : Int) ∨ mt < (m : Int)) :
    Calls Tryz.prog 34 #[.pointer (some ⟨p, 0, none⟩), .slice A n c, .slice A' m c', .int .i64 mn, .int .i64 mt] w fun en w' => en = .returned (.tuple #[.string ⟨#[]⟩, .int .i64 2]) ∧ w = w' := by
  by_cases h1 : mn < (n : Int)
  · clear hmany
    go_enter Tryz.func34, Tryz.ntmps34
    go_wp2_with fail
    go_ret2
    exact ⟨rfl, rfl⟩
  · have h2 : mt < (m : Int) := by omega
    clear hmany
    go_enter Tryz.func34, Tryz.ntmps34
    go_wp2_with fail
    go_ret2
    exact ⟨rfl, rfl⟩
set_option maxRecDepth 20000 in
set_option maxHeartbeats 1000000 in
/-- Behind an error. -/
theorem put_bad (B p : Nat) (e : Int) (he : e ≠ 0) (l : List UInt8) (A : Option Addr) (n c : Nat) (nums : List Int) (A' : Option Addr) (m c' : Nat) (texts : List ByteArray) (mn mt : Int) (w : World) (h : Wr B p e l w)
    (hx : IntsAt w A nums) (hn : nums.length = n) (hs : nums ≠ [] → ∀ ad, A = some ad → ad.block < B)
    (hx' : TextsAt w A' texts) (hm : texts.length = m) (hs' : texts ≠ [] → ∀ ad, A' = some ad → ad.block < B)
    (hnm : (n : Int) ≤ mn) (hmm : (m : Int) ≤ mt) (hn2 : n ≤ 2000) (hm2 : m ≤ 100) :
    Calls Tryz.prog 34 #[.pointer (some ⟨p, 0, none⟩), .slice A n c, .slice A' m c', .int .i64 mn, .int .i64 mt] w fun en w' => en = .returned (.tuple #[.string ⟨#[]⟩, .int .i64 e]) ∧ Below B w w' := by
  have HW := Lib.hid h
  have HX := Lib.hid hx
  have HNN := Lib.hid hn
  have HS := Lib.hid hs
  have HX' := Lib.hid hx'
  have HMM := Lib.hid hm
  have HS' := Lib.hid hs'
  have HB := Lib.hid h.cells.2.2
  have HE := Lib.hid he
  clear h hx hn hs hx' hm hs' he
  go_enter Tryz.func34, Tryz.ntmps34
  go_wp2_with fail
  refine (wnums_bad' B p e HE.out l _ 1 1 [(n : Int)] _ (HW.out.alloc _) (ints_one w n _) rfl (by omega)).mono ?_
  rintro e1 w1 ⟨⟨u1, rfl⟩, hW1, hb1⟩
  have hb1' := ((Below.refl B w).alloc HB.out _).trans hb1
  have HW1 := Lib.hid hW1
  clear hW1 hb1
  go_wp2_with fail
  refine (wnums_bad' B p e HE.out l A n c nums _ HW1.out (HX.out.below HS.out hb1') HNN.out (by omega)).mono ?_
  rintro e1 w2 ⟨⟨u2, rfl⟩, hW2, hb2⟩
  have hb2' := hb1'.trans hb2
  have HW2 := Lib.hid hW2
  have HBS2 := Lib.hid hW2.cells.2.2
  clear hW2 hb2 hb1'
  go_wp2_with fail
  refine (wnums_bad' B p e HE.out l _ 1 1 [(m : Int)] _ (HW2.out.alloc _) (ints_one _ m _) rfl (by omega)).mono ?_
  rintro e1 w3 ⟨⟨u3, rfl⟩, hW3, hb3⟩
  have hb3' := (hb2'.alloc HBS2.out _).trans hb3
  have HW3 := Lib.hid hW3
  clear hW3 hb3 hb2'
  go_wp2_with fail
  refine (wtexts_bad B p e HE.out l A' m c' texts _ HW3.out (HX'.out.below HS'.out hb3') HMM.out (by omega)).mono ?_
  rintro e1 w4 ⟨⟨u4, rfl⟩, rfl⟩
  go_wp2_with fail
  refine (wbytes_bad B p e HE.out l _ HW3.out).mono ?_
  rintro e1 w5 ⟨rfl, rfl⟩
  go_wp2_with fail
  go_ret2
  exact ⟨rfl, hb3'⟩
end Go.Proofs.YthlpdficpmdebaaGreat.Wire
