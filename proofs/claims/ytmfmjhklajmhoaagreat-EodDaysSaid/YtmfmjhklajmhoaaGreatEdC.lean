/- The picture's writer: it is written on, and nothing else of old is. -/
import Derived.Test.YtmfmjhklajmhoaaGreatEdB
import Derived.Test.YtmfmjhklajmhoaaGreatEdW
import Derived.Maps.RangeWalk
namespace Go.Proofs.YtmfmjhklajmhoaaGreat.Ed
open Go Go.RowKit Go.Lib Go.Maps Wire
def WOk (B p M : Nat) (w : World) : Prop := ∃ s, WrS B p s w ∧ s.l.length ≤ M
def WPost (B p M : Nat) (w : World) (en : Ending) (w' : World) : Prop := (∃ u, en = .returned u) ∧ WOk B p M w' ∧ Below B w w' ∧ Keeps p w w'
theorem wrS_alloc {B p : Nat} {s : WS} {w : World} (h : WrS B p s w) (o : Obj) : WrS B p s (w.alloc o) := by
 have go : ∀ {e : Int} {l : List UInt8}, Wr B p e l w → Wr B p e l (w.alloc o) := fun {e l} hw => by
  obtain ⟨hB, v, hp, ho, hne⟩ := hw
  exact ⟨hB, v, (Below.heap_alloc _ _ _ (blk_lt hp)).trans hp, ho.kept (World.grownBy_alloc w o none) (Classical.em _), hne⟩
 exact ⟨fun h0 => go (h.1 h0), fun h0 => by obtain ⟨l, hl⟩ := h.2 h0; exact ⟨l, go hl⟩⟩
theorem wrS_le {B p : Nat} {s : WS} {w : World} (h : WrS B p s w) : B ≤ p ∧ p < w.heap.size := by
 have go : ∀ {e : Int} {l : List UInt8}, Wr B p e l w → B ≤ p ∧ p < w.heap.size := fun hw => by
  obtain ⟨hB, v, hp, _⟩ := hw
  exact ⟨hB, blk_lt hp⟩
 by_cases h0 : s.e = 0
 · exact go (h.1 h0)
 · obtain ⟨l, hl⟩ := h.2 h0
   exact go hl
theorem wNums_len : ∀ {xs : List Int} {s : WS}, (∀ x ∈ xs, okI x) → (wNums xs s).l.length ≤ s.l.length + 10 * xs.length
 | [], s, _ => by simp [wNums]
 | x :: xs, s, h => by
   have h1 := wNum_len (h x (by simp)) s
   have h2 := wNums_len (xs := xs) (s := wNum x s) (fun y hy => h y (by simp [hy]))
   show (wNums xs (wNum x s)).l.length ≤ _
   simp only [List.length_cons]
   omega
theorem wText_len (t : ByteArray) (s : WS) : (wText (bl8 t) s).l.length ≤ s.l.length + 1010 := by
 unfold wText
 split
 · omega
 · split
   · simp
   · rename_i h
     have := tb_len t (by have h' : ¬ 1000 < t.data.toList.length := h; rw [Array.length_toList] at h'; exact Nat.le_of_not_lt h')
     simp only [List.length_append]
     have e : textB (bl8 t) = tb t := rfl
     rw [e]
     omega
theorem wTexts_len : ∀ {xs : List ByteArray} {s : WS}, (wTexts xs s).l.length ≤ s.l.length + 1010 * xs.length
 | [], s => by simp [wTexts]
 | x :: xs, s => by
   have h1 := wText_len x s
   have h2 := wTexts_len (xs := xs) (s := wText (bl8 x) s)
   show (wTexts xs (wText (bl8 x) s)).l.length ≤ _
   simp only [List.length_cons]
   omega
theorem keeps_alloc (p : Nat) (w : World) (o : Obj) : Keeps p w (w.alloc o) := fun b _ _ h _ _ => Below.heap_alloc w o b (blk_lt h)
theorem num_w (B p M : Nat) (xs : List Int) (w : World) (h : WOk B p M w) (hok : ∀ x ∈ xs, okI x) (hM : M ≤ 1000000000) (hn : xs.length ≤ 100000) :
 Calls Tryz.prog 80 #[.pointer (some ⟨p, 0, none⟩), .slice (some ⟨w.heap.size, 0, none⟩) xs.length xs.length] (w.alloc (.cells (xs.map (.int .i64)).toArray 3)) (WPost B p (M + 10 * xs.length) w) := by
 obtain ⟨s, hs, hl⟩ := h
 have hp := wrS_le hs
 have hcell : IntsAt (w.alloc (.cells (xs.map (.int .i64)).toArray 3)) (some ⟨w.heap.size, 0, none⟩) xs := fun _ => ⟨_, rfl, fun j x hx => cells_at w _ _ j _ (by simp [hx])⟩
 refine (wnums_s B p s _ _ _ xs _ (wrS_alloc hs _) hcell rfl (.inr (.inr ⟨_, _, rfl, by omega, heap_alloc_new w _⟩)) hok (fun _ => by omega) (by omega)).mono ?_
 rintro e w' ⟨hu, hW, hb, hk⟩
 refine ⟨hu, ⟨_, hW, ?_⟩, ((Below.refl _ w).alloc (by omega) _).trans hb, (keeps_alloc p w _).trans hk⟩
 have := wNums_len (s := s) hok
 omega
theorem text_w (B p M : Nat) (xs : List ByteArray) (w : World) (h : WOk B p M w) (hok : ∀ x ∈ xs, x.size ≤ maxLen) (hM : M ≤ 1000000000) (hn : xs.length ≤ 100000) :
 Calls Tryz.prog 84 #[.pointer (some ⟨p, 0, none⟩), .slice (some ⟨w.heap.size, 0, none⟩) xs.length xs.length] (w.alloc (.cells (xs.map .string).toArray 9)) (WPost B p (M + 1010 * xs.length) w) := by
 obtain ⟨s, hs, hl⟩ := h
 have hp := wrS_le hs
 have hcell : TextsAt (w.alloc (.cells (xs.map .string).toArray 9)) (some ⟨w.heap.size, 0, none⟩) xs := fun _ => ⟨_, rfl, fun j x hx => cells_at w _ _ j _ (by simp [hx])⟩
 refine (wtexts_s B p s _ _ _ xs _ (wrS_alloc hs _) hcell rfl (.inr (.inr ⟨_, _, rfl, by omega, heap_alloc_new w _⟩)) hok (fun _ => by omega) (by omega)).mono ?_
 rintro e w' ⟨hu, hW, hb, hk⟩
 refine ⟨hu, ⟨_, hW, ?_⟩, ((Below.refl _ w).alloc (by omega) _).trans hb, (keeps_alloc p w _).trans hk⟩
 have := wTexts_len (xs := xs) (s := s)
 omega
theorem num_row (B p M : Nat) (A : Option Addr) (n c : Nat) (xs : List Int) (w : World) (h : WOk B p M w) (hx : IntsAt w A xs) (hn : xs.length = n) (hr : n ≤ 1 ∨ ∃ q cs, A = some ⟨q, 0, none⟩ ∧ w.heap[q]? = some (.cells cs 3 (0, 0)))
 (hok : ∀ x ∈ xs, okI x) (hM : M ≤ 1000000000) (hn2 : n ≤ 100000) :
 Calls Tryz.prog 80 #[.pointer (some ⟨p, 0, none⟩), .slice A n c] w (WPost B p (M + 10 * n) w) := by
 obtain ⟨s, hs, hl⟩ := h
 have hp : ∀ {q : Nat} {cs : Array Value}, w.heap[q]? = some (.cells cs 3 (0, 0)) → q ≠ p := fun {q cs} hq e => by
  subst e
  have go : ∀ {e : Int} {l : List UInt8}, Wr B q e l w → False := fun hw => by
   obtain ⟨_, v, h1, _⟩ := hw
   rw [hq] at h1
   injection h1 with h1
   injection h1 with _ h2
   exact absurd h2 (by decide)
  by_cases h0 : s.e = 0
  · exact go (hs.1 h0)
  · obtain ⟨l, hl⟩ := hs.2 h0
    exact go hl
 refine (wnums_s B p s A n c xs w hs hx hn (hr.imp id fun ⟨q, cs, h1, h2⟩ => .inr ⟨q, cs, h1, hp h2, h2⟩) hok (fun _ => by omega) (by omega)).mono ?_
 rintro e w' ⟨hu, hW, hb, hk⟩
 refine ⟨hu, ⟨_, hW, ?_⟩, hb, hk⟩
 have := wNums_len (s := s) hok
 omega
theorem WPost.step {B p M M' : Nat} {w0 w w' : World} {en : Ending} (h : WPost B p M' w en w') (hb : Below B w0 w) (hk : Keeps p w0 w) : WPost B p M' w0 en w' :=
 ⟨h.1, h.2.1, hb.trans h.2.2.1, hk.trans h.2.2.2⟩
theorem WOk.parts {B p M : Nat} {w : World} (h : WOk B p M w) : ∃ (e : Int) (l : List UInt8), Wr B p e l w ∧ (e = 0 → l.length ≤ M) ∧ ∀ {w' : World} {e' : Int} {l' : List UInt8}, Wr B p e' l' w' → (e' = 0 ∨ e' = e) → (e' = 0 → l'.length ≤ M + 1) → WOk B p (M + 1) w' := by
 obtain ⟨s, hs, hl⟩ := h
 have mk : ∀ {w' : World} {e' : Int} {l' : List UInt8}, Wr B p e' l' w' → (e' = 0 → l'.length ≤ M + 1) → WOk B p (M + 1) w' := fun {w' e' l'} hw hlen => by
  by_cases h0 : e' = 0
  · subst h0
    exact ⟨⟨0, l'⟩, ⟨fun _ => hw, fun h => absurd rfl h⟩, hlen rfl⟩
  · exact ⟨⟨e', []⟩, ⟨fun h => absurd h h0, fun _ => ⟨l', hw⟩⟩, by simp⟩
 by_cases h0 : s.e = 0
 · exact ⟨0, s.l, hs.1 h0, fun _ => hl, fun hw _ hlen => mk hw hlen⟩
 · obtain ⟨l, hw⟩ := hs.2 h0
   exact ⟨s.e, l, hw, fun h => absurd h h0, fun hw _ hlen => mk hw hlen⟩
end Go.Proofs.YtmfmjhklajmhoaaGreat.Ed
/- (*wire.Writer).Bool: a byte for each truth. -/
namespace Go.Proofs.YtmfmjhklajmhoaaGreat.Ed
open Go Go.RowKit Go.Lib Go.Maps Wire
theorem addB (g j : Nat) : (⟨g, 0, none⟩ : Addr).add j = ⟨g, j, none⟩ := by unfold Addr.add; split <;> simp_all
theorem WOk.mono {B p M M' : Nat} {w : World} (h : WOk B p M w) (hM : M ≤ M') : WOk B p M' w := by
 obtain ⟨s, hs, hl⟩ := h
 exact ⟨s, hs, by omega⟩
theorem wr_after {B p : Nat} {e : Int} {v1 : Value} {m : Nat} {xs : List Value} {wr w2 : World} {o : Obj} (hp : wr.heap[p]? = some (.cells #[.int .i64 e, v1] 192 (0, 0)))
 (hown : (wr.alloc o).ownsRow B 5 1 v1 m xs) (hg : (wr.alloc o).grownBy w2 v1.ownBlock) : w2.heap[p]? = some (.cells #[.int .i64 e, v1] 192 (0, 0)) := by
 have hpa := (Below.heap_alloc wr o p (blk_lt hp)).trans hp
 exact (hg.block p (blk_lt hpa) (fun hh => own_ne hown hpa (by decide) hh.symm)).trans hpa
set_option maxRecDepth 20000 in
set_option maxHeartbeats 2000000 in
theorem bool_w (B p M : Nat) (xs : List Bool) (w : World) (h : WOk B p M w) (hM : M ≤ 1000000000) (hn : xs.length ≤ 1000) :
 Calls Tryz.prog 85 #[.pointer (some ⟨p, 0, none⟩), .slice (some ⟨w.heap.size, 0, none⟩) xs.length xs.length] (w.alloc (.cells (xs.map .bool).toArray 4)) (WPost B p (M + xs.length) w) := by
 obtain ⟨i0, hi0, hz0, hz1, hz2⟩ := info_parts u8_info
 have hp : p < w.heap.size := by obtain ⟨s, hs, _⟩ := h; exact (wrS_le hs).2
 have hBp : B ≤ p := by obtain ⟨s, hs, _⟩ := h; exact (wrS_le hs).1
 have hb0 : Below B w (w.alloc (.cells (xs.map .bool).toArray 4)) := (Below.refl _ w).alloc (by omega) _
 have hk0 : Keeps p w (w.alloc (.cells (xs.map .bool).toArray 4)) := keeps_alloc p w _
 have hw0 : WOk B p M (w.alloc (.cells (xs.map .bool).toArray 4)) := by obtain ⟨s, hs, hl⟩ := h; exact ⟨s, wrS_alloc hs _, hl⟩
 have hrow : (w.alloc (.cells (xs.map .bool).toArray 4)).heap[w.heap.size]? = some (.cells (xs.map .bool).toArray 4 (0, 0)) := heap_alloc_new w _
 have HH := Lib.hid (And.intro hb0 (And.intro hk0 (And.intro hrow (And.intro hp hBp))))
 have HN := Lib.hid (And.intro hM hn)
 clear hb0 hk0 hrow h hp hBp
 generalize w.alloc (.cells (xs.map .bool).toArray 4) = W0 at HH hw0 ⊢
 obtain ⟨q, hq⟩ : ∃ q, w.heap.size = q := ⟨_, rfl⟩
 obtain ⟨n, hn⟩ : ∃ n, xs.length = n := ⟨_, rfl⟩
 rw [hq] at HH ⊢
 rw [hn] at HN ⊢
 have HXN := Lib.hid hn
 clear hq hn
 go_enter Tryz.func85, Tryz.ntmps85
 go_wp2_with fail
 go_loopw [9] (fun i wr => ∃ k : Nat, i = .int .i64 k ∧ k ≤ n ∧ WOk B p (M + k) wr ∧ Below B w wr ∧ Keeps p W0 wr) (fun i _ => n - (intOf i).toNat)
 case atStart => exact ⟨0, rfl, Nat.zero_le _, hw0, HH.out.1, Keeps.refl _ _⟩
 case round =>
  obtain ⟨k, rfl, hk, hw, hb, hkp⟩ := hrel
  by_cases hlt : k < n
  · have hxl : k < xs.length := by have := HXN.out; omega
    have hrk := (hkp q _ _ HH.out.2.2.1 (by decide) (by have := HH.out.2.2.2.1; omega)).trans HH.out.2.2.1
    have hcell : wr.cell? ⟨q, k, none⟩ = some (.bool xs[k]) := by rw [cell_p hrk]; simp [hxl]
    have hcell2 : wr.cell? ((⟨q, 0, none⟩ : Addr).add k) = some (.bool xs[k]) := by rw [addB]; exact hcell
    generalize xs[k] = x at hcell hcell2
    obtain ⟨e, l, hWr, hlM, hmk⟩ := hw.parts
    have hpp := hWr
    obtain ⟨_, v1, hp1, hown1, hne1⟩ := hpp
    have d0 : wr.cell? ⟨p, 0, none⟩ = some (.int .i64 e) := by rw [cell_p hp1]; rfl
    have d1 : wr.cell? ⟨p, 1, none⟩ = some v1 := by rw [cell_p hp1]; rfl
    have g1 : wr.frozen? ⟨p, 1, none⟩ = false := frozen_p hp1
    have HM := Lib.hid (And.intro hWr (And.intro hlM (And.intro hb hkp)))
    have HW := Lib.hid (hw.mono (show M + k ≤ M + n by omega))
    have HP1 := Lib.hid hp1
    have hkI : (k : Int) ≤ 1000 := by have := HN.out.2; omega
    have hbs : B ≤ wr.heap.size := by have := blk_lt HP1.out; have := HH.out.2.2.2.2; omega
    clear hWr hlM hb hkp hp1 hw hrk hxl
    by_cases he : e = 0
    · subst he
      have HL := Lib.hid (show l.length ≤ 1000001000 by have := HM.out.2.1 rfl; have := HN.out.1; omega)
      cases x
      all_goals
       go_wp2_with (first
        | (go_at_call 96; refine (wrong_any p 0 _ d0).mono ?_; rintro e w1 ⟨rfl, rfl⟩)
        | (at_builtin
           refine wpList_append_own_at _ rfl (.tmp 27) (.tmp 29) _ rfl B 5 i0 _ 1 1 Tryz.underlying190 hi0 hz0 hz1 hz2 rfl (by omega) v1 l.length (byteCells l) rfl (hown1.alloc _) ⟨wr.heap.size, 0, none⟩ 1 1 [_] rfl rfl (cell_one_new _ _ _) (by simp [Value.oneCell']) (by have := HL.out; unfold maxLen; omega) (by have := HL.out; omega) (by simp; omega) ?_
           intro v2 w2 hown2 hg2 _ hat2
           obtain ⟨g2, cap2, rfl, hf2, hf3⟩ := hown2.form (by omega)
           clear hat2
           have hp2 := wr_after HP1.out (hown1.alloc _) hg2
           have e1 : w2.cell? ⟨p, 1, none⟩ = some v1 := by rw [cell_p hp2]; rfl
           have e2 : w2.frozen? ⟨p, 1, none⟩ = false := frozen_p hp2))
      all_goals
       go_roundw
       case rel =>
        refine ⟨k + 1, by go_num, by omega, ?_, (below_grown (HM.out.2.2.1.alloc hbs _) hg2 (by simp; omega) (own_ge hown1)).setCell (p := ⟨p, 1, none⟩) HH.out.2.2.2.2 _, HM.out.2.2.2.trans (Keeps.put (hown1.alloc _) hg2 _)⟩
        have hl1 : l.length ≤ M + k := by first | exact HM.out.2.1 rfl | exact HM.out.2.1 trivial
        first
         | exact hmk (Wr.step [0] HH.out.2.2.2.2 ((Below.heap_alloc wr _ p (blk_lt HP1.out)).trans HP1.out) (hown1.alloc _) hown2 rfl (by first | rfl | (simp [byteCells]; done) | (simp [byteCells]; rfl)) hg2) (.inl rfl) (fun _ => by simp; omega)
         | exact hmk (Wr.step [1] HH.out.2.2.2.2 ((Below.heap_alloc wr _ p (blk_lt HP1.out)).trans HP1.out) (hown1.alloc _) hown2 rfl (by first | rfl | (simp [byteCells]; done) | (simp [byteCells]; rfl)) hg2) (.inl rfl) (fun _ => by simp; omega)
       case measure => simp [intOf]; omega
    · go_wp2_with (go_at_call 96; refine (wrong_any p e _ d0).mono ?_; rintro e w1 ⟨rfl, rfl⟩)
      go_end0
      exact ⟨⟨_, rfl⟩, HW.out, HM.out.2.2.1, HH.out.2.1.trans HM.out.2.2.2⟩
  · have HE := Lib.hid (And.intro (hw.mono (show M + k ≤ M + n by omega)) (And.intro hb hkp))
    clear hw hb hkp
    go_wp2_with fail
    go_end0
    exact ⟨⟨_, rfl⟩, HE.out.1, HE.out.2.1, HH.out.2.1.trans HE.out.2.2⟩
end Go.Proofs.YtmfmjhklajmhoaaGreat.Ed
/- A new writer; what it holds, told. -/
namespace Go.Proofs.YtmfmjhklajmhoaaGreat.Ed
open Go Go.RowKit Go.Lib Go.Maps Wire
theorem newW (w : World) : Calls Tryz.prog 28 #[] w fun e w' => e = .returned (.pointer (some ⟨w.heap.size, 0, none⟩)) ∧ WOk w.heap.size w.heap.size 0 w' ∧ Below w.heap.size w w' := by
 go_enter Tryz.func28, Tryz.ntmps28
 go_wp2_with fail
 refine bodyPost_ret (results_tmp rfl _ _ _) rfl ⟨rfl, ⟨⟨0, []⟩, ⟨fun _ => ⟨Nat.le_refl _, .slice none 0 0, heap_alloc_new w _, World.ownsRow_nil _ _ _ _, by simp [Value.ownBlock]⟩, fun h => absurd rfl h⟩, Nat.le_refl _⟩, (Below.refl _ w).alloc (Nat.le_refl _) _⟩
theorem bytes_w (B p M : Nat) (w : World) (h : WOk B p M w) : Calls Tryz.prog 32 #[.pointer (some ⟨p, 0, none⟩)] w fun e w' => (∃ s e', e = .returned (.tuple #[.string s, .int .i64 e'])) ∧ w = w' := by
 obtain ⟨e, l, hW, hl, _⟩ := h.parts
 by_cases he : e = 0
 · subst he
   exact (wbytes_any B p l w hW).mono fun e w' ⟨h1, h2⟩ => ⟨⟨_, _, h1⟩, h2⟩
 · exact (wbytes_bad B p e he l w hW).mono fun e w' ⟨h1, h2⟩ => ⟨⟨_, _, h1⟩, h2⟩
end Go.Proofs.YtmfmjhklajmhoaaGreat.Ed
/- Where nothing was entered: no numbers, no links, no instructions to lay; the hall is one. -/
namespace Go.Proofs.YtmfmjhklajmhoaaGreat.Ed
open Go Go.RowKit Go.Lib Go.Maps Gv
theorem len_zero (u : Nat) (w : World) (h : w.cell? ⟨u, 0, none⟩ = some (.slice none 0 0)) :
 Calls Tryz.prog 92 #[.pointer (some ⟨u, 0, none⟩)] w fun e w' => e = .returned (.int .i64 0) ∧ w = w' := by
 go_enter Tryz.func92, Tryz.ntmps92
 go_wp2_with fail
 exact bodyPost_ret (results_tmp rfl _ _ _) rfl ⟨rfl, rfl⟩
noncomputable def lkR : RV := callN (evE Tryz.prog (libH (mapsH [] [] [] nilH)) [] [] []) 100 173 [.nilslice] H0
theorem lkRun : loOk lkR = true := by kernel_rfl
set_option maxRecDepth 100000 in
theorem cloneLinks_nil (w : World) : Calls Tryz.prog 173 #[.slice none 0 0] w fun e w' => e = .returned (.slice none 0 0) ∧ Below w.heap.size w w' := by
 have e := lkRun
 unfold loOk at e
 split at e
 · rename_i h' hr
   exact run_val (G := mkGh [] [] rfl) (n := 100) (l := [.nilslice]) (v := .nilslice) (ul := [.slice none 0 0]) progOk noFacts (libH_ok (mapsH_ok noFacts nilH_ok)) Tryz.func173 rfl (by simp [concL, conc]) (by unfold lkR at hr; rw [hr]; rfl) (u := .slice none 0 0) (fun φ => by first | rfl | (rw [conc]; rfl) | rw [conc]) w
 · cases e
theorem links_nil (g : Nat) (w : World) (h : w.cell? ⟨g, 1, none⟩ = some (.slice none 0 0)) :
 Calls Tryz.prog 94 #[.pointer (some ⟨g, 0, none⟩)] w fun e w' => e = .returned (.slice none 0 0) ∧ Below w.heap.size w w' := by
 go_enter Tryz.func94, Tryz.ntmps94
 go_wp2_with (go_at_call 173; refine (cloneLinks_nil _).mono ?_; rintro e w1 ⟨rfl, hb⟩)
 exact bodyPost_ret (results_tmp rfl _ _ _) rfl ⟨rfl, hb⟩
set_option maxRecDepth 20000 in
theorem put_nil (v : Value) (w : World) : Calls Tryz.prog 91 #[v, .slice none 0 0] w fun e w' => (∃ u, e = .returned u) ∧ w = w' := by
 go_enter Tryz.func91, Tryz.ntmps91
 go_wp2_with fail
 go_loop [8] (fun i => i = .int .i64 0) (fun _ => 0)
 case atStart => rfl
 case round =>
  subst hrel
  go_wp2_with fail
  go_end0
  exact ⟨⟨_, rfl⟩, rfl⟩
set_option maxRecDepth 20000 in
theorem hallNone_no {tH : TypeId} (hb r l b g li : Nat) (today : Int) (w : World) (h : w.heap[hb]? = some (.cells #[p0 r, p0 l, p0 b, p0 g, p0 li, .int .i64 today] tH (0, 0))) :
 Calls Tryz.prog 27 #[.pointer (some ⟨hb, 0, none⟩)] w fun e w' => e = .returned (.bool false) ∧ w = w' := by
 have h0 : w.cell? ⟨hb, 0, none⟩ = some (.pointer (some ⟨r, 0, none⟩)) := by simp [World.cell?, h, p0]
 have h1 : w.cell? ⟨hb, 1, none⟩ = some (.pointer (some ⟨l, 0, none⟩)) := by simp [World.cell?, h, p0]
 have h2 : w.cell? ⟨hb, 2, none⟩ = some (.pointer (some ⟨b, 0, none⟩)) := by simp [World.cell?, h, p0]
 have h3 : w.cell? ⟨hb, 3, none⟩ = some (.pointer (some ⟨g, 0, none⟩)) := by simp [World.cell?, h, p0]
 have h4 : w.cell? ⟨hb, 4, none⟩ = some (.pointer (some ⟨li, 0, none⟩)) := by simp [World.cell?, h, p0]
 clear h
 go_enter Tryz.func27, Tryz.ntmps27
 go_wp2_with fail
 exact bodyPost_ret (results_tmp rfl _ _ _) rfl ⟨rfl, rfl⟩
end Go.Proofs.YtmfmjhklajmhoaaGreat.Ed
/- hall.trades where nothing was entered and nobody owes. -/
namespace Go.Proofs.YtmfmjhklajmhoaaGreat.Ed
open Go Go.RowKit Go.Lib Go.Maps Wire
structure TrAt (B : Nat) (w : World) (hb b g u li : Nat) : Prop where
 book : w.cell? ⟨hb, 2, none⟩ = some (.pointer (some ⟨b, 0, none⟩))
 graph : w.cell? ⟨hb, 3, none⟩ = some (.pointer (some ⟨g, 0, none⟩))
 lines : w.cell? ⟨hb, 4, none⟩ = some (.pointer (some ⟨li, 0, none⟩))
 list : w.cell? ⟨b, 0, none⟩ = some (.slice none 0 0)
 uf : w.cell? ⟨g, 0, none⟩ = some (.pointer (some ⟨u, 0, none⟩))
 links : w.cell? ⟨g, 1, none⟩ = some (.slice none 0 0)
 up : w.cell? ⟨u, 0, none⟩ = some (.slice none 0 0)
 loans : ∃ tL, w.heap[li]? = some (.cells #[.map none] tL (0, 0))
 lt : hb < B ∧ b < B ∧ g < B ∧ u < B ∧ li < B
theorem TrAt.below {B : Nat} {w w' : World} {hb b g u li : Nat} (h : TrAt B w hb b g u li) (hB : Below B w w') : TrAt B w' hb b g u li :=
 ⟨(hB.cell (p := ⟨hb, 2, none⟩) h.lt.1).trans h.book, (hB.cell (p := ⟨hb, 3, none⟩) h.lt.1).trans h.graph, (hB.cell (p := ⟨hb, 4, none⟩) h.lt.1).trans h.lines,
  (hB.cell (p := ⟨b, 0, none⟩) h.lt.2.1).trans h.list, (hB.cell (p := ⟨g, 0, none⟩) h.lt.2.2.1).trans h.uf, (hB.cell (p := ⟨g, 1, none⟩) h.lt.2.2.1).trans h.links,
  (hB.cell (p := ⟨u, 0, none⟩) h.lt.2.2.2.1).trans h.up, h.loans.imp fun _ k => (hB.block li h.lt.2.2.2.2).trans k, h.lt⟩
theorem gN {w w' : World} (h : Below w.heap.size w w') : w.grownBy w' none := ⟨h.os, h.tape, h.output, h.size, fun i hi _ => h.block i hi⟩
theorem WOk.new {B p M : Nat} {w w' : World} (h : WOk B p M w) (hb : Below w.heap.size w w') : WOk B p M w' := by
 obtain ⟨s, hs, hl⟩ := h
 have go : ∀ {e : Int} {l : List UInt8}, Wr B p e l w → Wr B p e l w' := fun {e l} hw => by
  obtain ⟨hB, v, hp, ho, hne⟩ := hw
  exact ⟨hB, v, (hb.block p (blk_lt hp)).trans hp, ho.kept (gN hb) (Classical.em _), hne⟩
 exact ⟨s, ⟨fun h0 => go (hs.1 h0), fun h0 => by obtain ⟨l, hl⟩ := hs.2 h0; exact ⟨l, go hl⟩⟩, hl⟩
theorem WOk.size {B p M : Nat} {w : World} (h : WOk B p M w) : B ≤ w.heap.size := by
 obtain ⟨s, hs, _⟩ := h
 have := wrS_le hs
 omega
theorem ok0 : ∀ x ∈ ([0] : List Int), okI x := by simp [okI]
theorem num0 (B p M : Nat) (w : World) (h : WOk B p M w) (hM : M ≤ 1000000000) :
 Calls Tryz.prog 80 #[.pointer (some ⟨p, 0, none⟩), .slice (some ⟨w.heap.size, 0, none⟩) 1 1] (w.alloc (.cells #[.int .i64 0] 3)) (WPost B p (M + 10) w) :=
 num_w B p M [0] w h ok0 hM (by simp)
set_option maxRecDepth 20000 in
set_option maxHeartbeats 4000000 in
theorem trades_w (B p M : Nat) (hb b g u li : Nat) (w : World) (h : TrAt B w hb b g u li) (hw : WOk B p M w) (hM : M ≤ 100000000) :
 Calls Tryz.prog 31 #[.pointer (some ⟨hb, 0, none⟩), .pointer (some ⟨p, 0, none⟩)] w fun e w' => (∃ u, e = .returned u) ∧ WOk B p (M + 40) w' ∧ Below B w w' := by
 have h2 := h.book
 have HL := Lib.hid (list_nil b (.slice none 0 0) w h.list)
 have HN := Lib.hid (num0 B p M w hw (by omega))
 have HH := Lib.hid h
 clear h hw
 go_enter Tryz.func31, Tryz.ntmps31
 go_upto_region 3 with (first
  | (go_at_call 35; refine HL.out.mono ?_; rintro e w1 ⟨rfl, rfl⟩)
  | (go_at_call 80; refine HN.out.mono ?_; rintro e w2 ⟨⟨u2, rfl⟩, hw2, hb2, hk2⟩)
  | (go_at_call 91; refine (put_nil _ _).mono ?_; rintro e w3 ⟨⟨u3, rfl⟩, rfl⟩))
 clear h2 hk2
 have HT2 := Lib.hid (HH.out.below hb2)
 have HB2 := Lib.hid hb2
 have g3 := HT2.out.graph
 have g0 := HT2.out.uf
 have HU := Lib.hid (len_zero u w2 HT2.out.up)
 have HN2 := Lib.hid (num0 B p (M + 10) w2 hw2 (by omega))
 clear hb2 hw2
 go_upto_region 4 with (first
  | (go_at_call 92; refine HU.out.mono ?_; rintro e w3 ⟨rfl, rfl⟩)
  | (go_at_call 80; refine HN2.out.mono ?_; rintro e w4 ⟨⟨u4, rfl⟩, hw4, hb4, hk4⟩))
 clear g3 g0 hk4
 have HT4 := Lib.hid (HT2.out.below hb4)
 have HB4 := Lib.hid (HB2.out.trans hb4)
 have HU4 := Lib.hid (len_zero u w4 HT4.out.up)
 have HW4 := Lib.hid hw4
 have g3 := HT4.out.graph
 have g0 := HT4.out.uf
 clear hb4 hw4
 go_wp2_with fail
 go_loop [5] (fun i => i = .int .i64 1) (fun _ => 0)
 case atStart => rfl
 case round =>
  subst hrel
  have HK := Lib.hid (links_nil g w4 HT4.out.links)
  go_upto_region 9 with (first
   | (go_at_call 92; refine HU4.out.mono ?_; rintro e w5 ⟨rfl, rfl⟩)
   | (go_at_call 94; refine HK.out.mono ?_; rintro e w6 ⟨rfl, hb6⟩))
  have HB6 := Lib.hid (HB4.out.trans (hb6.mono HW4.out.size))
  have HT6 := Lib.hid (HH.out.below HB6.out)
  have hw6 := HW4.out.new hb6
  have HN6 := Lib.hid (num0 B p (M + 10 + 10) w6 hw6 (by omega))
  clear hb6 hw6 g3 g0
  go_upto_region 10 with (go_at_call 80; refine HN6.out.mono ?_; rintro e w7 ⟨⟨u7, rfl⟩, hw7, hb7, hk7⟩)
  have HB7 := Lib.hid (HB6.out.trans hb7)
  have HT7 := Lib.hid (HH.out.below HB7.out)
  have HW7 := Lib.hid hw7
  clear hb7 hk7 hw7
  have g4 := HT7.out.lines
  go_wp2_with fail
  go_loop [74] (fun i => i = .int .i64 0) (fun _ => 0)
  case atStart => rfl
  case round =>
   subst hrel
   have HO := Lib.hid (noLoans li w7 _ HT7.out.loans.choose_spec)
   go_upto_region 16 with (go_at_call 95; refine HO.out.mono ?_; rintro e w8 ⟨rfl, hb8⟩)
   have HB8 := Lib.hid (HB7.out.trans (hb8.mono HW7.out.size))
   have HN8 := Lib.hid (num0 B p (M + 10 + 10 + 10) w8 (HW7.out.new hb8) (by omega))
   clear hb8 g4
   go_upto_region 17 with (go_at_call 80; refine HN8.out.mono ?_; rintro e w9 ⟨⟨u9, rfl⟩, hw9, hb9, hk9⟩)
   have HE := Lib.hid (And.intro hw9 (HB8.out.trans hb9))
   clear hw9 hb9 hk9
   go_wp2_with fail
   go_loop [100] (fun i => i = .int .i64 0) (fun _ => 0)
   case atStart => rfl
   case round =>
    subst hrel
    go_wp2_with fail
    go_end0
    exact ⟨⟨_, rfl⟩, HE.out.1, HE.out.2⟩
end Go.Proofs.YtmfmjhklajmhoaaGreat.Ed
/- Rows of structs that lie apart from the writer's: what writing leaves of them. -/
namespace Go.Proofs.YtmfmjhklajmhoaaGreat.Ed
open Go Go.RowKit Go.Lib Go.Maps Wire
def SRow (w : World) (p : Nat) (et : TypeId) (size : Nat) (A : Option Addr) (cs : List (List Value)) : Prop :=
 cs = [] ∨ ∃ (q : Nat) (cur : Array Value), A = some ⟨q, 0, none⟩ ∧ q ≠ p ∧ w.heap[q]? = some (.cells cur et (0, 0)) ∧ ∀ (k : Nat) (c : List Value) (j : Nat) (u : Value), cs[k]? = some c → c[j]? = some u → cur[k * size + j]? = some u
theorem SRow.keeps {w w' : World} {p : Nat} {et : TypeId} {size : Nat} {A : Option Addr} {cs : List (List Value)} (h : SRow w p et size A cs) (he : et ≠ 5) (hk : Keeps p w w') : SRow w' p et size A cs := by
 rcases h with h | ⟨q, cur, hA, hq, hh, hc⟩
 · exact .inl h
 · exact .inr ⟨q, cur, hA, hq, (hk q cur _ hh he hq).trans hh, hc⟩
theorem SRow.new {w w' : World} {p : Nat} {et : TypeId} {size : Nat} {A : Option Addr} {cs : List (List Value)} (h : SRow w p et size A cs) (hb : Below w.heap.size w w') : SRow w' p et size A cs := by
 rcases h with h | ⟨q, cur, hA, hq, hh, hc⟩
 · exact .inl h
 · exact .inr ⟨q, cur, hA, hq, (hb.block q (blk_lt hh)).trans hh, hc⟩
theorem SRow.at {w : World} {p : Nat} {et : TypeId} {size : Nat} {A : Option Addr} {cs : List (List Value)} (h : SRow w p et size A cs) {k : Nat} {c : List Value} (hk : cs[k]? = some c) :
 ∃ q, A = some ⟨q, 0, none⟩ ∧ ∀ (j : Nat) (u : Value), c[j]? = some u → w.cell? ⟨q, k * size + j, none⟩ = some u := by
 rcases h with rfl | ⟨q, cur, hA, _, hh, hc⟩
 · cases hk
 · exact ⟨q, hA, fun j u hu => by rw [cell_p hh]; exact hc k c j u hk hu⟩
theorem srow_of {w : World} {b0 p size m : Nat} {et : TypeId} {v : Value} {cs : List (List Value)} (h : w.ownsRow b0 et size v m cs.flatten) (hm : cs.length = m) (hl : ∀ c ∈ cs, c.length = size) (hp : p < b0) :
 ∃ A cc, v = .slice A m cc ∧ SRow w p et size A cs := by
 rcases h.2 with ⟨rfl, h0⟩ | ⟨g, cap, cur, rfl, hg, hgg, h1, h2, h3, h4⟩
 · exact ⟨none, 0, by rw [h0], .inl (List.length_eq_zero_iff.1 (hm.trans h0))⟩
 · refine ⟨some ⟨g, 0, none⟩, cap, rfl, .inr ⟨g, cur, rfl, by omega, hgg, fun k c j u hk hj => ?_⟩⟩
   have hc := h.cells (g := g) rfl _ u (flat_at hl hk hj)
   rw [addB, cell_p hgg] at hc
   exact hc
end Go.Proofs.YtmfmjhklajmhoaaGreat.Ed
/- hall.positions where nothing stands. -/
namespace Go.Proofs.YtmfmjhklajmhoaaGreat.Ed
open Go Go.RowKit Go.Lib Go.Maps Wire
structure PoAt (B : Nat) (w : World) (hb l p : Nat) : Prop where
 led : w.cell? ⟨hb, 1, none⟩ = some (.pointer (some ⟨l, 0, none⟩))
 at' : LedAt w l p
 lt : hb < B ∧ l < B ∧ p < B
theorem PoAt.below {B : Nat} {w w' : World} {hb l p : Nat} (h : PoAt B w hb l p) (hB : Below B w w') : PoAt B w' hb l p :=
 ⟨(hB.cell (p := ⟨hb, 1, none⟩) h.lt.1).trans h.led,
  ⟨(hB.cell (p := ⟨l, 0, none⟩) h.lt.2.1).trans h.at'.pos, (hB.cell (p := ⟨l, 1, none⟩) h.lt.2.1).trans h.at'.issued, (hB.cell (p := ⟨l, 2, none⟩) h.lt.2.1).trans h.at'.blocked,
   (hB.cell (p := ⟨p, 0, none⟩) h.lt.2.2).trans h.at'.at'⟩, h.lt⟩
theorem num000 (B p M : Nat) (w : World) (h : WOk B p M w) (hM : M ≤ 1000000000) :
 Calls Tryz.prog 80 #[.pointer (some ⟨p, 0, none⟩), .slice (some ⟨w.heap.size, 0, none⟩) 3 3] (w.alloc (.cells #[.int .i64 0, .int .i64 0, .int .i64 0] 3)) (WPost B p (M + 30) w) :=
 num_w B p M [0, 0, 0] w h (by simp [okI]) hM (by simp)
set_option maxRecDepth 20000 in
set_option maxHeartbeats 4000000 in
theorem positions_w (B p M : Nat) (hb l q : Nat) (w : World) (h : PoAt B w hb l q) (hw : WOk B p M w) (hM : M ≤ 100000000) :
 Calls Tryz.prog 30 #[.pointer (some ⟨hb, 0, none⟩), .pointer (some ⟨p, 0, none⟩)] w fun e w' => (∃ u, e = .returned u) ∧ WOk B p (M + 30) w' ∧ Below B w w' := by
 have h1 := h.led
 have h0 := h.at'.pos
 have HH := Lib.hid h
 have HW := Lib.hid hw
 have hlt : B ≤ w.heap.size := hw.size
 have HL := Lib.hid (show hb < w.heap.size ∧ l < w.heap.size by have := h.lt; omega)
 have HBz := Lib.hid hlt
 clear h hw hlt
 go_enter Tryz.func30, Tryz.ntmps30
 go_wp2_with fail
 have hS0 : Below w.heap.size w w.drew := sb_drew (Below.refl _ _)
 go_region_held3 (fun w' => Below w.heap.size w w' ∧ w'.cell? ⟨hb, 1, none⟩ = some (.pointer (some ⟨l, 0, none⟩)) ∧ w'.cell? ⟨l, 0, none⟩ = some (.pointer (some ⟨q, 0, none⟩)))
  (first
   | (have hI : Below w.heap.size w _ := (by first | assumption | exact sb_drew (by assumption) | exact Below.refl _ _)
      exact ⟨hI, (hI.cell (p := ⟨hb, 1, none⟩) HL.out.1).trans h1, (hI.cell (p := ⟨l, 0, none⟩) HL.out.2).trans h0⟩)
   | go_keep)
  ((first
    | (go_at_call 86; refine (keysPos_nil q _ (HH.out.below ((show Below w.heap.size w _ by first | assumption | exact sb_drew (by assumption)).mono HBz.out)).at'.at').mono ?_; rintro e wa ⟨rfl, hba⟩; have hxa : Below w.heap.size w wa := sb_step (by first | assumption | exact sb_drew (by assumption)) hba)
    | (go_at_call 87; refine (issues_nil l q _ (HH.out.below ((show Below w.heap.size w _ by first | assumption | exact sb_drew (by assumption)).mono HBz.out)).at').mono ?_; rintro e wb ⟨rfl, hbb⟩; have hxb : Below w.heap.size w wb := sb_step (by first | assumption | exact sb_drew (by assumption)) hbb)
    | (go_at_call 88; refine (blocks_nil l q _ (HH.out.below ((show Below w.heap.size w _ by first | assumption | exact sb_drew (by assumption)).mono HBz.out)).at').mono ?_; rintro e wc ⟨rfl, hbc⟩; have hxc : Below w.heap.size w wc := sb_step (by first | assumption | exact sb_drew (by assumption)) hbc)))
 have HN := Lib.hid (num000 B p M wc (HW.out.new hxc) (by omega))
 have HC := Lib.hid (hxc.mono HBz.out)
 clear h1 h0 hba hbb hbc hxa hxb hxc hS0
 go_upto_region 2 with (go_at_call 80; refine HN.out.mono ?_; rintro e w9 ⟨⟨u9, rfl⟩, hw9, hb9, hk9⟩)
 have HE := Lib.hid (And.intro hw9 (HC.out.trans hb9))
 clear hw9 hb9 hk9
 go_wp2_with fail
 go_loop [43] (fun i => i = .int .i64 0) (fun _ => 0)
 case atStart => rfl
 case round =>
  subst hrel
  go_wp2_with fail
  go_loop [75] (fun i => i = .int .i64 0) (fun _ => 0)
  case atStart => rfl
  case round =>
   subst hrel
   go_wp2_with fail
   go_loop [95] (fun i => i = .int .i64 0) (fun _ => 0)
   case atStart => rfl
   case round =>
    subst hrel
    go_wp2_with fail
    go_end0
    exact ⟨⟨_, rfl⟩, HE.out.1, HE.out.2⟩
end Go.Proofs.YtmfmjhklajmhoaaGreat.Ed
/- The hall, and all that hangs on it: what stays of it where one block changes. -/
namespace Go.Proofs.YtmfmjhklajmhoaaGreat.Ed
open Go Go.RowKit Go.Lib Go.Maps Wire
structure St (w : World) (hb r l b g li c p u n : Nat) (D : DataW Unit) (today : Int) : Prop where
 hall : HallAt w hb r l b g li c n D today
 ref : RefAt w r 100
 led : LedAt w l p
 uf : w.cell? ⟨g, 0, none⟩ = some (.pointer (some ⟨u, 0, none⟩))
 links : w.cell? ⟨g, 1, none⟩ = some (.slice none 0 0)
 up : w.cell? ⟨u, 0, none⟩ = some (.slice none 0 0)
 calb : ∃ cs t, w.heap[c]? = some (.cells cs t (0, 0))
theorem cellG {w w' : World} {x b j : Nat} {v : Value} (h : w.grownBy w' (some x)) (hc : w.cell? ⟨b, j, none⟩ = some v) (hne : b ≠ x) : w'.cell? ⟨b, j, none⟩ = some v :=
 (World.cell?_of_block (a := ⟨b, j, none⟩) (h.block b (World.block_lt_of_cell? w _ hc) (fun e => hne (by cases e; rfl)))).trans hc
theorem blkG {w w' : World} {x b : Nat} {o : Obj} (h : w.grownBy w' (some x)) (hc : w.heap[b]? = some o) (hne : b ≠ x) : w'.heap[b]? = some o :=
 (h.block b (Array.getElem?_eq_some_iff.1 hc).1 (fun e => hne (by cases e; rfl))).trans hc
theorem RefAt.grown {w w' : World} {r n x : Nat} (h : RefAt w r n) (hg : w.grownBy w' (some x)) (hx : ∃ cs t, w.heap[x]? = some (.cells cs t (0, 0))) (hr : r ≠ x) : RefAt w' r n := by
 obtain ⟨cs, t, hx⟩ := hx
 have go : ∀ {o : Nat} {R : Value → Option (DataW Unit × List MemPlace)}, (∃ b D, w.cell? ⟨r, o, none⟩ = some (.map (some b)) ∧ w.ownsMap Tryz.prog 9 R b n D ∧ ShortKeys w b) →
  ∃ b D, w'.cell? ⟨r, o, none⟩ = some (.map (some b)) ∧ w'.ownsMap Tryz.prog 9 R b n D ∧ ShortKeys w' b := fun {o R} ⟨b, D, h1, h2, h3⟩ => by
  obtain ⟨es, clk, k1, k2⟩ := h2
  have hne : b ≠ x := fun e => by
   rw [e, hx] at k1
   cases k1
  have hbb := hg.block b (Array.getElem?_eq_some_iff.1 k1).1 (fun e => hne (by cases e; rfl))
  exact ⟨b, D, cellG hg h1 hr, ⟨es, clk, hbb.trans k1, k2⟩, fun es' clk' he => h3 es' clk' (hbb.symm.trans he)⟩
 exact ⟨go h.parties, go h.accounts, go h.assets⟩
theorem CalAt.grown {w w' : World} {c n x : Nat} {D : DataW Unit} (h : CalAt w c n D) (hg : w.grownBy w' (some x)) (hx : ∃ cs t, w.heap[x]? = some (.cells cs t (0, 0))) (hc : c ≠ x) : CalAt w' c n D := by
 obtain ⟨cs, t, hx⟩ := hx
 obtain ⟨b, hm, es, clk, k1, k2⟩ := h
 have hne : b ≠ x := fun e => by
  rw [e, hx] at k1
  cases k1
 exact ⟨b, cellG hg hm hc, es, clk, blkG hg k1 hne, k2⟩
structure Apart (hb r l b g li c p u : Nat) : Prop where
 h : r ≠ hb ∧ l ≠ hb ∧ b ≠ hb ∧ g ≠ hb ∧ li ≠ hb ∧ c ≠ hb ∧ p ≠ hb ∧ u ≠ hb
 c : hb ≠ c ∧ r ≠ c ∧ l ≠ c ∧ b ≠ c ∧ g ≠ c ∧ li ≠ c ∧ p ≠ c ∧ u ≠ c
theorem LedAt.grown {w w' : World} {l p x : Nat} (h : LedAt w l p) (hg : w.grownBy w' (some x)) (hl : l ≠ x) (hp : p ≠ x) : LedAt w' l p :=
 ⟨cellG hg h.pos hl, cellG hg h.issued hl, cellG hg h.blocked hl, cellG hg h.at' hp⟩
section
variable {w w' : World} {hb r l b g li c p u n : Nat} {D : DataW Unit} {today : Int}
theorem St.hallb (h : St w hb r l b g li c p u n D today) : ∃ cs t, w.heap[hb]? = some (.cells cs t (0, 0)) := by
 obtain ⟨tH, hH⟩ := h.hall.hall
 exact ⟨_, _, hH⟩
theorem St.ended (h : St w hb r l b g li c p u n D today) (ha : Apart hb r l b g li c p u) (hg : w.grownBy w' (some hb)) {today' : Int} (hH : ∃ tH, w'.heap[hb]? = some (.cells #[p0 r, p0 l, p0 b, p0 g, p0 li, .int .i64 today'] tH (0, 0))) :
 St w' hb r l b g li c p u n D today' := by
 obtain ⟨a1, a2, a3, a4, a5, a6, a7, a8⟩ := ha.h
 obtain ⟨tL, hL⟩ := h.hall.lines
 obtain ⟨cs, t, hc⟩ := h.calb
 exact ⟨⟨hH, cellG hg h.hall.cref a1, h.hall.cal.grown hg h.hallb a6, cellG hg h.hall.book a3, tL, blkG hg hL a5⟩, h.ref.grown hg h.hallb a1, h.led.grown hg a2 a7,
  cellG hg h.uf a4, cellG hg h.links a4, cellG hg h.up a8, cs, t, blkG hg hc a6⟩
theorem St.closed (h : St w hb r l b g li c p u n D today) (ha : Apart hb r l b g li c p u) {m : Nat} (hC : Closed w w' c m) : ∃ D', St w' hb r l b g li c p u m D' today := by
 obtain ⟨a0, a1, a2, a3, a4, a5, a7, a8⟩ := ha.c
 obtain ⟨tL, hL⟩ := h.hall.lines
 obtain ⟨tH, hH⟩ := h.hall.hall
 obtain ⟨cs, t, hc⟩ := h.calb
 obtain ⟨D', hcal⟩ := hC.cal
 obtain ⟨v, hv⟩ := hC.cells cs t hc
 have hg := hC.grown
 exact ⟨D', ⟨⟨tH, blkG hg hH a0⟩, cellG hg h.hall.cref a1, hcal, cellG hg h.hall.book a3, tL, blkG hg hL a5⟩, h.ref.grown hg h.calb a1, h.led.grown hg a2 a7,
  cellG hg h.uf a4, cellG hg h.links a4, cellG hg h.up a8, _, _, hv⟩
theorem St.new (h : St w hb r l b g li c p u n D today) (hB : Below w.heap.size w w') : St w' hb r l b g li c p u n D today := by
 have cl : ∀ {b j : Nat} {v : Value}, w.cell? ⟨b, j, none⟩ = some v → w'.cell? ⟨b, j, none⟩ = some v := fun {b j v} hc => (hB.cell (p := ⟨b, j, none⟩) (World.block_lt_of_cell? w _ hc)).trans hc
 obtain ⟨cs, t, hc⟩ := h.calb
 exact ⟨h.hall.new hB, h.ref.new hB, ⟨cl h.led.pos, cl h.led.issued, cl h.led.blocked, cl h.led.at'⟩, cl h.uf, cl h.links, cl h.up, cs, t, (hB.block c (Array.getElem?_eq_some_iff.1 hc).1).trans hc⟩
theorem St.lt (h : St w hb r l b g li c p u n D today) : hb < w.heap.size ∧ l < w.heap.size ∧ p < w.heap.size ∧ b < w.heap.size ∧ g < w.heap.size ∧ u < w.heap.size ∧ li < w.heap.size := by
 obtain ⟨tL, hL⟩ := h.hall.lines
 obtain ⟨tH, hH⟩ := h.hall.hall
 exact ⟨(Array.getElem?_eq_some_iff.1 hH).1, World.block_lt_of_cell? w _ h.led.pos, World.block_lt_of_cell? w _ h.led.at', World.block_lt_of_cell? w _ h.hall.book, World.block_lt_of_cell? w _ h.uf, World.block_lt_of_cell? w _ h.up, (Array.getElem?_eq_some_iff.1 hL).1⟩
theorem St.po (h : St w hb r l b g li c p u n D today) : PoAt w.heap.size w hb l p := by
 obtain ⟨tH, hH⟩ := h.hall.hall
 have hl := h.lt
 exact ⟨by simp [World.cell?, hH, p0], h.led, hl.1, hl.2.1, hl.2.2.1⟩
theorem St.tr (h : St w hb r l b g li c p u n D today) : TrAt w.heap.size w hb b g u li := by
 obtain ⟨tH, hH⟩ := h.hall.hall
 have hl := h.lt
 exact ⟨by simp [World.cell?, hH, p0], by simp [World.cell?, hH, p0], by simp [World.cell?, hH, p0], h.hall.book, h.uf, h.links, h.up, h.hall.lines, hl.1, hl.2.2.2.1, hl.2.2.2.2.1, hl.2.2.2.2.2.1, hl.2.2.2.2.2.2⟩
end
end Go.Proofs.YtmfmjhklajmhoaaGreat.Ed
/- The calendar tells its closed days: a row of numbers in new memory, as many as there are. -/
namespace Go.Proofs.YtmfmjhklajmhoaaGreat.Ed
open Go Go.RowKit Go.Maps Go.Sort Go.Shelf
theorem sortsZ (m : Nat) : AnyZI.SortsIn Tryz.prog Tryz.sorted155_ren Fence.wide m :=
 ⟨fun blk off cap ss W hH hblk hsz => callsIn_wide.2 (AnyM.slices_Sort_int Tryz.sort229 blk off cap ss W hH hblk hsz),
  fun p cap W => callsIn_wide.2 (AnyM.slices_Sort_int_none Tryz.sort229 p cap W)⟩
theorem intKeys_le (D : DataW Unit) : (intKeys D).length ≤ Maps.size D := by
 unfold intKeys
 split
 · simp [Maps.size]
 · simp
theorem keys_wf {w : World} {b n : Nat} {D : DataW Unit} (h : w.ownsMap Tryz.prog 3 unitElem b n D) : ∀ x ∈ intKeys D, -9223372036854775808 ≤ x ∧ x ≤ 9223372036854775807 := by
 obtain ⟨es, clk, hb, F, hs, rfl⟩ := h
 intro x hx
 unfold intKeys at hx
 obtain ⟨p, hp, rfl⟩ := List.mem_map.1 hx
 rw [mem_sorted] at hp
 obtain ⟨e, he, rfl⟩ := List.mem_map.1 hp
 obtain ⟨y, hy⟩ := F.reads e he
 rw [WideElems.rg_of hy]
 obtain ⟨z, _, hz, hw⟩ := Maps.keyOf_int_inv Tryz.underlying3 (WideElems.rd_key hy)
 rw [hz]
 unfold Lit.wf at hw
 rw [Bool.and_eq_true, decide_eq_true_eq, decide_eq_true_eq] at hw
 have h2 : IntKind.i64.min = -9223372036854775808 := by decide
 have h3 : IntKind.i64.max = 9223372036854775807 := by decide
 rw [h2, h3] at hw
 exact hw
set_option maxHeartbeats 1000000 in
theorem holidays_any (c n : Nat) (D : DataW Unit) (w : World) (h : CalAt w c n D) (hn : n ≤ 100000) :
 Calls Tryz.prog 79 #[.pointer (some ⟨c, 0, none⟩)] w fun e w' => ∃ (v : Value) (ss : List Int), e = .returned v ∧ ss.length ≤ n ∧ (∀ x ∈ ss, -9223372036854775808 ≤ x ∧ x ≤ 9223372036854775807) ∧ w'.ownsRow w.heap.size 3 1 v ss.length (ss.map encZ) ∧ Below w.heap.size w w' := by
 obtain ⟨b, hm, hown⟩ := h
 refine (callsIn_wide (n := 6)).1 ?_
 have hbl := hown.lt
 have hsz := hown.size_le
 have hmax : Maps.size D ≤ maxLen := by unfold maxLen; omega
 have hbytes : Maps.size D * 8 ≤ 140737488355328 := by omega
 have hseq : SeqGives Fence.wide 2 Tryz.prog 230 #[.pointer (some ⟨w.heap.size, 0, none⟩)] encZ (fun ss => ss.Perm (intKeys D)) (Maps.size D) (w.alloc (.cells #[.map (some b)] 85)) :=
  AnyZI.keys_gives (ρ := Tryz.keys156_ren) { Tryz.keys156 with } Fence.wide _ trivial rfl (by omega) w.heap.size b n D _ (by simp) (by simp) (by
   obtain ⟨es, clock, hb, Ft, hs, hD⟩ := hown
   exact ⟨es, clock, (Below.heap_alloc _ _ b hbl).trans hb, Ft, hs, hD⟩)
 have cK : ∀ mb W, CallsIn Fence.wide 5 Tryz.prog 156 #[.map mb] W fun e w' => e = .returned (.func (.func 230) #[] #[.pointer (some ⟨W.heap.size, 0, none⟩)]) ∧ w' = W.alloc (.cells #[.map mb] 85) := fun mb W => AnyZI.keys_in Tryz.keys156 Fence.wide 5 trivial rfl mb W
 have cS := AnyZI.sorted_in Tryz.sorted155 Fence.wide 5 trivial trivial trivial trivial rfl (by omega) (sortsZ _) (enters_of Tryz.func229 (by kernel_rfl) rfl) 230 #[.pointer (some ⟨w.heap.size, 0, none⟩)] trivial (enters_of Tryz.func230 (by kernel_rfl) rfl) _ _ hmax hbytes _ hseq
 change CallsIn _ _ Tryz.prog 155 _ _ _ at cS
 have hfK : Fence.wide.fn 156 := trivial
 have hfS : Fence.wide.fn 155 := trivial
 refine callsIn_of_wp Tryz.func79 rfl trivial ?_ rfl
 simp only [Tryz.ntmps79, List.size_toArray, List.length_cons, List.length_nil, Nat.reduceAdd, Nat.reduceSub, Array.replicate_succ, Array.replicate_zero, List.push_toArray, List.append_toArray, List.nil_append, List.cons_append]
 gi_wp2_with (first
  | (gi_at_call 156; refine (cK _ _).mono ?_; rintro e w' ⟨rfl, rfl⟩)
  | (gi_at_call 155; refine cS.mono ?_; rintro e w' ⟨v, ss, rfl, hS, hrow, hnil, hb⟩))
 go_ret
 refine ⟨v, ss.mergeSort (fun x y => decide (x ≤ y)), rfl, ?_, ?_, ?_, ((Below.refl _ w).alloc (Nat.le_refl _) _).trans (hb.mono (by simp))⟩
 · rw [List.length_mergeSort, hS.length_eq]
   exact Nat.le_trans (intKeys_le D) hsz
 · intro x hx
   exact keys_wf hown x (hS.mem_iff.1 (List.mem_mergeSort.1 hx))
 · rw [List.length_mergeSort]; exact ownsRow_base_a hrow (by simp)
end Go.Proofs.YtmfmjhklajmhoaaGreat.Ed
