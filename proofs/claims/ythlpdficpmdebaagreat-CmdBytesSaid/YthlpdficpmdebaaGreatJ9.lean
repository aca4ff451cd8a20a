/- complinebook.markInts, name, markTexts: rows of marks. -/
import Derived.Test.YthlpdficpmdebaaGreatByMem
import Derived.Test.YthlpdficpmdebaaGreatWireGet
namespace Go.Proofs.YthlpdficpmdebaaGreat.Wire
open Go Go.RowKit Go.Lib
/-- The marks of list i, from place a on. -/
def mIs (i a n : Nat) : List Int := (List.range n).map fun j => -1000000 * (i : Int) - ((a + j : Nat) : Int) - 7
abbrev mkI (i a n : Nat) : List Value := ints (mIs i a n)
theorem mIs_next (i a n : Nat) : mIs i a (n + 1) = mIs i a n ++ [-1000000 * (i : Int) - ((a + n : Nat) : Int) - 7] := by simp [mIs, List.range_succ]
theorem mIs_len (i a n : Nat) : (mIs i a n).length = n := by simp [mIs]
theorem mIs_app (i a n m : Nat) : mIs i a n ++ mIs i (a + n) m = mIs i a (n + m) := by
  induction m with
  | zero => simp [mIs]
  | succ m ih => rw [mIs_next, ← List.append_assoc, ih, ← Nat.add_assoc, mIs_next, Nat.add_assoc]
theorem mIs_get (i a n j : Nat) (h : j < n) : (mIs i a n)[j]? = some (-1000000 * (i : Int) - ((a + j : Nat) : Int) - 7) := by simp [mIs, h]
set_option maxRecDepth 20000 in
set_option maxHeartbeats 1000000 in
theorem markI_any (i a n : Nat) (w : World) (hi : i ≤ 1000) (ha : a + n ≤ 100000) :
    Calls Tryz.prog 167 #[.int .i64 i, .int .i64 a, .int .i64 n] w fun en w' => ∃ v, en = .returned v ∧ w'.ownsRow w.heap.size 3 1 v n (mkI i a n) ∧ w.grownBy w' none := by
  obtain ⟨i0, hi0, hz0, hz1, hz2⟩ := info_parts int_info
  go_enter Tryz.func167, Tryz.ntmps167
  go_wp2_with fail
  go_loopw [7, 8] (fun v k wr => ∃ j : Nat, k = .int .i64 ((a + j : Nat) : Int) ∧ j ≤ n ∧ wr.ownsRow w.heap.size 3 1 v j (mkI i a j) ∧ w.grownBy wr none) (fun _ k _ => a + n - (intOf k).toNat)
  case atStart => exact ⟨0, rfl, Nat.zero_le _, World.ownsRow_nil _ _ _ _, World.grownBy.refl _ _⟩
  case round =>
    obtain ⟨j, rfl, hj, hown, hg⟩ := hrel
    have HOW := Lib.hid hown
    have HG := Lib.hid hg
    have HBS := Lib.hid hg.size
    clear hown hg
    by_cases hlt : j < n
    · go_wp2_with ((at_builtin
                    refine wpList_append_own_at _ rfl (.tmp 17) (.tmp 23) _ rfl w.heap.size 3 i0 _ 1 8 Tryz.underlying22 hi0 hz0 hz1 hz2 rfl (by omega) u7 j (mkI i a j) rfl (HOW.out.alloc _) ⟨wr.heap.size, 0, none⟩ 1 1 [.int .i64 (-1000000 * (i : Int) - ((a + j : Nat) : Int) - 7)] rfl rfl (cell_one_new _ _ _) (by simp [Value.oneCell']) (by unfold maxLen; omega) (by omega) (by have := HBS.out; simp; omega) ?_
                    intro v3 w3 hown3 hg3 _ hat3
                    clear hat3))
      go_roundw
      case rel =>
        refine ⟨j + 1, by go_num, by omega, by unfold mkI; rw [mIs_next]; simpa [ints] using hown3, ?_⟩
        exact grown_far HG.out (World.grownBy_alloc _ _ none) hg3 (own_ge HOW.out)
      case measure => simp [intOf]; omega
    · have hjn : j = n := by omega
      subst hjn
      go_wp2_with fail
      refine bodyPost_ret (results_tmp rfl _ _ _) rfl ?_
      exact ⟨_, rfl, HOW.out, HG.out⟩
/-- The name that is mark k of list i. -/
def nmL (i k : Nat) : List UInt8 := [109, UInt8.ofNat (65 + i % 26), UInt8.ofNat (65 + i / 26 % 26), UInt8.ofNat (48 + k % 10), UInt8.ofNat (48 + k / 10 % 10), UInt8.ofNat (48 + k / 100 % 10)]
def nm (i k : Nat) : ByteArray := ⟨(nmL i k).toArray⟩
theorem nm_cells (i k : Nat) : byteCells (nmL i k) = [.int .u8 109, .int .u8 (65 + (i : Int) % 26), .int .u8 (65 + (i : Int) / 26 % 26), .int .u8 (48 + (k : Int) % 10), .int .u8 (48 + (k : Int) / 10 % 10), .int .u8 (48 + (k : Int) / 100 % 10)] := by
  have h : ∀ x : Nat, x < 256 → (UInt8.ofNat x).toNat = x := fun x hx => by simp [UInt8.toNat_ofNat']; omega
  simp only [byteCells, nmL, List.map_cons, List.map_nil]
  rw [h _ (by omega), h _ (by omega), h _ (by omega), h _ (by omega), h _ (by omega)]
  simp
set_option maxRecDepth 20000 in
set_option maxHeartbeats 1000000 in
theorem name_any (i k : Nat) (hi : i ≤ 1000) (hk : k ≤ 1000000) (w : World) : Calls Tryz.prog 211 #[.int .i64 i, .int .i64 k] w fun en w' => en = .returned (.string (nm i k)) ∧ w.grownBy w' none := by
  have hown : (w.alloc (.cells #[.int .u8 109, .int .u8 (65 + (i : Int) % 26), .int .u8 (65 + (i : Int) / 26 % 26), .int .u8 (48 + (k : Int) % 10), .int .u8 (48 + (k : Int) / 10 % 10), .int .u8 (48 + (k : Int) / 100 % 10)] 5)).ownsRow w.heap.size 5 1 (.slice (some ⟨w.heap.size, 0, none⟩) 6 6) 6 (byteCells (nmL i k)) := by
    rw [nm_cells]
    exact ⟨rfl, .inr ⟨w.heap.size, 6, _, rfl, Nat.le_refl _, heap_alloc_new w _, Nat.le_refl _, by unfold maxLen; omega, rfl, rfl⟩⟩
  have hcv := conv_row (l := nmL i k) hown
  clear hown
  go_enter Tryz.func211, Tryz.ntmps211
  go_wp2_with fail
  refine bodyPost_ret (results_tmp rfl _ _ _) rfl ?_
  exact ⟨rfl, World.grownBy_alloc _ _ none⟩
def mTs (i a n : Nat) : List ByteArray := (List.range n).map fun j => nm i (a + j)
theorem mTs_next (i a n : Nat) : mTs i a (n + 1) = mTs i a n ++ [nm i (a + n)] := by simp [mTs, List.range_succ]
theorem mTs_len (i a n : Nat) : (mTs i a n).length = n := by simp [mTs]
theorem mTs_app (i a n m : Nat) : mTs i a n ++ mTs i (a + n) m = mTs i a (n + m) := by
  induction m with
  | zero => simp [mTs]
  | succ m ih => rw [mTs_next, ← List.append_assoc, ih, ← Nat.add_assoc, mTs_next, Nat.add_assoc]
theorem mTs_get (i a n j : Nat) (h : j < n) : (mTs i a n)[j]? = some (nm i (a + j)) := by simp [mTs, h]
def strV (xs : List ByteArray) : List Value := xs.map Value.string
set_option maxRecDepth 20000 in
set_option maxHeartbeats 1000000 in
theorem markT_any (i a n : Nat) (w : World) (hi : i ≤ 1000) (ha : a + n ≤ 100000) :
    Calls Tryz.prog 166 #[.int .i64 i, .int .i64 a, .int .i64 n] w fun en w' => ∃ v, en = .returned v ∧ w'.ownsRow w.heap.size 9 1 v n (strV (mTs i a n)) ∧ w.grownBy w' none := by
  obtain ⟨i0, hi0, hz0, hz1, hz2⟩ := info_parts str_info
  go_enter Tryz.func166, Tryz.ntmps166
  go_wp2_with fail
  go_loopw [7, 8] (fun v k wr => ∃ j : Nat, k = .int .i64 ((a + j : Nat) : Int) ∧ j ≤ n ∧ wr.ownsRow w.heap.size 9 1 v j (strV (mTs i a j)) ∧ w.grownBy wr none) (fun _ k _ => a + n - (intOf k).toNat)
  case atStart => exact ⟨0, rfl, Nat.zero_le _, World.ownsRow_nil _ _ _ _, World.grownBy.refl _ _⟩
  case round =>
    obtain ⟨j, rfl, hj, hown, hg⟩ := hrel
    have HOW := Lib.hid hown
    have HG := Lib.hid hg
    clear hown hg
    by_cases hlt : j < n
    · go_wp2_with fail
      refine (name_any i (a + j) hi (by omega) _).mono ?_
      rintro e w1 ⟨rfl, hg1⟩
      obtain ⟨s, hs⟩ : ∃ s, nm i (a + j) = s := ⟨_, rfl⟩
      rw [hs]
      have HSS := Lib.hid hs
      have HOW1 := Lib.hid (HOW.out.kept hg1 (by cases u7.ownBlock <;> simp))
      have HG1 := Lib.hid (HG.out.trans hg1)
      have HBS := Lib.hid HG1.out.size
      clear hg1 hs
      go_wp2_with ((at_builtin
                    refine wpList_append_own_at _ rfl (.tmp 17) (.tmp 21) _ rfl w.heap.size 9 i0 _ 1 16 Tryz.underlying23 hi0 hz0 hz1 hz2 rfl (by omega) u7 j (strV (mTs i a j)) rfl (HOW1.out.alloc _) ⟨w1.heap.size, 0, none⟩ 1 1 [.string s] rfl rfl (cell_one_new _ _ _) (by simp [Value.oneCell']) (by unfold maxLen; omega) (by omega) (by have := HBS.out; simp; omega) ?_
                    intro v3 w3 hown3 hg3 _ hat3
                    clear hat3))
      go_roundw
      case rel =>
        refine ⟨j + 1, by go_num, by omega, by rw [mTs_next, HSS.out]; simpa [strV] using hown3, ?_⟩
        exact grown_far HG1.out (World.grownBy_alloc _ _ none) hg3 (own_ge HOW1.out)
      case measure => simp [intOf]; omega
    · have hjn : j = n := by omega
      subst hjn
      go_wp2_with fail
      refine bodyPost_ret (results_tmp rfl _ _ _) rfl ?_
      exact ⟨_, rfl, HOW.out, HG.out⟩
end Go.Proofs.YthlpdficpmdebaaGreat.Wire
/- cmd.Get, cmd.GetReply. -/
namespace Go.Proofs.YthlpdficpmdebaaGreat.Wire
open Go Go.RowKit Go.Lib
theorem own_form {w : World} {base e size n : Nat} {v : Value} {xs : List Value} (h : w.ownsRow base e size v n xs) : ∃ A c, v = .slice A n c := by
  rcases h.2 with ⟨rfl, rfl⟩ | ⟨g, cap, cur, rfl, _⟩
  · exact ⟨none, 0, rfl⟩
  · exact ⟨_, cap, rfl⟩
theorem own_base {w : World} {base base' e size n : Nat} {v : Value} {xs : List Value} (h : w.ownsRow base e size v n xs) (hb : base' ≤ base) : w.ownsRow base' e size v n xs := by
  refine ⟨h.1, ?_⟩
  rcases h.2 with h1 | ⟨g, cap, cur, rfl, h1, h2⟩
  · exact .inl h1
  · exact .inr ⟨g, cap, cur, rfl, by omega, h2⟩
theorem set4 {w7 : World} {r : Nat} {x0 x1 x2 x3 : Value} {t : TypeId} (h : w7.heap[r]? = some (.cells #[x0, x1, x2, x3] t (0, 0))) (y0 y1 y2 y3 : Value) :
    ((((w7.setCell ⟨r, 0, none⟩ y0).setCell ⟨r, 1, none⟩ y1).setCell ⟨r, 2, none⟩ y2).setCell ⟨r, 3, none⟩ y3).heap[r]? = some (.cells #[y0, y1, y2, y3] t (0, 0)) :=
  Go.Lib.heap_setCell_same (i := 3) (Go.Lib.heap_setCell_same (i := 2) (Go.Lib.heap_setCell_same (i := 1) (Go.Lib.heap_setCell_same (i := 0) h y0) y1) y2) y3
theorem grown4 (w7 : World) (r : Nat) (y0 y1 y2 y3 : Value) : w7.grownBy ((((w7.setCell ⟨r, 0, none⟩ y0).setCell ⟨r, 1, none⟩ y1).setCell ⟨r, 2, none⟩ y2).setCell ⟨r, 3, none⟩ y3) (some r) :=
  (((grownBy_setCell w7 r 0 y0).trans (grownBy_setCell _ r 1 y1)).trans (grownBy_setCell _ r 2 y2)).trans (grownBy_setCell _ r 3 y3)
def cmd0 : Array Value := #[.int .i64 0, .string ⟨#[]⟩, .slice none 0 0, .slice none 0 0]
/-- Get's end. -/
def GetCPost (b : ByteArray) (w : World) (en : Ending) (w' : World) : Prop :=
  Below w.heap.size w w' ∧ ((rEnd (cmdR (bl b)).2 = 0 ∧ ∃ v1 v2 n1 n2, en = .returned (.tuple #[.agg #[.int .i64 (cmdR (bl b)).1.1.1, .string ⟨(cmdR (bl b)).1.1.2.toArray⟩, v1, v2], .int .i64 0]) ∧
      (cmdR (bl b)).1.2.1.length = n1 ∧ w'.ownsRow w.heap.size 3 1 v1 n1 (ints (cmdR (bl b)).1.2.1) ∧ (cmdR (bl b)).1.2.2.length = n2 ∧ w'.ownsRow w.heap.size 9 1 v2 n2 (strs (cmdR (bl b)).1.2.2)) ∨
    (rEnd (cmdR (bl b)).2 ≠ 0 ∧ en = .returned (.tuple #[.agg cmd0, .int .i64 (rEnd (cmdR (bl b)).2)])))
set_option maxRecDepth 20000 in
set_option maxHeartbeats 2000000 in
theorem getC_any (b : ByteArray) (w : World) (hb : b.size ≤ 1000000000000) : Calls Tryz.prog 11 #[.string b] w (GetCPost b w) := by
  go_enter Tryz.func11, Tryz.ntmps11
  go_wp2_with fail
  refine (newR_any b _ (by omega)).mono ?_
  rintro e w1 ⟨⟨p, rfl, hp, hR1⟩, hb1⟩
  have hp' : w.heap.size + 1 ≤ p := by simpa using hp
  have HP := Lib.hid hp'
  have HB1 : Hid (Below w.heap.size w w1) := Lib.hid (((Below.refl _ w).alloc (Nat.le_refl _) _).trans (hb1.mono (by simp)))
  have HRB1 : Hid (w1.heap[w.heap.size]? = some (.cells cmd0 25 (0, 0))) := Lib.hid (box_at hb1)
  have HR1 := Lib.hid hR1
  clear hp hp' hb1 hR1
  go_wp2_with fail
  refine (rNum_s p ⟨0, bl b⟩ b 0 _ HR1.out rfl (by omega) hb).mono ?_
  rintro e w2 ⟨rfl, hg2, at2, hat2, hR2, hl2⟩
  obtain ⟨kind, hkind⟩ : ∃ x, (rNum ⟨0, bl b⟩).1 = x := ⟨_, rfl⟩
  obtain ⟨s2, hs2⟩ : ∃ s, (rNum ⟨0, bl b⟩).2 = s := ⟨_, rfl⟩
  rw [hs2] at hR2 hl2
  rw [hkind]
  have HKIND := Lib.hid hkind
  have HS2 := Lib.hid hs2
  have HR2 := Lib.hid hR2
  have HL2 := Lib.hid hl2
  have HB2 : Hid (Below w.heap.size w w2) := Lib.hid (below_grown HB1.out hg2 HB1.out.size (by rintro g ⟨rfl⟩; have := HP.out; omega))
  have HRB2 := Lib.hid ((hg2.block _ (blk_lt HRB1.out) (by intro h; injection h with h; have := HP.out; omega)).trans HRB1.out)
  clear hkind hs2 hR2 hl2 hg2
  go_wp2_with fail
  refine (rText_s p s2 b at2 _ HR2.out HL2.out hat2 hb).mono ?_
  rintro e w3 ⟨rfl, hg3, at3, hat3, hR3, hl3⟩
  have hsz : (⟨(rText s2).1.toArray⟩ : ByteArray).size ≤ 281474976710656 := by
    have h1 := rText_len s2
    rw [HL2.out, bl_drop_len] at h1
    have h2 : (⟨(rText s2).1.toArray⟩ : ByteArray).size = (rText s2).1.length := by simp [ByteArray.size]
    rw [h2]
    omega
  obtain ⟨party, hparty⟩ : ∃ x : ByteArray, ⟨(rText s2).1.toArray⟩ = x := ⟨_, rfl⟩
  obtain ⟨s3, hs3⟩ : ∃ s, (rText s2).2 = s := ⟨_, rfl⟩
  rw [hs3] at hR3 hl3
  rw [hparty] at hsz ⊢
  have HPARTY := Lib.hid hparty
  have HSZ := Lib.hid hsz
  have HS3 := Lib.hid hs3
  have HR3 := Lib.hid hR3
  have HL3 := Lib.hid hl3
  have HB3 : Hid (Below w.heap.size w w3) := Lib.hid (below_grown HB2.out hg3 HB2.out.size (by rintro g ⟨rfl⟩; have := HP.out; omega))
  have HRB3 := Lib.hid ((hg3.block _ (blk_lt HRB2.out) (by intro h; injection h with h; have := HP.out; omega)).trans HRB2.out)
  clear hparty hsz hs3 hR3 hl3 hg3
  go_wp2_with fail
  refine (clone_any party _ HSZ.out).mono ?_
  rintro e w4 ⟨rfl, hb4⟩
  have HR4 := Lib.hid (HR3.out.grown (only_of_below hb4 none) (by simp))
  have HB4 : Hid (Below w.heap.size w w4) := Lib.hid (HB3.out.trans (hb4.mono HB3.out.size))
  have HRB4 := Lib.hid (((only_of_below hb4 none).block _ (blk_lt HRB3.out) (by simp)).trans HRB3.out)
  clear hb4
  go_wp2_with fail
  refine (get_any p s3 b at3 70 10 _ (HR4.out.alloc _) HL3.out hat3 hb (by decide) (by decide)).mono ?_
  rintro e w5 ⟨v1, v2, n1, n2, rfl, hg5, hn1, hown1, hn2, hown2, at5, hat5, hR5, hl5⟩
  obtain ⟨A1, k1, rfl⟩ := own_form hown1
  obtain ⟨A2, k2, rfl⟩ := own_form hown2
  have hpq : p ≠ w4.heap.size := by have := blk_lt HR4.out; omega
  have hQ5 : w5.heap[w4.heap.size]? = some (.cells #[.int .i64 kind, .string party, .slice none 0 0, .slice none 0 0] 25 (0, 0)) :=
    (hg5.block w4.heap.size (by simp) (by intro h; injection h with h; exact hpq h.symm)).trans (heap_alloc_new w4 _)
  have hrl := blk_lt HRB4.out
  have hRB5 : w5.heap[w.heap.size]? = some (.cells cmd0 25 (0, 0)) :=
    (hg5.block w.heap.size (by simp; omega) (by intro h; injection h with h; have := HP.out; omega)).trans ((Below.heap_alloc w4 _ _ hrl).trans HRB4.out)
  have hB5 : Below w.heap.size w w5 := below_grown (HB4.out.alloc HB4.out.size _) hg5 (by have := HB4.out.size; simp; omega) (by rintro g ⟨rfl⟩; have := HP.out; omega)
  have q2 : w5.cell? ⟨w4.heap.size, 2, none⟩ = some (.slice none 0 0) := by rw [cell_p hQ5]; rfl
  have q3 : w5.cell? ⟨w4.heap.size, 3, none⟩ = some (.slice none 0 0) := by rw [cell_p hQ5]; rfl
  have f2 : w5.frozen? ⟨w4.heap.size, 2, none⟩ = false := frozen_p hQ5
  have f3 : w5.frozen? ⟨w4.heap.size, 3, none⟩ = false := frozen_p hQ5
  have hsz4 : w.heap.size < w4.heap.size := hrl
  have hg6 : w5.grownBy ((w5.setCell ⟨w4.heap.size, 2, none⟩ (.slice A1 n1 k1)).setCell ⟨w4.heap.size, 3, none⟩ (.slice A2 n2 k2)) (some w4.heap.size) := (grownBy_setCell w5 w4.heap.size 2 _).trans (grownBy_setCell _ w4.heap.size 3 _)
  have hQ6 : ((w5.setCell ⟨w4.heap.size, 2, none⟩ (.slice A1 n1 k1)).setCell ⟨w4.heap.size, 3, none⟩ (.slice A2 n2 k2)).heap[w4.heap.size]? = some (.cells #[.int .i64 kind, .string party, .slice A1 n1 k1, .slice A2 n2 k2] 25 (0, 0)) :=
    Go.Lib.heap_setCell_same (i := 3) (Go.Lib.heap_setCell_same (i := 2) hQ5 _) _
  have hown16 := hown1.kept hg6 (.inr (own_ne hown1 hQ5 (by decide)))
  have hown26 := hown2.kept hg6 (.inr (own_ne hown2 hQ5 (by decide)))
  have hR6 := hR5.grown hg6 (by intro h; injection h with h; exact hpq h.symm)
  have hRB6 := (hg6.block w.heap.size (blk_lt hRB5) (by intro h; injection h with h; omega)).trans hRB5
  have hB6 := below_grown hB5 hg6 hB5.size (by rintro g ⟨rfl⟩; omega)
  have HQ6 := Lib.hid hQ6
  have HOW1 := Lib.hid hown16
  have HOW2 := Lib.hid hown26
  have HR6 := Lib.hid hR6
  have HRB6 := Lib.hid hRB6
  have HB6 := Lib.hid hB6
  have HN1 := Lib.hid hn1
  have HN2 := Lib.hid hn2
  have HL5 := Lib.hid hl5
  clear hg5 hn1 hown1 hn2 hown2 hR5 hl5 hpq hQ5 hRB5 hB5 hg6 hQ6 hown16 hown26 hR6 hRB6 hB6 hrl hsz4
  go_wp2_with fail
  generalize (w5.setCell ⟨w4.heap.size, 2, none⟩ (.slice A1 n1 k1)).setCell ⟨w4.heap.size, 3, none⟩ (.slice A2 n2 k2) = W6 at HQ6 HOW1 HOW2 HR6 HRB6 HB6 ⊢
  clear q2 q3 f2 f3
  have hc : cmdR (bl b) = (((kind, (rText s2).1), (rGet 70 10 s3).1), (rGet 70 10 s3).2) := by
    simp only [cmdR, HKIND.out, HS2.out, HS3.out]
  obtain ⟨E, hEE⟩ : ∃ E, rEnd (rGet 70 10 s3).2 = E := ⟨_, rfl⟩
  have hend := end_any p (rGet 70 10 s3).2.e b at5 W6 HR6.out hat5 hb
  rw [← HL5.out] at hend
  have hend2 : Calls Tryz.prog 44 #[.pointer (some ⟨p, 0, none⟩)] W6 fun en w' => en = .returned (.int .i64 E) ∧ ∃ n, w' = W6.drewN n := by rw [← hEE]; exact hend
  have HEND := Lib.hid hend2
  have HC := Lib.hid hc
  have HEE := Lib.hid hEE
  clear hend hend2 hc hEE
  refine HEND.out.mono ?_
  rintro e1 w7 ⟨rfl, n7, rfl⟩
  have r0 : W6.cell? ⟨w.heap.size, 0, none⟩ = some (.int .i64 0) := by rw [cell_p HRB6.out]; rfl
  have r1 : W6.cell? ⟨w.heap.size, 1, none⟩ = some (.string ⟨#[]⟩) := by rw [cell_p HRB6.out]; rfl
  have r2 : W6.cell? ⟨w.heap.size, 2, none⟩ = some (.slice none 0 0) := by rw [cell_p HRB6.out]; rfl
  have r3 : W6.cell? ⟨w.heap.size, 3, none⟩ = some (.slice none 0 0) := by rw [cell_p HRB6.out]; rfl
  have rf0 : W6.frozen? ⟨w.heap.size, 0, none⟩ = false := frozen_p HRB6.out
  have rf1 : W6.frozen? ⟨w.heap.size, 1, none⟩ = false := frozen_p HRB6.out
  have rf2 : W6.frozen? ⟨w.heap.size, 2, none⟩ = false := frozen_p HRB6.out
  have rf3 : W6.frozen? ⟨w.heap.size, 3, none⟩ = false := frozen_p HRB6.out
  by_cases hE : E = 0
  · subst hE
    have p0 : W6.cell? ⟨w4.heap.size, 0, none⟩ = some (.int .i64 kind) := by rw [cell_p HQ6.out]; rfl
    have p1 : W6.cell? ⟨w4.heap.size, 1, none⟩ = some (.string party) := by rw [cell_p HQ6.out]; rfl
    have p2 : W6.cell? ⟨w4.heap.size, 2, none⟩ = some (.slice A1 n1 k1) := by rw [cell_p HQ6.out]; rfl
    have p3 : W6.cell? ⟨w4.heap.size, 3, none⟩ = some (.slice A2 n2 k2) := by rw [cell_p HQ6.out]; rfl
    have h7 := set4 (w7 := W6.drewN n7) HRB6.out (.int .i64 kind) (.string party) (.slice A1 n1 k1) (.slice A2 n2 k2)
    have g7 := grown4 (W6.drewN n7) w.heap.size (.int .i64 kind) (.string party) (.slice A1 n1 k1) (.slice A2 n2 k2)
    have H7 := Lib.hid h7
    have G7 := Lib.hid g7
    clear h7 g7
    go_wp2_with fail
    generalize ((((W6.drewN n7).setCell ⟨w.heap.size, 0, none⟩ (.int .i64 kind)).setCell ⟨w.heap.size, 1, none⟩ (.string party)).setCell ⟨w.heap.size, 2, none⟩ (.slice A1 n1 k1)).setCell ⟨w.heap.size, 3, none⟩ (.slice A2 n2 k2) = W7 at H7 G7 ⊢
    have e0 : W7.cell? ⟨w.heap.size, 0, none⟩ = some (.int .i64 kind) := by rw [cell_p H7.out]; rfl
    have e1 : W7.cell? ⟨w.heap.size, 1, none⟩ = some (.string party) := by rw [cell_p H7.out]; rfl
    have e2 : W7.cell? ⟨w.heap.size, 2, none⟩ = some (.slice A1 n1 k1) := by rw [cell_p H7.out]; rfl
    have e3 : W7.cell? ⟨w.heap.size, 3, none⟩ = some (.slice A2 n2 k2) := by rw [cell_p H7.out]; rfl
    refine bodyPost_ret (v := .tuple #[.agg #[.int .i64 kind, .string party, .slice A1 n1 k1, .slice A2 n2 k2], .int .i64 0]) (by simp [results, Tryz.results11, go_sem, e0, e1, e2, e3]) rfl ?_
    have hbs := HB4.out.size
    refine ⟨below_grown (below_drewN' HB6.out n7) G7.out HB6.out.size (by rintro g ⟨rfl⟩; exact Nat.le_refl _), .inl ⟨by rw [HC.out]; exact HEE.out, .slice A1 n1 k1, .slice A2 n2 k2, n1, n2, by rw [HC.out, HPARTY.out], by rw [HC.out]; exact HN1.out, ?_, by rw [HC.out]; exact HN2.out, ?_⟩⟩
    · rw [HC.out]
      exact (show (W6.drewN n7).ownsRow w.heap.size _ _ _ _ _ from own_base HOW1.out (by simp; omega)).kept G7.out (.inr (own_ne HOW1.out HRB6.out (by decide)))
    · rw [HC.out]
      exact (show (W6.drewN n7).ownsRow w.heap.size _ _ _ _ _ from own_base HOW2.out (by simp; omega)).kept G7.out (.inr (own_ne HOW2.out HRB6.out (by decide)))
  · have hb1 : (E == 0) = false := by simpa using hE
    have hb2 : (E != 0) = true := by simpa using hE
    have HE := Lib.hid hE
    clear hE
    have h7 := set4 (w7 := W6.drewN n7) HRB6.out (.int .i64 0) (.string ⟨#[]⟩) (.slice none 0 0) (.slice none 0 0)
    have g7 := grown4 (W6.drewN n7) w.heap.size (.int .i64 0) (.string ⟨#[]⟩) (.slice none 0 0) (.slice none 0 0)
    have H7 := Lib.hid h7
    have G7 := Lib.hid g7
    clear h7 g7
    go_wp2_with fail
    generalize ((((W6.drewN n7).setCell ⟨w.heap.size, 0, none⟩ (.int .i64 0)).setCell ⟨w.heap.size, 1, none⟩ (.string ⟨#[]⟩)).setCell ⟨w.heap.size, 2, none⟩ (.slice none 0 0)).setCell ⟨w.heap.size, 3, none⟩ (.slice none 0 0) = W7 at H7 G7 ⊢
    have e0 : W7.cell? ⟨w.heap.size, 0, none⟩ = some (.int .i64 0) := by rw [cell_p H7.out]; rfl
    have e1 : W7.cell? ⟨w.heap.size, 1, none⟩ = some (.string ⟨#[]⟩) := by rw [cell_p H7.out]; rfl
    have e2 : W7.cell? ⟨w.heap.size, 2, none⟩ = some (.slice none 0 0) := by rw [cell_p H7.out]; rfl
    have e3 : W7.cell? ⟨w.heap.size, 3, none⟩ = some (.slice none 0 0) := by rw [cell_p H7.out]; rfl
    refine bodyPost_ret (v := .tuple #[.agg cmd0, .int .i64 E]) (by simp [results, Tryz.results11, go_sem, e0, e1, e2, e3, cmd0]) rfl ?_
    exact ⟨below_grown (below_drewN' HB6.out n7) G7.out HB6.out.size (by rintro g ⟨rfl⟩; exact Nat.le_refl _), .inr ⟨by rw [HC.out]; show rEnd (rGet 70 10 s3).2 ≠ 0; rw [HEE.out]; exact HE.out, by rw [HC.out]; show _ = Ending.returned (.tuple #[.agg cmd0, .int .i64 (rEnd (rGet 70 10 s3).2)]); rw [HEE.out]⟩⟩
end Go.Proofs.YthlpdficpmdebaaGreat.Wire
