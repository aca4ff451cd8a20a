/- (*complineref1.Writer).Fail, Num, Text, Bytes. -/
import Derived.Test.YthlpdficpmdebaaGreatJ6
import Derived.Test.YthlpdficpmdebaaGreatJ4
namespace Go.Proofs.YthlpdficpmdebaaGreat.Wire
open Go Go.RowKit Go.Lib
theorem KeepsU.set1 {p : Nat} {w : World} {v e : Value} {t : TypeId} (hp : w.heap[p]? = some (.cells #[v, e] t (0, 0))) (u : Value) : KeepsU p w (w.setCell ⟨p, 1, none⟩ u) := ⟨(grownBy_setCell w p 1 u).size, fun B hB hr =>
  ⟨fun b hb hbp => (grownBy_setCell w p 1 u).block b (by omega) (fun h => hbp (Option.some.inj h)), fun v' e' t' fr' h => by
    have h1 := Go.Lib.heap_setCell_same (i := 1) hp u
    rw [h1] at h
    simp only [Option.some.injEq, Obj.cells.injEq] at h
    have h3 : #[v, u] = #[v', e'] := h.1
    have h4 : v = v' := by have h5 := congrArg Array.toList h3; injection h5
    rw [← h4]
    exact hr v e t (0, 0) hp⟩⟩
def RWrS (B p : Nat) (s : WS) (w : World) : Prop := (s.e = 0 → RWr B p 0 s.l w) ∧ (s.e ≠ 0 → ∃ l, RWr B p s.e l w)
theorem RWrS.ok {B p : Nat} {s : WS} {w : World} (h : s.e = 0) (k : RWr B p 0 s.l w) : RWrS B p s w := ⟨fun _ => k, fun h' => absurd h h'⟩
theorem RWrS.bad {B p : Nat} {s : WS} {l : List UInt8} {w : World} (h : s.e ≠ 0) (k : RWr B p s.e l w) : RWrS B p s w := ⟨fun h' => absurd h' h, fun _ => ⟨l, k⟩⟩
theorem RWr.fail {B p : Nat} {e : Int} {l : List UInt8} {w : World} (h : RWr B p e l w) (x : Int) : RWr B p x l (w.setCell ⟨p, 1, none⟩ (.int .i64 x)) := by
  obtain ⟨hB, v, hp, hown, hne⟩ := h
  exact ⟨hB, v, Go.Lib.heap_setCell_same (i := 1) hp _, hown.kept (grownBy_setCell w p 1 _) (Or.inr hne), hne⟩
theorem rwfail_ok (B p : Nat) (x : Int) (l : List UInt8) (w : World) (h : RWr B p 0 l w) :
    Calls Tryz.prog 137 #[.pointer (some ⟨p, 0, none⟩), .int .i64 x] w fun en w' => (∃ u, en = .returned u) ∧ w.setCell ⟨p, 1, none⟩ (.int .i64 x) = w' := by
  obtain ⟨d0, d1, d2⟩ := h.cells
  clear h
  go_enter Tryz.func137, Tryz.ntmps137
  go_wp2
  go_end0
  exact ⟨⟨_, rfl⟩, rfl⟩
theorem rwfail_bad (B p : Nat) (e x : Int) (he : e ≠ 0) (l : List UInt8) (w : World) (h : RWr B p e l w) :
    Calls Tryz.prog 137 #[.pointer (some ⟨p, 0, none⟩), .int .i64 x] w fun en w' => (∃ u, en = .returned u) ∧ w = w' := by
  obtain ⟨d0, d1, d2⟩ := h.cells
  clear h
  have hb1 : (e == 0) = false := by simpa using he
  go_enter Tryz.func137, Tryz.ntmps137
  go_wp2
  go_end0
  exact ⟨⟨_, rfl⟩, rfl⟩
theorem rwnum_bad (B p : Nat) (e v : Int) (he : e ≠ 0) (l : List UInt8) (w : World) (h : RWr B p e l w) :
    Calls Tryz.prog 35 #[.pointer (some ⟨p, 0, none⟩), .int .i64 v] w fun en w' => (∃ u, en = .returned u) ∧ w = w' := by
  obtain ⟨d0, d1, d2⟩ := h.cells
  clear h
  have hb2 : (e != 0) = true := by simpa using he
  go_enter Tryz.func35, Tryz.ntmps35
  go_wp2_with fail
  refine bodyPost_ret (results_none rfl _ _ _) rfl ?_
  exact ⟨⟨_, rfl⟩, rfl⟩
theorem rwnum_s (B p : Nat) (s : WS) (v : Int) (w : World) (h : RWrS B p s w) (hv : okI v) (hl : s.e = 0 → s.l.length ≤ 2000000000000) :
    Calls Tryz.prog 35 #[.pointer (some ⟨p, 0, none⟩), .int .i64 v] w fun en w' => (∃ u, en = .returned u) ∧ RWrS B p (wNum v s) w' ∧ Below B w w' ∧ Keeps p w w' ∧ KeepsU p w w' := by
  by_cases he : s.e = 0
  · refine (rwnum_any B p v s.l w (h.1 he) hv (hl he)).mono ?_
    rintro e w' ⟨hu, hW, hb⟩
    refine ⟨hu, ?_, hb⟩
    rw [wNum, if_neg (by omega)]
    exact .ok rfl hW
  · obtain ⟨l, hl⟩ := h.2 he
    refine (rwnum_bad B p s.e v he l w hl).mono ?_
    rintro e w' ⟨hu, rfl⟩
    refine ⟨hu, ?_, Below.refl _ _, Keeps.refl _ _, KeepsU.refl _ _⟩
    rw [wNum, if_pos he]
    exact h
set_option maxRecDepth 20000 in
theorem rwtext_any (B p : Nat) (x : ByteArray) (l : List UInt8) (w : World) (h : RWr B p 0 l w) (hx : x.size ≤ 1000) (hl : l.length ≤ 1000000000000) :
    Calls Tryz.prog 36 #[.pointer (some ⟨p, 0, none⟩), .string x] w fun en w' => (∃ u, en = .returned u) ∧ RWr B p 0 (l ++ tb x) w' ∧ Below B w w' ∧ Keeps p w w' ∧ KeepsU p w w' := by
  obtain ⟨i0, hi0, hz0, hz1, hz2⟩ := info_parts u8_info
  obtain ⟨d0, d1, d2⟩ := h.cells
  have HW := Lib.hid h
  have HLL := Lib.hid hl
  have HNB := Lib.hid (vb_len10 (zz_lt (v := (x.size : Int)) (by omega) (by omega)))
  clear h hl
  go_enter Tryz.func36, Tryz.ntmps36
  go_wp2_with (first
    | (go_at_call 35
       refine (rwnum_any B p (x.size : Int) _ _ HW.out ⟨by omega, by omega⟩ (by have := HLL.out; omega)).mono ?_
       rintro e w1 ⟨⟨u, rfl⟩, ⟨hB, v1, hp1, hown1, hne1⟩, hb1, hkp1, hku1⟩
       obtain ⟨N1, hN1⟩ : ∃ N, (l ++ numB (x.size : Int)).length = N := ⟨_, rfl⟩
       rw [hN1] at hown1
       have HN1 := Lib.hid hN1
       clear hN1
       have e0 : w1.cell? ⟨p, 0, none⟩ = some v1 := (by rw [cell_p hp1]; rfl)
       have HP1 := Lib.hid hp1
       have hbs1 : B ≤ w1.heap.size := (by have := hb1.size; omega)
       clear hp1)
    | (at_builtin
       refine wpList_append_own_string _ rfl (.tmp 22) (.tmp 23) _ _ rfl (ownAt v1 w1) 5 i0 Tryz.underlying91 Tryz.underlying9 hi0 hz0 hz1 hz2 v1 _ _ rfl (own_at hown1) x rfl (by have h1 := HLL.out; have h3 := HNB.out; have h4 := HN1.out; simp only [List.length_append, numB] at h3 h4 ⊢; unfold maxLen; omega) (by have h1 := HLL.out; have h3 := HNB.out; have h4 := HN1.out; simp only [List.length_append, numB] at h3 h4 ⊢; omega) (own_at_size hown1) ?_
       intro v2 w2 hownA hg2 _
       have hown2 := own_down hownA (own_at_le (B := B) hbs1 (own_ge hown1))
       obtain ⟨g2, cap2, rfl, hf2, hf3⟩ := hownA.form (by have := vb_pos (zz (x.size : Int)); have h4 := HN1.out; simp only [List.length_append, numB] at h4; omega)
       have hp2 := (hg2.block p (blk_lt HP1.out) (fun hh => own_ne hown1 HP1.out (by decide) hh.symm)).trans HP1.out
       have e1 : w2.cell? ⟨p, 0, none⟩ = some v1 := (by rw [cell_p hp2]; rfl)
       have e2 : w2.frozen? ⟨p, 0, none⟩ = false := frozen_p hp2
       clear hp2))
  go_end0
  have hst := RWr.step x.data.toList hB HP1.out (by rw [HN1.out]; exact hown1) hown2 (by rw [HN1.out, sz]) (by rw [strB]) hg2
  rw [List.append_assoc] at hst
  have he : tb x = numB (x.size : Int) ++ x.data.toList := by rw [tb, textB, sz]
  refine ⟨⟨_, rfl⟩, ?_, (below_grown hb1 hg2 hbs1 (own_ge hown1)).setCell (p := ⟨p, 0, none⟩) hB _, hkp1.trans (Keeps.put0 hown1 hg2 _), hku1.trans (KeepsU.put HP1.out hne1 hg2 hownA)⟩
  rw [he]
  exact hst
theorem rwtext_bad (B p : Nat) (e : Int) (he : e ≠ 0) (x : ByteArray) (l : List UInt8) (w : World) (h : RWr B p e l w) :
    Calls Tryz.prog 36 #[.pointer (some ⟨p, 0, none⟩), .string x] w fun en w' => (∃ u, en = .returned u) ∧ w = w' := by
  obtain ⟨d0, d1, d2⟩ := h.cells
  have HW := Lib.hid h
  clear h
  have hb1 : (e == 0) = false := by simpa using he
  have hb2 : (e != 0) = true := by simpa using he
  by_cases hx : x.size ≤ 1000
  all_goals
    go_enter Tryz.func36, Tryz.ntmps36
    go_wp2_with (go_at_call 137; refine (rwfail_bad B p e 2 he l _ HW.out).mono ?_; rintro e1 w1 ⟨⟨u, rfl⟩, rfl⟩)
    go_end0
    exact ⟨⟨_, rfl⟩, rfl⟩
theorem rwtext_long (B p : Nat) (x : ByteArray) (l : List UInt8) (w : World) (h : RWr B p 0 l w) (hx : 1000 < x.size) :
    Calls Tryz.prog 36 #[.pointer (some ⟨p, 0, none⟩), .string x] w fun en w' => (∃ u, en = .returned u) ∧ RWr B p 2 l w' ∧ Below B w w' ∧ Keeps p w w' ∧ KeepsU p w w' := by
  have HW := Lib.hid h
  have HF := Lib.hid (h.fail 2)
  have hB := h.1
  clear h
  have k0 : (w.setCell ⟨p, 1, none⟩ (.int .i64 2)).cell? ⟨p, 1, none⟩ = some (.int .i64 2) := HF.out.cells.1
  go_enter Tryz.func36, Tryz.ntmps36
  go_wp2_with (go_at_call 137; refine (rwfail_ok B p 2 l _ HW.out).mono ?_; rintro e1 w1 ⟨⟨u, rfl⟩, rfl⟩)
  go_end0
  obtain ⟨_, v9, hp9, _⟩ := HW.out
  exact ⟨⟨_, rfl⟩, HF.out, (Below.refl _ _).setCell (p := ⟨p, 1, none⟩) hB _, Keeps.set p 1 w _, KeepsU.set1 hp9 _⟩
theorem rwtext_s (B p : Nat) (s : WS) (x : ByteArray) (w : World) (h : RWrS B p s w) (hl : s.e = 0 → s.l.length ≤ 1000000000000) :
    Calls Tryz.prog 36 #[.pointer (some ⟨p, 0, none⟩), .string x] w fun en w' => (∃ u, en = .returned u) ∧ RWrS B p (wText (bl8 x) s) w' ∧ Below B w w' ∧ Keeps p w w' ∧ KeepsU p w w' := by
  have hz := sz x
  by_cases he : s.e = 0
  · by_cases hx : x.size ≤ 1000
    · refine (rwtext_any B p x s.l w (h.1 he) hx (hl he)).mono ?_
      rintro e w' ⟨hu, hW, hb⟩
      refine ⟨hu, ?_, hb⟩
      rw [wText, if_neg (by omega), if_neg (by unfold bl8; omega)]
      exact .ok rfl hW
    · refine (rwtext_long B p x s.l w (h.1 he) (by omega)).mono ?_
      rintro e w' ⟨hu, hW, hb⟩
      refine ⟨hu, ?_, hb⟩
      rw [wText, if_neg (by omega), if_pos (by unfold bl8; omega)]
      exact .bad (by simp) hW
  · obtain ⟨l, hl⟩ := h.2 he
    refine (rwtext_bad B p s.e he x l w hl).mono ?_
    rintro e w' ⟨hu, rfl⟩
    refine ⟨hu, ?_, Below.refl _ _, Keeps.refl _ _, KeepsU.refl _ _⟩
    rw [wText, if_pos he]
    exact h
/-- What was put, as a string. -/
theorem rwbytes_any (B p : Nat) (l : List UInt8) (w : World) (h : RWr B p 0 l w) :
    Calls Tryz.prog 38 #[.pointer (some ⟨p, 0, none⟩)] w fun en w' => en = .returned (.tuple #[.string ⟨l.toArray⟩, .int .i64 0]) ∧ ∃ n, w' = w.drewN n := by
  obtain ⟨hB, v, hp, hown, hne⟩ := h
  have d0 : w.cell? ⟨p, 1, none⟩ = some (.int .i64 0) := by rw [cell_p hp]; rfl
  have d1 : w.cell? ⟨p, 0, none⟩ = some v := by rw [cell_p hp]; rfl
  have hcv := conv_row hown
  clear hp hown hne
  go_enter Tryz.func38, Tryz.ntmps38
  go_wp2_with fail
  go_ret2
  exact ⟨rfl, 0, rfl⟩
theorem rwbytes_bad (B p : Nat) (e : Int) (he : e ≠ 0) (l : List UInt8) (w : World) (h : RWr B p e l w) :
    Calls Tryz.prog 38 #[.pointer (some ⟨p, 0, none⟩)] w fun en w' => en = .returned (.tuple #[.string ⟨#[]⟩, .int .i64 e]) ∧ ∃ n, w' = w.drewN n := by
  obtain ⟨d0, d1, d2⟩ := h.cells
  clear h
  have hb1 : (e == 0) = false := by simpa using he
  have hb2 : (e != 0) = true := by simpa using he
  go_enter Tryz.func38, Tryz.ntmps38
  go_wp2_with fail
  go_quiet (fail)
  go_wp2_with fail
  go_ret2
  exact ⟨rfl, _, rfl⟩
end Go.Proofs.YthlpdficpmdebaaGreat.Wire
/- complineref28.lay, Put, PutReply: the document's bytes of a command and of a reply, and that the program's are the same. -/
namespace Go.Proofs.YthlpdficpmdebaaGreat.Wire
open Go Go.RowKit Go.Lib
def wLay (nums : List Int) (texts : List ByteArray) (s : WS) : WS := wTexts texts (wNum (texts.length : Int) (wNums nums (wNum (nums.length : Int) s)))
theorem wNums_len {nums : List Int} (h : ∀ x ∈ nums, okI x) (s : WS) : (wNums nums s).l.length ≤ s.l.length + 10 * nums.length :=
  fold_len nums s fun x hx s => wNum_len (h x hx) s
theorem wTexts_len (texts : List ByteArray) (s : WS) : (wTexts texts s).l.length ≤ s.l.length + 1010 * texts.length :=
  fold_len texts s fun x _ s => wText_len (bl8 x) s
theorem wNums_next (nums : List Int) (s : WS) (k : Nat) (x : Int) (h : nums[k]? = some x) : wNums (nums.take (k + 1)) s = wNum x (wNums (nums.take k) s) := by
  have e : nums.take (k + 1) = nums.take k ++ [x] := by rw [List.take_add_one, h]; rfl
  unfold wNums
  rw [e, List.foldl_append]
  rfl
theorem wTexts_next (xs : List ByteArray) (s : WS) (k : Nat) (x : ByteArray) (h : xs[k]? = some x) : wTexts (xs.take (k + 1)) s = wText (bl8 x) (wTexts (xs.take k) s) := by
  have e : xs.take (k + 1) = xs.take k ++ [x] := by rw [List.take_add_one, h]; rfl
  unfold wTexts
  rw [e, List.foldl_append]
  rfl
theorem RWr.alloc {B p : Nat} {e : Int} {l : List UInt8} {w : World} (h : RWr B p e l w) (o : Obj) : RWr B p e l (w.alloc o) := by
  obtain ⟨hB, v, hp, hown, hne⟩ := h
  exact ⟨hB, v, (Below.heap_alloc w o p (blk_lt hp)).trans hp, hown.alloc _, hne⟩
theorem RWrS.alloc {B p : Nat} {s : WS} {w : World} (h : RWrS B p s w) (o : Obj) : RWrS B p s (w.alloc o) :=
  ⟨fun he => (h.1 he).alloc o, fun he => by obtain ⟨l, hl⟩ := h.2 he; exact ⟨l, hl.alloc o⟩⟩
theorem RWr.le {B p : Nat} {e : Int} {l : List UInt8} {w : World} (h : RWr B p e l w) : B ≤ p ∧ p < w.heap.size := by
  obtain ⟨hB, v, hp, _⟩ := h
  exact ⟨hB, blk_lt hp⟩
theorem RWrS.le {B p : Nat} {s : WS} {w : World} (h : RWrS B p s w) : B ≤ p ∧ p < w.heap.size := by
  by_cases he : s.e = 0
  · exact (h.1 he).le
  · obtain ⟨l, hl⟩ := h.2 he; exact hl.le
set_option maxRecDepth 20000 in
set_option maxHeartbeats 1000000 in
theorem layD_any (B p : Nat) (s0 : WS) (A : Option Addr) (n c : Nat) (nums : List Int) (A' : Option Addr) (m c' : Nat) (texts : List ByteArray) (w : World) (h : RWrS B p s0 w) (hr : Rows2 w B A n nums A' m texts) (hn2 : n ≤ 2000) (hm2 : m ≤ 100) (hl : s0.l.length ≤ 1000000) :
    Calls Tryz.prog 37 #[.pointer (some ⟨p, 0, none⟩), .slice A n c, .slice A' m c'] w fun en w' => (∃ u, en = .returned u) ∧ RWrS B p (wLay nums texts s0) w' ∧ Below B w w' := by
  have HW := Lib.hid h
  have HR := Lib.hid hr
  have HLL := Lib.hid hl
  clear h hr hl
  go_enter Tryz.func37, Tryz.ntmps37
  go_wp2_with fail
  refine (rwnum_s B p s0 (n : Int) _ HW.out (nat_ok (by omega)) (fun _ => by have := HLL.out; omega)).mono ?_
  rintro e w1 ⟨⟨u, rfl⟩, hW1, hb1, -⟩
  have HW1 := Lib.hid hW1
  have HB1 := Lib.hid hb1
  clear hW1 hb1
  go_wp2_with fail
  go_loopw [6] (fun i wr => ∃ j : Nat, i = .int .i64 j ∧ j ≤ n ∧ RWrS B p (wNums (nums.take j) (wNum (n : Int) s0)) wr ∧ Below B w wr) (fun i _ => n - (intOf i).toNat)
  case atStart => exact ⟨0, rfl, Nat.zero_le _, HW1.out, HB1.out⟩
  case round =>
    obtain ⟨j, rfl, hj, hA, hb⟩ := hrel
    have HA := Lib.hid hA
    have HB := Lib.hid hb
    clear hA hb
    by_cases hlt : j < n
    · have hjl : j < nums.length := by have := HR.out.n_; omega
      have hjy : nums[j]? = some nums[j] := List.getElem?_eq_getElem hjl
      have HY := Lib.hid (HR.out.ok _ (List.getElem_mem hjl))
      obtain ⟨ad, rfl, hcs⟩ := (HR.out.iat.below HR.out.ib HB.out) (by intro e0; rw [e0] at hjl; simp at hjl)
      have hcell := hcs j _ hjy
      have HJY := Lib.hid hjy
      generalize nums[j] = y at hcell HY HJY
      clear hjl hjy hcs
      obtain ⟨st, hst⟩ : ∃ st, wNums (nums.take j) (wNum (n : Int) s0) = st := ⟨_, rfl⟩
      have hlen : st.l.length ≤ 1100000 := by
        have h1 := wNums_len (nums := nums.take j) (fun x hx => HR.out.ok x (List.mem_of_mem_take hx)) (wNum (n : Int) s0)
        have h2 := wNum_len (nat_ok (n := n) (by omega)) s0
        have h3 := HLL.out
        have h4 : (nums.take j).length ≤ j := by rw [List.length_take]; omega
        rw [hst] at h1
        omega
      rw [hst] at HA
      have HST := Lib.hid hst
      have HLEN := Lib.hid hlen
      clear hst hlen
      go_wp2_with fail
      refine (rwnum_s B p st y _ HA.out HY.out (fun _ => by have := HLEN.out; omega)).mono ?_
      rintro e w2 ⟨⟨u2, rfl⟩, hW2, hb2, -⟩
      have HW2 := Lib.hid hW2
      have HB2 := Lib.hid (HB.out.trans hb2)
      clear hW2 hb2
      go_wp2_with fail
      go_roundw
      case rel =>
        refine ⟨j + 1, by go_num, by omega, ?_, HB2.out⟩
        rw [wNums_next _ _ _ _ HJY.out, HST.out]
        exact HW2.out
      case measure => simp [intOf]; omega
    · have HAN : Hid (RWrS B p (wNums nums (wNum (n : Int) s0)) wr) := Lib.hid (by
        have h := HA.out
        rw [List.take_of_length_le (by have := HR.out.n_; omega)] at h
        exact h)
      clear hj HA
      obtain ⟨s1, hs1⟩ : ∃ s1, wNums nums (wNum (n : Int) s0) = s1 := ⟨_, rfl⟩
      rw [hs1] at HAN
      have hlen1 : s1.l.length ≤ 1100000 := by
        have h1 := wNums_len HR.out.ok (wNum (n : Int) s0)
        have h2 := wNum_len (nat_ok (n := n) (by omega)) s0
        have h3 := HLL.out
        have h4 := HR.out.n_
        rw [hs1] at h1
        omega
      have HS1 := Lib.hid hs1
      have HLEN1 := Lib.hid hlen1
      clear hs1 hlen1
      go_wp2_with fail
      refine (rwnum_s B p s1 (m : Int) _ HAN.out (nat_ok (by omega)) (fun _ => by have := HLEN1.out; omega)).mono ?_
      rintro e w2 ⟨⟨u2, rfl⟩, hW2, hb2, -⟩
      have HW2 := Lib.hid hW2
      have HB2 := Lib.hid (HB.out.trans hb2)
      clear hW2 hb2
      go_wp2_with fail
      go_loopw [7] (fun i wr => ∃ j : Nat, i = .int .i64 j ∧ j ≤ m ∧ RWrS B p (wTexts (texts.take j) (wNum (m : Int) s1)) wr ∧ Below B w wr) (fun i _ => m - (intOf i).toNat)
      case atStart => exact ⟨0, rfl, Nat.zero_le _, HW2.out, HB2.out⟩
      case round =>
        obtain ⟨j, rfl, hj, hA, hb⟩ := hrel
        have HA := Lib.hid hA
        have HB3 := Lib.hid hb
        clear hA hb
        by_cases hlt : j < m
        · have hjl : j < texts.length := by have := HR.out.m_; omega
          have hjy : texts[j]? = some texts[j] := List.getElem?_eq_getElem hjl
          obtain ⟨ad, rfl, hcs⟩ := (HR.out.tat.below HR.out.tb HB3.out) (by intro e0; rw [e0] at hjl; simp at hjl)
          have hcell := hcs j _ hjy
          have HJY := Lib.hid hjy
          generalize texts[j] = y at hcell HJY
          clear hjl hjy hcs
          obtain ⟨st, hst⟩ : ∃ st, wTexts (texts.take j) (wNum (m : Int) s1) = st := ⟨_, rfl⟩
          have hlen : st.l.length ≤ 1300000 := by
            have h1 := wTexts_len (texts.take j) (wNum (m : Int) s1)
            have h2 := wNum_len (nat_ok (n := m) (by omega)) s1
            have h3 := HLEN1.out
            have h4 : (texts.take j).length ≤ j := by rw [List.length_take]; omega
            rw [hst] at h1
            omega
          rw [hst] at HA
          have HST := Lib.hid hst
          have HLEN := Lib.hid hlen
          clear hst hlen
          go_wp2_with fail
          refine (rwtext_s B p st y _ HA.out (fun _ => by have := HLEN.out; omega)).mono ?_
          rintro e w4 ⟨⟨u4, rfl⟩, hW4, hb4, -⟩
          have HW4 := Lib.hid hW4
          have HB4 := Lib.hid (HB3.out.trans hb4)
          clear hW4 hb4
          go_wp2_with fail
          go_roundw
          case rel =>
            refine ⟨j + 1, by go_num, by omega, ?_, HB4.out⟩
            rw [wTexts_next _ _ _ _ HJY.out, HST.out]
            exact HW4.out
          case measure => simp [intOf]; omega
        · have HEND : Hid (RWrS B p (wLay nums texts s0) wr) := Lib.hid (by
            have h := HA.out
            rw [List.take_of_length_le (by have := HR.out.m_; omega)] at h
            have e : wLay nums texts s0 = wTexts texts (wNum (m : Int) s1) := by rw [wLay, HR.out.m_, HR.out.n_, HS1.out]
            rw [e]
            exact h)
          go_wp2_with fail
          go_end0
          exact ⟨⟨_, rfl⟩, HEND.out, HB3.out⟩
/-- What the document's writer hands back. -/
def bytesV (s : WS) : Value := if s.e = 0 then .tuple #[.string ⟨s.l.toArray⟩, .int .i64 0] else .tuple #[.string ⟨#[]⟩, .int .i64 s.e]
def longV : Value := .tuple #[.string ⟨#[]⟩, .int .i64 2]
def cmdS (kind : Int) (party : ByteArray) (nums : List Int) (texts : List ByteArray) : WS := wLay nums texts (wText (bl8 party) (wNum kind ⟨0, []⟩))
def repS (err : Int) (nums : List Int) (texts : List ByteArray) : WS := wLay nums texts (wNum err ⟨0, []⟩)
def cmdV (kind : Int) (party : ByteArray) (nums : List Int) (texts : List ByteArray) : Value := if 70 < nums.length ∨ 10 < texts.length then longV else bytesV (cmdS kind party nums texts)
def repV (err : Int) (nums : List Int) (texts : List ByteArray) : Value := if 2000 < nums.length ∨ 100 < texts.length then longV else bytesV (repS err nums texts)
theorem rwbytes_s (B p : Nat) (s : WS) (w : World) (h : RWrS B p s w) : Calls Tryz.prog 38 #[.pointer (some ⟨p, 0, none⟩)] w fun en w' => en = .returned (bytesV s) ∧ ∃ n, w' = w.drewN n := by
  by_cases e : s.e = 0
  · refine (rwbytes_any B p s.l w (h.1 e)).mono ?_
    rintro en w' ⟨h1, h2⟩
    exact ⟨by rw [h1, bytesV, if_pos e], h2⟩
  · obtain ⟨l, hl⟩ := h.2 e
    refine (rwbytes_bad B p s.e e l w hl).mono ?_
    rintro en w' ⟨h1, h2⟩
    exact ⟨by rw [h1, bytesV, if_neg e], h2⟩
theorem wLay_ok {nums : List Int} {texts : List ByteArray} {s : WS} (h : s.e = 0) (ht : ∀ x ∈ texts, x.size ≤ 1000) : wLay nums texts s = ⟨0, s.l ++ putB nums (texts.map bl)⟩ := by
  have e1 : wNum (nums.length : Int) s = ⟨0, s.l ++ numB nums.length⟩ := by rw [wNum, if_neg (by omega)]
  have e2 := wNums_ok nums ⟨0, s.l ++ numB nums.length⟩ rfl
  unfold wLay
  rw [e1, e2, wNum, if_neg (by simp), wTexts_ok texts _ rfl ht]
  simp only [putB, List.length_map, map_tb, List.append_assoc]
theorem wLay_long {nums : List Int} {texts : List ByteArray} {s : WS} (h : s.e = 0) (ht : ∃ x ∈ texts, 1000 < x.size) : (wLay nums texts s).e = 2 := by
  have e1 : wNum (nums.length : Int) s = ⟨0, s.l ++ numB nums.length⟩ := by rw [wNum, if_neg (by omega)]
  have e2 := wNums_ok nums ⟨0, s.l ++ numB nums.length⟩ rfl
  unfold wLay
  rw [e1, e2, wNum, if_neg (by simp)]
  exact wTexts_long texts _ rfl ht
theorem wLay_bad {nums : List Int} {texts : List ByteArray} {s : WS} (h : s.e ≠ 0) : wLay nums texts s = s := by
  have e1 : ∀ v, wNum v s = s := fun v => by rw [wNum, if_pos h]
  unfold wLay
  rw [e1, wNums_bad h, e1, wTexts_bad h]
theorem bl8_len (s : ByteArray) : (bl8 s).length = s.size := sz s
/-- A command's bytes, told as the program tells them. -/
theorem cmdV_eq (kind : Int) (party : ByteArray) (nums : List Int) (texts : List ByteArray) : cmdV kind party nums texts =
    if party.size ≤ 1000 ∧ nums.length ≤ 70 ∧ texts.length ≤ 10 ∧ ∀ x ∈ texts, x.size ≤ 1000 then .tuple #[.string ⟨(cmdB kind (bl party) nums (texts.map bl)).toArray⟩, .int .i64 0] else longV := by
  have e0 : wNum kind ⟨0, []⟩ = ⟨0, numB kind⟩ := by rw [wNum, if_neg (by simp)]; rfl
  unfold cmdV
  by_cases h1 : 70 < nums.length ∨ 10 < texts.length
  · rw [if_pos h1, if_neg (by intro ⟨_, a, b, _⟩; omega)]
  rw [if_neg h1]
  by_cases h2 : party.size ≤ 1000
  · have e1 : wText (bl8 party) ⟨0, numB kind⟩ = ⟨0, numB kind ++ textB (bl8 party)⟩ := by rw [wText, if_neg (by simp), if_neg (by rw [bl8_len]; omega)]
    by_cases h3 : ∀ x ∈ texts, x.size ≤ 1000
    · rw [if_pos ⟨h2, by omega, by omega, h3⟩, cmdS, e0, e1, wLay_ok rfl h3, bytesV, if_pos rfl]
      simp only [cmdB, List.append_assoc]
      rfl
    · rw [if_neg (by intro ⟨_, _, _, d⟩; exact h3 d)]
      have h4 : ∃ x ∈ texts, 1000 < x.size := by
        by_cases h : ∃ x ∈ texts, 1000 < x.size
        · exact h
        · exact absurd (fun x hx => Nat.le_of_not_lt fun hl => h ⟨x, hx, hl⟩) h3
      have e2 := wLay_long (nums := nums) (s := ⟨0, numB kind ++ textB (bl8 party)⟩) rfl h4
      rw [cmdS, e0, e1, bytesV, if_neg (by rw [e2]; decide), e2]
      rfl
  · rw [if_neg (by intro ⟨a, _⟩; exact h2 a)]
    have e1 : wText (bl8 party) ⟨0, numB kind⟩ = ⟨2, numB kind⟩ := by rw [wText, if_neg (by simp), if_pos (by rw [bl8_len]; omega)]
    rw [cmdS, e0, e1, wLay_bad (by simp), bytesV, if_neg (by simp)]
    rfl
theorem repV_eq (err : Int) (nums : List Int) (texts : List ByteArray) : repV err nums texts =
    if nums.length ≤ 2000 ∧ texts.length ≤ 100 ∧ ∀ x ∈ texts, x.size ≤ 1000 then .tuple #[.string ⟨(repB err nums (texts.map bl)).toArray⟩, .int .i64 0] else longV := by
  have e0 : wNum err ⟨0, []⟩ = ⟨0, numB err⟩ := by rw [wNum, if_neg (by simp)]; rfl
  unfold repV
  by_cases h1 : 2000 < nums.length ∨ 100 < texts.length
  · rw [if_pos h1, if_neg (by intro ⟨a, b, _⟩; omega)]
  rw [if_neg h1]
  by_cases h3 : ∀ x ∈ texts, x.size ≤ 1000
  · rw [if_pos ⟨by omega, by omega, h3⟩, repS, e0, wLay_ok rfl h3, bytesV, if_pos rfl]
    rfl
  · rw [if_neg (by intro ⟨_, _, d⟩; exact h3 d)]
    have h4 : ∃ x ∈ texts, 1000 < x.size := by
      by_cases h : ∃ x ∈ texts, 1000 < x.size
      · exact h
      · exact absurd (fun x hx => Nat.le_of_not_lt fun hl => h ⟨x, hx, hl⟩) h3
    have e2 := wLay_long (nums := nums) (s := ⟨0, numB err⟩) rfl h4
    rw [repS, e0, bytesV, if_neg (by rw [e2]; decide), e2]
    rfl
end Go.Proofs.YthlpdficpmdebaaGreat.Wire
