/- complineref28.read: the document's reading of numbers and texts. -/
import Derived.Test.YthlpdficpmdebaaGreatJ12
import Derived.Test.YthlpdficpmdebaaGreatJ10
namespace Go.Proofs.YthlpdficpmdebaaGreat.Wire
open Go Go.RowKit Go.Lib
theorem rNum_len (s : RS) : (rNum s).2.l.length ≤ s.l.length := by
  unfold rNum; repeat' split
  all_goals simp
theorem rCount_len (m : Int) (s : RS) : (rCount m s).2.l.length ≤ s.l.length := by
  unfold rCount; repeat' split
  all_goals simp
theorem rText_len2 (s : RS) : (rText s).2.l.length ≤ s.l.length := by
  unfold rText; repeat' split
  all_goals simp
/-- The document's reader, as one in general. -/
def RR (p : Nat) (s : RS) (w : World) : Prop := ∃ b, RRd p s.e b w ∧ bl b = s.l ∧ s.l.length ≤ 1000000000000
theorem bl_len (b : ByteArray) : (bl b).length = b.size := by rw [bl, Array.length_toList]; rfl
theorem RR.blk {p : Nat} {s : RS} {w : World} (h : RR p s w) : ∃ cs, w.heap[p]? = some (.cells cs 108 (0, 0)) := by
  obtain ⟨_, h, _⟩ := h
  exact ⟨_, h⟩
theorem RR.keep {p : Nat} {s : RS} {w w' : World} {r : Option Nat} (h : RR p s w) (hg : w.grownBy w' r) (hr : r ≠ some p) : RR p s w' := by
  obtain ⟨b, h, h2⟩ := h
  exact ⟨b, (hg.block p (blk_lt h) (fun e => hr e.symm)).trans h, h2⟩
theorem RR.num {p : Nat} {s : RS} {w : World} (h : RR p s w) : Calls Tryz.prog 45 #[.pointer (some ⟨p, 0, none⟩)] w fun en w' => en = .returned (.int .i64 (rNum s).1) ∧ w.grownBy w' (some p) ∧ RR p (rNum s).2 w' := by
  obtain ⟨b, h1, h2, h3⟩ := h
  obtain ⟨e, l⟩ := s
  have h2' : bl b = l := h2
  subst h2'
  refine (rrNum_any p e b w h1 (by have := bl_len b; simp only at h3; omega)).mono ?_
  rintro en w' ⟨he, hg, b', h4, h5⟩
  exact ⟨he, hg, b', h4, h5, Nat.le_trans (rNum_len _) h3⟩
theorem RR.count {p : Nat} {s : RS} {w : World} (h : RR p s w) (m : Int) : Calls Tryz.prog 145 #[.pointer (some ⟨p, 0, none⟩), .int .i64 m] w fun en w' => en = .returned (.int .i64 (rCount m s).1) ∧ w.grownBy w' (some p) ∧ RR p (rCount m s).2 w' := by
  obtain ⟨b, h1, h2, h3⟩ := h
  obtain ⟨e, l⟩ := s
  have h2' : bl b = l := h2
  subst h2'
  refine (rrCount_any p e m b w h1 (by have := bl_len b; simp only at h3; omega)).mono ?_
  rintro en w' ⟨he, hg, b', h4, h5⟩
  exact ⟨he, hg, b', h4, h5, Nat.le_trans (rCount_len _ _) h3⟩
theorem RR.text {p : Nat} {s : RS} {w : World} (h : RR p s w) : Calls Tryz.prog 46 #[.pointer (some ⟨p, 0, none⟩)] w fun en w' => en = .returned (.string ⟨(rText s).1.toArray⟩) ∧ w.grownBy w' (some p) ∧ RR p (rText s).2 w' := by
  obtain ⟨b, h1, h2, h3⟩ := h
  obtain ⟨e, l⟩ := s
  have h2' : bl b = l := h2
  subst h2'
  refine (rrText_any p e b w h1 (by have := bl_len b; simp only at h3; omega)).mono ?_
  rintro en w' ⟨he, hg, b', h4, h5⟩
  exact ⟨he, hg, b', h4, h5, Nat.le_trans (rText_len2 _) h3⟩
theorem RR.end_ {p : Nat} {s : RS} {w : World} (h : RR p s w) : Calls Tryz.prog 48 #[.pointer (some ⟨p, 0, none⟩)] w fun en w' => en = .returned (.int .i64 (rEnd s)) ∧ w = w' := by
  obtain ⟨b, h1, h2, h3⟩ := h
  obtain ⟨e, l⟩ := s
  obtain ⟨c0, c1⟩ := h1.cells
  have h2' : bl b = l := h2
  subst h2'
  clear h1 h2 h3
  by_cases he : e ≠ 0
  · rw [rEnd, if_pos he]
    have hb2 : (e != 0) = true := by simpa using he
    have hb1 : (e == 0) = false := by simpa using he
    simp only at c1
    clear he
    go_enter Tryz.func48, Tryz.ntmps48
    go_wp2_with fail
    refine bodyPost_ret (results_tmp rfl _ _ _) rfl ?_
    exact ⟨rfl, rfl⟩
  · have he0 : e = 0 := by omega
    subst he0
    rw [rEnd, if_neg he]
    clear he
    simp only at c1
    by_cases hl : b.size = 0
    · have hl2 : bl b = [] := List.eq_nil_of_length_eq_zero (by rw [bl_len]; exact hl)
      rw [if_neg (by simp [hl2])]
      clear hl2
      go_enter Tryz.func48, Tryz.ntmps48
      go_wp2_with fail
      refine bodyPost_ret (results_tmp rfl _ _ _) rfl ?_
      exact ⟨rfl, rfl⟩
    · have hl2 : bl b ≠ [] := by intro h; have := bl_len b; rw [h] at this; simp at this; omega
      rw [if_pos (by simpa using hl2)]
      have hl3 : 0 < b.size := by omega
      clear hl2 hl
      go_enter Tryz.func48, Tryz.ntmps48
      go_wp2_with fail
      refine bodyPost_ret (results_tmp rfl _ _ _) rfl ?_
      exact ⟨rfl, rfl⟩
/-- Where the first loop stands. -/
def D1 (w : World) (p : Nat) (N : Nat) (s0 : RS) (k : Nat) (v : Value) (wr : World) : Prop :=
  w.grownBy wr (some p) ∧ ∃ (xs : List Int) (s : RS), xs.length = k ∧ wr.ownsRow w.heap.size 3 1 v k (ints xs) ∧ RR p s wr ∧ rMany rNum N s0 = (xs ++ (rMany rNum (N - k) s).1, (rMany rNum (N - k) s).2)
theorem RR.ne {p : Nat} {s : RS} {w : World} (h : RR p s w) {base n : Nat} {e size : Nat} {v : Value} {xs : List Value} (ho : w.ownsRow base e size v n xs) (he : e ≠ 108) : v.ownBlock ≠ some p := by
  obtain ⟨cs, hc⟩ := h.blk
  exact own_ne ho hc he
theorem D1.next {w w2 w3 : World} {p : Nat} {N k : Nat} {s0 s : RS} {v v3 : Value} {xs : List Int} (hk : k < N) (hxs : xs.length = k) (hown : w2.ownsRow w.heap.size 3 1 v k (ints xs))
    (hR2 : RR p (rNum s).2 w2) (hrm : rMany rNum N s0 = (xs ++ (rMany rNum (N - k) s).1, (rMany rNum (N - k) s).2)) (hg : w.grownBy w2 (some p)) {o : Obj}
    (hown3 : w3.ownsRow w.heap.size 3 1 v3 (k + 1) (ints xs ++ [.int .i64 (rNum s).1])) (hg3 : (w2.alloc o).grownBy w3 v.ownBlock) : D1 w p N s0 (k + 1) v3 w3 := by
  have hR3 := hR2.keep (World.grownBy_alloc w2 o none) (by simp)
  refine ⟨only_grown (hg.trans (World.grownBy_alloc w2 o _)) hg3 (own_ge hown), xs ++ [(rNum s).1], (rNum s).2, by simp [hxs], by simpa [ints] using hown3, hR3.keep hg3 (hR3.ne (hown.alloc o) (by decide)), ?_⟩
  rw [hrm, rMany_step rNum (N - k) s (by omega), show N - k - 1 = N - (k + 1) by omega]
  simp
/-- Where the second loop stands. -/
def D2 (w : World) (p : Nat) (N : Nat) (s0 : RS) (v1 : Value) (n1 : Nat) (nums : List Int) (k : Nat) (v : Value) (wr : World) : Prop :=
  w.grownBy wr (some p) ∧ wr.ownsRow w.heap.size 3 1 v1 n1 (ints nums) ∧ ∃ (xs : List (List UInt8)) (s : RS), xs.length = k ∧ wr.ownsRow w.heap.size 9 1 v k (strs xs) ∧ RR p s wr ∧ rMany rText N s0 = (xs ++ (rMany rText (N - k) s).1, (rMany rText (N - k) s).2)
theorem D2.next {w w2 w3 : World} {p : Nat} {N k : Nat} {s0 s : RS} {v1 v v3 : Value} {n1 : Nat} {nums : List Int} {xs : List (List UInt8)} (hk : k < N) (hxs : xs.length = k) (hown1 : w2.ownsRow w.heap.size 3 1 v1 n1 (ints nums)) (hown : w2.ownsRow w.heap.size 9 1 v k (strs xs))
    (hR2 : RR p (rText s).2 w2) (hrm : rMany rText N s0 = (xs ++ (rMany rText (N - k) s).1, (rMany rText (N - k) s).2)) (hg : w.grownBy w2 (some p)) {o : Obj}
    (hown3 : w3.ownsRow w.heap.size 9 1 v3 (k + 1) (strs xs ++ [.string ⟨(rText s).1.toArray⟩])) (hg3 : (w2.alloc o).grownBy w3 v.ownBlock) : D2 w p N s0 v1 n1 nums (k + 1) v3 w3 := by
  have hR3 := hR2.keep (World.grownBy_alloc w2 o none) (by simp)
  refine ⟨only_grown (hg.trans (World.grownBy_alloc w2 o _)) hg3 (own_ge hown), (hown1.alloc o).kept hg3 (rows_ne (hown1.alloc o) (hown.alloc o) (by decide)), xs ++ [(rText s).1], (rText s).2, by simp [hxs], by simpa [strs] using hown3, hR3.keep hg3 (hR3.ne (hown.alloc o) (by decide)), ?_⟩
  rw [hrm, rMany_step rText (N - k) s (by omega), show N - k - 1 = N - (k + 1) by omega]
  simp
/-- read's end. -/
def ReadPost (p : Nat) (mn mt : Int) (s0 : RS) (w : World) (en : Ending) (w' : World) : Prop :=
  ∃ v1 v2 n1 n2, en = .returned (.tuple #[v1, v2]) ∧ w.grownBy w' (some p) ∧ (rGet mn mt s0).1.1.length = n1 ∧ w'.ownsRow w.heap.size 3 1 v1 n1 (ints (rGet mn mt s0).1.1) ∧ (rGet mn mt s0).1.2.length = n2 ∧ w'.ownsRow w.heap.size 9 1 v2 n2 (strs (rGet mn mt s0).1.2) ∧
    RR p (rGet mn mt s0).2 w'
set_option maxRecDepth 20000 in
set_option maxHeartbeats 2000000 in
theorem readD_any (p : Nat) (s0 : RS) (mn mt : Int) (w : World) (h : RR p s0 w) (hmn : 0 ≤ mn ∧ mn ≤ 2000) (hmt : 0 ≤ mt ∧ mt ≤ 100) :
    Calls Tryz.prog 47 #[.pointer (some ⟨p, 0, none⟩), .int .i64 mn, .int .i64 mt] w (ReadPost p mn mt s0 w) := by
  obtain ⟨i0, hi0, hz0, hz1, hz2⟩ := info_parts int_info
  obtain ⟨j0, hj0, hy0, hy1, hy2⟩ := info_parts str_info
  have HR := Lib.hid h
  obtain ⟨hmn1, hmn2⟩ := hmn
  obtain ⟨hmt1, hmt2⟩ := hmt
  clear h
  go_enter Tryz.func47, Tryz.ntmps47
  go_wp2_with fail
  refine (HR.out.count mn).mono ?_
  rintro e1 w1 ⟨rfl, hg1, hR1⟩
  obtain ⟨N, hN, hNm⟩ := rCount_rng hmn1 s0
  rw [hN]
  have HN := Lib.hid hN
  obtain ⟨s1, hs1⟩ : ∃ s1, (rCount mn s0).2 = s1 := ⟨_, rfl⟩
  rw [hs1] at hR1
  have HS1 := Lib.hid hs1
  have HG0 : Hid (D1 w p N s1 0 (.slice none 0 0) w1) := Lib.hid ⟨hg1, [], s1, rfl, World.ownsRow_nil _ _ _ _, hR1, rfl⟩
  clear hs1 hR1 hN hg1
  go_wp2_with fail
  go_loopw [8, 11] (fun v i wr => ∃ k : Nat, i = .int .i64 k ∧ k ≤ N ∧ D1 w p N s1 k v wr) (fun _ i _ => N - (intOf i).toNat)
  case atStart => exact ⟨0, rfl, Nat.zero_le _, HG0.out⟩
  case round =>
    obtain ⟨k, rfl, hk, hgk, xs, s, hxs, hown, hRk, hrm⟩ := hrel
    have HRk := Lib.hid hRk
    have HOW := Lib.hid hown
    have HXS := Lib.hid hxs
    have HRM := Lib.hid hrm
    have HGK := Lib.hid hgk
    clear hRk hown hxs hrm hgk
    by_cases hlt : k < N
    · go_wp2_with fail
      refine HRk.out.num.mono ?_
      rintro e2 w2 ⟨rfl, hg2, hR2⟩
      obtain ⟨x, hx⟩ : ∃ x, (rNum s).1 = x := ⟨_, rfl⟩
      rw [hx]
      have HX := Lib.hid hx
      have HR2 := Lib.hid hR2
      have HOW2 := Lib.hid (HOW.out.kept hg2 (.inr (HRk.out.ne HOW.out (by decide))))
      have HG2 := Lib.hid (HGK.out.trans hg2)
      have HBS := Lib.hid HG2.out.size
      clear hx hR2 hg2
      go_wp2_with ((at_builtin
                    refine wpList_append_own_at _ rfl (.tmp 21) (.tmp 24) _ rfl w.heap.size 3 i0 _ 1 8 Tryz.underlying22 hi0 hz0 hz1 hz2 rfl (by omega) u8 k (ints xs) rfl (HOW2.out.alloc _) ⟨w2.heap.size, 0, none⟩ 1 1 [.int .i64 x] rfl rfl (cell_one_new _ _ _) (by simp [Value.oneCell']) (by unfold maxLen; omega) (by omega) (by have := HBS.out; simp; omega) ?_
                    intro v3 w3 hown3 hg3 _ hat3
                    clear hat3))
      go_roundw
      case rel =>
        refine ⟨k + 1, by go_num, by omega, D1.next hlt HXS.out HOW2.out HR2.out HRM.out HG2.out (by rw [HX.out]; exact hown3) hg3⟩
      case measure => simp [intOf]; omega
    · have hkN : k = N := by omega
      subst hkN
      have hrm0 : rMany rNum k s1 = (xs, s) := by have := HRM.out; rw [this]; simp [rMany]
      have HRM0 := Lib.hid hrm0
      clear hrm0 hlt
      go_wp2_with fail
      refine (HRk.out.count mt).mono ?_
      rintro e2 w2 ⟨rfl, hg2, hR2⟩
      obtain ⟨M, hM, hMm⟩ := rCount_rng hmt1 s
      rw [hM]
      have HM := Lib.hid hM
      obtain ⟨s2, hs2⟩ : ∃ s2, (rCount mt s).2 = s2 := ⟨_, rfl⟩
      rw [hs2] at hR2
      have HS2 := Lib.hid hs2
      have HG20 : Hid (D2 w p M s2 u8 k xs 0 (.slice none 0 0) w2) := Lib.hid ⟨HGK.out.trans hg2, HOW.out.kept hg2 (.inr (HRk.out.ne HOW.out (by decide))), [], s2, rfl, World.ownsRow_nil _ _ _ _, hR2, rfl⟩
      clear hs2 hR2 hM hg2
      go_wp2_with fail
      go_loopw [9, 12] (fun v i wr => ∃ k2 : Nat, i = .int .i64 k2 ∧ k2 ≤ M ∧ D2 w p M s2 u8 k xs k2 v wr) (fun _ i _ => M - (intOf i).toNat)
      case atStart => exact ⟨0, rfl, Nat.zero_le _, HG20.out⟩
      case round =>
        obtain ⟨k2, rfl, hk2, hgk, hown1, ys, s', hys, hown, hRk, hrm⟩ := hrel
        have HRk' := Lib.hid hRk
        have HOW1 := Lib.hid hown1
        have HOW' := Lib.hid hown
        have HYS := Lib.hid hys
        have HRM' := Lib.hid hrm
        have HGK' := Lib.hid hgk
        clear hRk hown hown1 hys hrm hgk
        by_cases hlt : k2 < M
        · go_wp2_with fail
          refine HRk'.out.text.mono ?_
          rintro e2 w3 ⟨rfl, hg3, hR3⟩
          obtain ⟨x, hx⟩ : ∃ x : ByteArray, ⟨(rText s').1.toArray⟩ = x := ⟨_, rfl⟩
          rw [hx]
          have HX := Lib.hid hx
          have HR3 := Lib.hid hR3
          have HOW13 := Lib.hid (HOW1.out.kept hg3 (.inr (HRk'.out.ne HOW1.out (by decide))))
          have HOW3 := Lib.hid (HOW'.out.kept hg3 (.inr (HRk'.out.ne HOW'.out (by decide))))
          have HG3 := Lib.hid (HGK'.out.trans hg3)
          have HBS := Lib.hid HG3.out.size
          clear hx hR3 hg3
          go_wp2_with ((at_builtin
                        refine wpList_append_own_at _ rfl (.tmp 34) (.tmp 37) _ rfl w.heap.size 9 j0 _ 1 16 Tryz.underlying23 hj0 hy0 hy1 hy2 rfl (by omega) u9 k2 (strs ys) rfl (HOW3.out.alloc _) ⟨w3.heap.size, 0, none⟩ 1 1 [.string x] rfl rfl (cell_one_new _ _ _) (by simp [Value.oneCell']) (by unfold maxLen; omega) (by omega) (by have := HBS.out; simp; omega) ?_
                        intro v5 w5 hown5 hg5 _ hat5
                        clear hat5))
          go_roundw
          case rel =>
            refine ⟨k2 + 1, by go_num, by omega, D2.next hlt HYS.out HOW13.out HOW3.out HR3.out HRM'.out HG3.out (by rw [HX.out]; exact hown5) hg5⟩
          case measure => simp [intOf]; omega
        · have hkM : k2 = M := by omega
          subst hkM
          have hrm1 : rMany rText k2 s2 = (ys, s') := by have := HRM'.out; rw [this]; simp [rMany]
          have hget : rGet mn mt s0 = ((xs, ys), s') := by
            simp only [rGet, HN.out, HS1.out, Int.toNat_natCast, HRM0.out, HM.out, HS2.out, hrm1]
          have HGET := Lib.hid hget
          clear hrm1 hget hlt
          go_wp2_with fail
          go_ret2
          refine ⟨u8, u9, k, k2, rfl, HGK'.out, ?_, ?_, ?_, ?_, ?_⟩ <;> rw [HGET.out]
          · exact HXS.out
          · exact HOW1.out
          · exact HYS.out
          · exact HOW'.out
          · exact HRk'.out
end Go.Proofs.YthlpdficpmdebaaGreat.Wire
