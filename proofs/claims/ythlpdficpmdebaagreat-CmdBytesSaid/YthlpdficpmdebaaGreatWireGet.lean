/- cmd.get: numbers and texts read, each behind how many there are. -/
import Derived.Test.YthlpdficpmdebaaGreatJ6
import Derived.Test.YthlpdficpmdebaaGreatJ8
import Derived.Test.YthlpdficpmdebaaGreatLay
namespace Go.Proofs.YthlpdficpmdebaaGreat.Wire
open Go Go.RowKit Go.Lib
theorem clone_any (s : ByteArray) (w : World) (h : s.size ≤ 281474976710656) : Calls Tryz.prog 41 #[.string s] w fun en w' => en = .returned (.string s) ∧ Below w.heap.size w w' := by
  have H := Lib.hid h
  clear h
  go_enter Tryz.func41, Tryz.ntmps41
  go_wp2_with (go_at_call 140; refine (Tryz.stringslite_Clone s _ H.out).mono ?_; rintro e w1 ⟨rfl, hb⟩)
  go_ret
  exact ⟨rfl, hb⟩
theorem newR_any (b : ByteArray) (w : World) (h : b.size ≤ 281474976710656) : Calls Tryz.prog 39 #[.string b] w fun en w' => (∃ p, en = .returned (.pointer (some ⟨p, 0, none⟩)) ∧ w.heap.size ≤ p ∧ Rd p 0 b 0 w') ∧ Below w.heap.size w w' := by
  have H := Lib.hid h
  clear h
  go_enter Tryz.func39, Tryz.ntmps39
  go_wp2_with (go_at_call 41; refine (clone_any b _ H.out).mono ?_; rintro e w1 ⟨rfl, hb⟩)
  go_ret
  exact ⟨⟨_, rfl, hb.size, heap_alloc_new w1 _⟩, hb.alloc hb.size _⟩
theorem only_grown {a b c : World} {p : Nat} {r : Option Nat} (h : a.grownBy b (some p)) (k : b.grownBy c r) (hr : ∀ g, r = some g → a.heap.size ≤ g) : a.grownBy c (some p) :=
  ⟨k.os.trans h.os, k.tape.trans h.tape, k.output.trans h.output, Nat.le_trans h.size k.size, fun i hi hne => (k.block i (Nat.lt_of_lt_of_le hi h.size) (fun e => by have := hr i e.symm; omega)).trans (h.block i hi hne)⟩
theorem Rd.grown {p : Nat} {e : Int} {b : ByteArray} {at_ : Nat} {w w' : World} {r : Option Nat} (h : Rd p e b at_ w) (hg : w.grownBy w' r) (hr : r ≠ some p) : Rd p e b at_ w' := (hg.block p (blk_lt h) (fun e => hr e.symm)).trans h
theorem cErr_ok {most : Int} {r : Int × Nat × Int} (h : cErr most r = 0) : r.2.2 = 0 ∧ r.1 ≤ most ∧ 0 ≤ r.1 := by
  unfold cErr at h
  by_cases h1 : r.2.2 ≠ 0
  · rw [if_pos h1] at h; exact absurd h h1
  rw [if_neg h1] at h
  by_cases h2 : r.1 > most
  · rw [if_pos h2] at h; exact absurd h (by decide)
  rw [if_neg h2] at h
  by_cases h3 : r.1 < 0
  · rw [if_pos h3] at h; exact absurd h (by decide)
  exact ⟨by omega, by omega, by omega⟩
theorem rCount_rng {most : Int} (hm : 0 ≤ most) (s : RS) : ∃ n : Nat, (rCount most s).1 = n ∧ (n : Int) ≤ most := by
  unfold rCount
  by_cases h1 : s.e ≠ 0
  · rw [if_pos h1]; exact ⟨0, rfl, hm⟩
  rw [if_neg h1]
  by_cases h2 : cErr most (rdN s.l 0 0) ≠ 0
  · rw [if_pos h2]; exact ⟨0, rfl, hm⟩
  rw [if_neg h2]
  obtain ⟨_, a, b⟩ := cErr_ok (show cErr most (rdN s.l 0 0) = 0 by omega)
  exact ⟨(rdN s.l 0 0).1.toNat, by show (rdN s.l 0 0).1 = _; omega, by omega⟩
theorem rMany_step {α : Type} (f : RS → α × RS) (n : Nat) (s : RS) (h : 0 < n) : rMany f n s = ((f s).1 :: (rMany f (n - 1) (f s).2).1, (rMany f (n - 1) (f s).2).2) := by
  cases n with
  | zero => omega
  | succ n => rfl
theorem int_info : (Tryz.prog.info? 3).map (fun i => (i.zero, i.size, i.bytes)) = some (some (.int .i64 0), 1, 8) := by kernel_rfl
theorem str_info : (Tryz.prog.info? 9).map (fun i => (i.zero, i.size, i.bytes)) = some (some (.string ⟨#[]⟩), 1, 16) := by kernel_rfl
def ints (xs : List Int) : List Value := xs.map (Value.int .i64)
def strs (xs : List (List UInt8)) : List Value := xs.map fun l => Value.string ⟨l.toArray⟩
theorem rNum_s (p : Nat) (s : RS) (b : ByteArray) (at_ : Nat) (w : World) (h : Rd p s.e b at_ w) (hl : s.l = (bl b).drop at_) (hat : at_ ≤ b.size) (hb : b.size ≤ 1000000000000) :
    Calls Tryz.prog 40 #[.pointer (some ⟨p, 0, none⟩)] w (REnd p b (.int .i64 (rNum s).1) (rNum s).2 w) := by
  obtain ⟨e, l⟩ := s
  have hl' : l = (bl b).drop at_ := hl
  subst hl'
  exact rNum_any p e b at_ w h hat hb
theorem rText_s (p : Nat) (s : RS) (b : ByteArray) (at_ : Nat) (w : World) (h : Rd p s.e b at_ w) (hl : s.l = (bl b).drop at_) (hat : at_ ≤ b.size) (hb : b.size ≤ 1000000000000) :
    Calls Tryz.prog 42 #[.pointer (some ⟨p, 0, none⟩)] w (REnd p b (.string ⟨(rText s).1.toArray⟩) (rText s).2 w) := by
  obtain ⟨e, l⟩ := s
  have hl' : l = (bl b).drop at_ := hl
  subst hl'
  exact rText_any p e b at_ w h hat hb
theorem rCount_s (p : Nat) (most : Int) (s : RS) (b : ByteArray) (at_ : Nat) (w : World) (h : Rd p s.e b at_ w) (hl : s.l = (bl b).drop at_) (hat : at_ ≤ b.size) (hb : b.size ≤ 1000000000000) :
    Calls Tryz.prog 141 #[.pointer (some ⟨p, 0, none⟩), .int .i64 most] w (REnd p b (.int .i64 (rCount most s).1) (rCount most s).2 w) := by
  obtain ⟨e, l⟩ := s
  have hl' : l = (bl b).drop at_ := hl
  subst hl'
  exact rCount_any p e most b at_ w h hat hb
theorem rText_len (s : RS) : (rText s).1.length ≤ s.l.length := by
  unfold rText
  by_cases h1 : s.e ≠ 0
  · rw [if_pos h1]; simp
  rw [if_neg h1]
  by_cases h2 : tErr s.l.length (rdN s.l 0 0) ≠ 0
  · rw [if_pos h2]; simp
  rw [if_neg h2]
  simp only [List.length_take, List.length_drop]
  omega
theorem Rd.alloc {p : Nat} {e : Int} {b : ByteArray} {at_ : Nat} {w : World} (h : Rd p e b at_ w) (o : Obj) : Rd p e b at_ (w.alloc o) := (Below.heap_alloc w o p (blk_lt h)).trans h
/-- Where the first loop stands. -/
def G1 (w : World) (p : Nat) (b : ByteArray) (N : Nat) (s0 : RS) (k : Nat) (v : Value) (wr : World) : Prop :=
  w.grownBy wr (some p) ∧ ∃ (xs : List Int) (s : RS) (at_ : Nat), xs.length = k ∧ wr.ownsRow w.heap.size 3 1 v k (ints xs) ∧ at_ ≤ b.size ∧ Rd p s.e b at_ wr ∧ s.l = (bl b).drop at_ ∧ rMany rNum N s0 = (xs ++ (rMany rNum (N - k) s).1, (rMany rNum (N - k) s).2)
theorem G1.next {w w2 w3 : World} {p : Nat} {b : ByteArray} {N k at2 : Nat} {s0 s : RS} {v v3 : Value} {xs : List Int} (hk : k < N) (hxs : xs.length = k) (hown : w2.ownsRow w.heap.size 3 1 v k (ints xs)) (hat2 : at2 ≤ b.size)
    (hR2 : Rd p (rNum s).2.e b at2 w2) (hl2 : (rNum s).2.l = (bl b).drop at2) (hrm : rMany rNum N s0 = (xs ++ (rMany rNum (N - k) s).1, (rMany rNum (N - k) s).2)) (hg : w.grownBy w2 (some p)) {o : Obj}
    (hown3 : w3.ownsRow w.heap.size 3 1 v3 (k + 1) (ints xs ++ [.int .i64 (rNum s).1])) (hg3 : (w2.alloc o).grownBy w3 v.ownBlock) : G1 w p b N s0 (k + 1) v3 w3 := by
  refine ⟨only_grown (hg.trans (World.grownBy_alloc w2 o _)) hg3 (own_ge hown), xs ++ [(rNum s).1], (rNum s).2, at2, by simp [hxs], by simpa [ints] using hown3, hat2, (hR2.alloc o).grown hg3 (own_ne (hown.alloc o) (hR2.alloc o) (by decide)), hl2, ?_⟩
  rw [hrm, rMany_step rNum (N - k) s (by omega), show N - k - 1 = N - (k + 1) by omega]
  simp
/-- Where the second loop stands. -/
def G2 (w : World) (p : Nat) (b : ByteArray) (N : Nat) (s0 : RS) (v1 : Value) (n1 : Nat) (nums : List Int) (k : Nat) (v : Value) (wr : World) : Prop :=
  w.grownBy wr (some p) ∧ wr.ownsRow w.heap.size 3 1 v1 n1 (ints nums) ∧ ∃ (xs : List (List UInt8)) (s : RS) (at_ : Nat), xs.length = k ∧ wr.ownsRow w.heap.size 9 1 v k (strs xs) ∧ at_ ≤ b.size ∧ Rd p s.e b at_ wr ∧ s.l = (bl b).drop at_ ∧ rMany rText N s0 = (xs ++ (rMany rText (N - k) s).1, (rMany rText (N - k) s).2)
theorem rows_ne {w : World} {base e size n : Nat} {v : Value} {xs : List Value} {e' size' n' : Nat} {v' : Value} {xs' : List Value} (h : w.ownsRow base e size v n xs) (h' : w.ownsRow base e' size' v' n' xs') (hne : e ≠ e') : v.ownBlock = none ∨ v.ownBlock ≠ v'.ownBlock := by
  rcases h'.2 with ⟨rfl, _⟩ | ⟨g, cap, cur, rfl, _, hh, _⟩
  · rcases h.2 with ⟨rfl, _⟩ | ⟨g, cap, cur, rfl, _⟩
    · exact .inl rfl
    · exact .inr (by simp [Value.ownBlock])
  · exact .inr (own_ne h hh hne)
theorem G2.next {w w1 w2 w3 : World} {p : Nat} {b : ByteArray} {N k at2 : Nat} {s0 s : RS} {v1 v v3 : Value} {n1 : Nat} {nums : List Int} {xs : List (List UInt8)} (hk : k < N) (hxs : xs.length = k) (hown1 : w1.ownsRow w.heap.size 3 1 v1 n1 (ints nums)) (hown : w1.ownsRow w.heap.size 9 1 v k (strs xs)) (hat2 : at2 ≤ b.size)
    (hR2 : Rd p (rText s).2.e b at2 w1) (hl2 : (rText s).2.l = (bl b).drop at2) (hrm : rMany rText N s0 = (xs ++ (rMany rText (N - k) s).1, (rMany rText (N - k) s).2)) (hg : w.grownBy w1 (some p)) (hb2 : Below w1.heap.size w1 w2) {o : Obj}
    (hown3 : w3.ownsRow w.heap.size 9 1 v3 (k + 1) (strs xs ++ [.string ⟨(rText s).1.toArray⟩])) (hg3 : (w2.alloc o).grownBy w3 v.ownBlock) : G2 w p b N s0 v1 n1 nums (k + 1) v3 w3 := by
  have hg2 : w1.grownBy w2 none := only_of_below hb2 _
  have hown2 := hown.kept hg2 (by cases v.ownBlock <;> simp)
  have hown12 := hown1.kept hg2 (by cases v1.ownBlock <;> simp)
  have hR22 := hR2.grown hg2 (by simp)
  have hgw : w.grownBy w2 (some p) := only_grown hg hg2 (by simp)
  refine ⟨only_grown (hgw.trans (World.grownBy_alloc w2 o _)) hg3 (own_ge hown2), (hown12.alloc o).kept hg3 (rows_ne (hown12.alloc o) (hown2.alloc o) (by decide)), xs ++ [(rText s).1], (rText s).2, at2, by simp [hxs], by simpa [strs] using hown3, hat2,
    (hR22.alloc o).grown hg3 (own_ne (hown2.alloc o) (hR22.alloc o) (by decide)), hl2, ?_⟩
  rw [hrm, rMany_step rText (N - k) s (by omega), show N - k - 1 = N - (k + 1) by omega]
  simp
/-- get's end. -/
def GetPost (p : Nat) (b : ByteArray) (mn mt : Int) (s0 : RS) (w : World) (en : Ending) (w' : World) : Prop :=
  ∃ v1 v2 n1 n2, en = .returned (.tuple #[v1, v2]) ∧ w.grownBy w' (some p) ∧ (rGet mn mt s0).1.1.length = n1 ∧ w'.ownsRow w.heap.size 3 1 v1 n1 (ints (rGet mn mt s0).1.1) ∧ (rGet mn mt s0).1.2.length = n2 ∧ w'.ownsRow w.heap.size 9 1 v2 n2 (strs (rGet mn mt s0).1.2) ∧
    ∃ at', at' ≤ b.size ∧ Rd p (rGet mn mt s0).2.e b at' w' ∧ (rGet mn mt s0).2.l = (bl b).drop at'
set_option maxRecDepth 20000 in
set_option maxHeartbeats 2000000 in
theorem get_any (p : Nat) (s0 : RS) (b : ByteArray) (at_ : Nat) (mn mt : Int) (w : World) (h : Rd p s0.e b at_ w) (hl : s0.l = (bl b).drop at_) (hat : at_ ≤ b.size) (hb : b.size ≤ 1000000000000) (hmn : 0 ≤ mn ∧ mn ≤ 2000) (hmt : 0 ≤ mt ∧ mt ≤ 100) :
    Calls Tryz.prog 43 #[.pointer (some ⟨p, 0, none⟩), .int .i64 mn, .int .i64 mt] w (GetPost p b mn mt s0 w) := by
  obtain ⟨i0, hi0, hz0, hz1, hz2⟩ := info_parts int_info
  obtain ⟨j0, hj0, hy0, hy1, hy2⟩ := info_parts str_info
  have HR := Lib.hid h
  have HL := Lib.hid hl
  obtain ⟨hmn1, hmn2⟩ := hmn
  obtain ⟨hmt1, hmt2⟩ := hmt
  clear h hl
  go_enter Tryz.func43, Tryz.ntmps43
  go_wp2_with fail
  refine (rCount_s _ _ s0 _ _ _ HR.out HL.out hat hb).mono ?_
  rintro e1 w1 ⟨rfl, hg1, at1, hat1, hR1, hl1⟩
  obtain ⟨N, hN, hNm⟩ := rCount_rng hmn1 s0
  rw [hN]
  have HN := Lib.hid hN
  obtain ⟨s1, hs1⟩ : ∃ s1, (rCount mn s0).2 = s1 := ⟨_, rfl⟩
  rw [hs1] at hR1 hl1
  have HS1 := Lib.hid hs1
  have HG0 : Hid (G1 w p b N s1 0 (.slice none 0 0) w1) := Lib.hid ⟨hg1, [], s1, at1, rfl, World.ownsRow_nil _ _ _ _, hat1, hR1, hl1, rfl⟩
  clear hs1 hR1 hl1 hN hg1 hat1
  go_wp2_with fail
  go_loopw [8, 13] (fun v i wr => ∃ k : Nat, i = .int .i64 k ∧ k ≤ N ∧ G1 w p b N s1 k v wr) (fun _ i _ => N - (intOf i).toNat)
  case atStart => exact ⟨0, rfl, Nat.zero_le _, HG0.out⟩
  case round =>
    obtain ⟨k, rfl, hk, hgk, xs, s, ak, hxs, hown, hak, hRk, hlk, hrm⟩ := hrel
    have HRk := Lib.hid hRk
    have HOW := Lib.hid hown
    have HXS := Lib.hid hxs
    have HLK := Lib.hid hlk
    have HRM := Lib.hid hrm
    have HGK := Lib.hid hgk
    clear hRk hown hxs hlk hrm hgk
    by_cases hlt : k < N
    · go_wp2_with fail
      refine (rNum_s _ s _ _ _ HRk.out HLK.out hak hb).mono ?_
      rintro e2 w2 ⟨rfl, hg2, at2, hat2, hR2, hl2⟩
      obtain ⟨x, hx⟩ : ∃ x, (rNum s).1 = x := ⟨_, rfl⟩
      rw [hx]
      have HX := Lib.hid hx
      have HR2 := Lib.hid hR2
      have HL2 := Lib.hid hl2
      have HOW2 := Lib.hid (HOW.out.kept hg2 (.inr (own_ne HOW.out HRk.out (by decide))))
      have HG2 := Lib.hid (HGK.out.trans hg2)
      have HBS := Lib.hid HG2.out.size
      clear hx hR2 hl2 hg2
      go_wp2_with ((at_builtin
                    refine wpList_append_own_at _ rfl (.tmp 15) (.tmp 18) _ rfl w.heap.size 3 i0 _ 1 8 Tryz.underlying22 hi0 hz0 hz1 hz2 rfl (by omega) u8 k (ints xs) rfl (HOW2.out.alloc _) ⟨w2.heap.size, 0, none⟩ 1 1 [.int .i64 x] rfl rfl (cell_one_new _ _ _) (by simp [Value.oneCell']) (by unfold maxLen; omega) (by omega) (by have := HBS.out; simp; omega) ?_
                    intro v3 w3 hown3 hg3 _ hat3
                    clear hat3))
      go_roundw
      case rel =>
        refine ⟨k + 1, by go_num, by omega, G1.next hlt HXS.out HOW2.out hat2 HR2.out HL2.out HRM.out HG2.out (by rw [HX.out]; exact hown3) hg3⟩
      case measure => simp [intOf]; omega
    · have hkN : k = N := by omega
      subst hkN
      have hrm0 : rMany rNum k s1 = (xs, s) := by have := HRM.out; rw [this]; simp [rMany]
      have HRM0 := Lib.hid hrm0
      clear hrm0 hlt
      go_wp2_with fail
      refine (rCount_s _ _ s _ _ _ HRk.out HLK.out hak hb).mono ?_
      rintro e2 w2 ⟨rfl, hg2, at2, hat2, hR2, hl2⟩
      obtain ⟨M, hM, hMm⟩ := rCount_rng hmt1 s
      rw [hM]
      have HM := Lib.hid hM
      obtain ⟨s2, hs2⟩ : ∃ s2, (rCount mt s).2 = s2 := ⟨_, rfl⟩
      rw [hs2] at hR2 hl2
      have HS2 := Lib.hid hs2
      have HG20 : Hid (G2 w p b M s2 u8 k xs 0 (.slice none 0 0) w2) := Lib.hid ⟨HGK.out.trans hg2, HOW.out.kept hg2 (.inr (own_ne HOW.out HRk.out (by decide))), [], s2, at2, rfl, World.ownsRow_nil _ _ _ _, hat2, hR2, hl2, rfl⟩
      clear hs2 hR2 hl2 hM hg2 hat2
      go_wp2_with fail
      go_loopw [9, 24] (fun v i wr => ∃ k2 : Nat, i = .int .i64 k2 ∧ k2 ≤ M ∧ G2 w p b M s2 u8 k xs k2 v wr) (fun _ i _ => M - (intOf i).toNat)
      case atStart => exact ⟨0, rfl, Nat.zero_le _, HG20.out⟩
      case round =>
        obtain ⟨k2, rfl, hk2, hgk, hown1, ys, s', ak', hys, hown, hak', hRk, hlk, hrm⟩ := hrel
        have HRk' := Lib.hid hRk
        have HOW1 := Lib.hid hown1
        have HOW' := Lib.hid hown
        have HYS := Lib.hid hys
        have HLK' := Lib.hid hlk
        have HRM' := Lib.hid hrm
        have HGK' := Lib.hid hgk
        clear hRk hown hown1 hys hlk hrm hgk
        by_cases hlt : k2 < M
        · go_wp2_with fail
          refine (rText_s _ s' _ _ _ HRk'.out HLK'.out hak' hb).mono ?_
          rintro e2 w3 ⟨rfl, hg3, at3, hat3, hR3, hl3⟩
          have hsz : (⟨(rText s').1.toArray⟩ : ByteArray).size ≤ 281474976710656 := by
            have h1 := rText_len s'
            rw [HLK'.out, bl_drop_len] at h1
            have h2 : (⟨(rText s').1.toArray⟩ : ByteArray).size = (rText s').1.length := by simp [ByteArray.size]
            rw [h2]
            omega
          obtain ⟨x, hx⟩ : ∃ x : ByteArray, ⟨(rText s').1.toArray⟩ = x := ⟨_, rfl⟩
          rw [hx] at hsz ⊢
          have HX := Lib.hid hx
          have HSZ := Lib.hid hsz
          have HR3 := Lib.hid hR3
          have HL3 := Lib.hid hl3
          have HOW13 := Lib.hid (HOW1.out.kept hg3 (.inr (own_ne HOW1.out HRk'.out (by decide))))
          have HOW3 := Lib.hid (HOW'.out.kept hg3 (.inr (own_ne HOW'.out HRk'.out (by decide))))
          have HG3 := Lib.hid (HGK'.out.trans hg3)
          clear hx hsz hR3 hl3 hg3
          go_wp2_with fail
          refine (clone_any x _ HSZ.out).mono ?_
          rintro e3 w4 ⟨rfl, hb4⟩
          have HB4 := Lib.hid hb4
          have HOW4 := Lib.hid (HOW3.out.kept (only_of_below hb4 none) (by cases u9.ownBlock <;> simp))
          have HBS := Lib.hid (Nat.le_trans HG3.out.size hb4.size)
          clear hb4
          go_wp2_with ((at_builtin
                        refine wpList_append_own_at _ rfl (.tmp 26) (.tmp 30) _ rfl w.heap.size 9 j0 _ 1 16 Tryz.underlying23 hj0 hy0 hy1 hy2 rfl (by omega) u9 k2 (strs ys) rfl (HOW4.out.alloc _) ⟨w4.heap.size, 0, none⟩ 1 1 [.string x] rfl rfl (cell_one_new _ _ _) (by simp [Value.oneCell']) (by unfold maxLen; omega) (by omega) (by have := HBS.out; simp; omega) ?_
                        intro v5 w5 hown5 hg5 _ hat5
                        clear hat5))
          go_roundw
          case rel =>
            refine ⟨k2 + 1, by go_num, by omega, G2.next hlt HYS.out HOW13.out HOW3.out hat3 HR3.out HL3.out HRM'.out HG3.out HB4.out (by rw [HX.out]; exact hown5) hg5⟩
          case measure => simp [intOf]; omega
        · have hkM : k2 = M := by omega
          subst hkM
          have hrm1 : rMany rText k2 s2 = (ys, s') := by have := HRM'.out; rw [this]; simp [rMany]
          have hget : rGet mn mt s0 = ((xs, ys), s') := by
            simp only [rGet, HN.out, HS1.out, Int.toNat_natCast, HRM0.out, HM.out, HS2.out, hrm1]
          have HGET := Lib.hid hget
          clear hrm1 hget hlt
          go_wp2_with fail
          go_ret2
          refine ⟨u8, u9, k, k2, rfl, HGK'.out, ?_, ?_, ?_, ?_, ak', hak', ?_, ?_⟩ <;> rw [HGET.out]
          · exact HXS.out
          · exact HOW1.out
          · exact HYS.out
          · exact HOW'.out
          · exact HRk'.out
          · exact HLK'.out
end Go.Proofs.YthlpdficpmdebaaGreat.Wire
