/- Bits that the wire's numbers want. -/
import Derived.Test.YthlpdficpmdebaaGreatWireMath
import Derived.Lib.Zigzag
import Derived.Lib.VarintBits
import Derived.Laws.BitsAllLaws
import Derived.KernelRfl
import Derived.Test.YthlpdficpmdebaaGreatProg
import Derived.Lib.BufferWrite
import Derived.Lib.AppendStr
import Derived.Lib.Hide
import Derived.Maps.AppendAt
import Derived.Deep.AppendLies
import Derived.Laws.OwnMore
import Derived.Laws.BitsLemmas
import Derived.Laws.IdiomStrings
import Derived.OwnWalk
import Derived.IntWalk
import Derived.WalkKit
import Derived.LoopTactic
import Derived.Handy
import Derived.BigQuiet
namespace Go.Proofs.YthlpdficpmdebaaGreat.Wire
open Go Go.Lib
theorem or128_all : (List.range 256).all (fun n => decide (bits .or .u8 ((n : Nat) : Int) 128 = ((n % 128 + 128 : Nat) : Int))) = true := by kernel_rfl
theorem and128_all : (List.range 256).all (fun n => decide (bits .and .u8 ((n : Nat) : Int) 128 = ((n / 128 * 128 : Nat) : Int))) = true := by kernel_rfl
theorem or128 (n : Nat) (h : n < 256) : bits .or .u8 (n : Int) 128 = ((n % 128 + 128 : Nat) : Int) := by
  have := List.all_eq_true.1 or128_all n (List.mem_range.2 h)
  exact of_decide_eq_true this
theorem and128 (n : Nat) (h : n < 256) : bits .and .u8 (n : Int) 128 = ((n / 128 * 128 : Nat) : Int) := by
  have := List.all_eq_true.1 and128_all n (List.mem_range.2 h)
  exact of_decide_eq_true this
theorem wrap_u8 (n : Int) : IntKind.u8.wrap n = n % 256 := by simp [IntKind.wrap, IntKind.bits, IntKind.signed]
/-- The byte that goes ahead of others. -/
theorem byte_more (k : Nat) : bits .or .u8 (IntKind.u8.wrap (k : Int)) 128 = ((UInt8.ofNat (k % 128 + 128)).toNat : Int) := by
  have e : IntKind.u8.wrap (k : Int) = ((k % 256 : Nat) : Int) := by rw [wrap_u8]; omega
  rw [e, or128 _ (Nat.mod_lt _ (by decide)), byte_of (by omega)]
  omega
theorem byte_last (k : Nat) (h : k < 128) : IntKind.u8.wrap (k : Int) = ((UInt8.ofNat k).toNat : Int) := by
  rw [wrap_u8, byte_of (by omega)]
  omega
/-- The zigzag as the writer reckons it. -/
theorem xor_zz {v : Int} (h : okI v) : bits .xor .u64 (IntKind.u64.wrap (IntKind.u64.wrap v * 2)) (IntKind.u64.wrap (v / 9223372036854775808)) = ((zz v : Nat) : Int) := by
  obtain ⟨h1, h2⟩ := h
  by_cases hv : 0 ≤ v
  · have e1 : IntKind.u64.wrap (IntKind.u64.wrap v * 2) = (((2 * v).toNat : Nat) : Int) := by
      rw [IntKind.wrap_u64, IntKind.wrap_u64]; omega
    have e2 : IntKind.u64.wrap (v / 9223372036854775808) = ((0 : Nat) : Int) := by
      rw [IntKind.wrap_u64, show v / 9223372036854775808 = 0 by omega]; rfl
    rw [e1, e2, bits_xor_u64_nat _ _ (by omega) (by decide), Nat.xor_zero]
    unfold zz
    rw [if_pos hv]
  · have e1 : IntKind.u64.wrap (IntKind.u64.wrap v * 2) = (((2 * v + 18446744073709551616).toNat : Nat) : Int) := by
      rw [IntKind.wrap_u64, IntKind.wrap_u64]; omega
    have e2 : IntKind.u64.wrap (v / 9223372036854775808) = ((2 ^ 64 - 1 : Nat) : Int) := by
      rw [IntKind.wrap_u64, show v / 9223372036854775808 = -1 by omega]; decide
    rw [e1, e2, bits_xor_u64_nat _ _ (by omega) (by decide), Nat.xor_comm, xor_ones64 _ (by omega)]
    unfold zz
    rw [if_neg hv]
    omega
end Go.Proofs.YthlpdficpmdebaaGreat.Wire
/- The wire's writer and reader in memory: what a writer has put, what a reader has read. -/
namespace Go.Proofs.YthlpdficpmdebaaGreat.Wire
open Go Go.RowKit Go.Lib

/-- A writer at block p: its error, its bytes, which lie in a row of its own. -/
def Wr (B p : Nat) (e : Int) (l : List UInt8) (w : World) : Prop :=
  B ≤ p ∧ ∃ v, w.heap[p]? = some (.cells #[.int .i64 e, v] 178 (0, 0)) ∧ w.ownsRow B 5 1 v l.length (byteCells l) ∧ v.ownBlock ≠ some p
theorem u8_info : (Tryz.prog.info? 5).map (fun i => (i.zero, i.size, i.bytes)) = some (some (.int .u8 0), 1, 1) := by kernel_rfl
theorem cell_p {w : World} {p i : Nat} {cs : Array Value} {t : TypeId} (h : w.heap[p]? = some (.cells cs t (0, 0))) : w.cell? ⟨p, i, none⟩ = cs[i]? := by
  simp [World.cell?, h]
theorem frozen_p {w : World} {p i : Nat} {cs : Array Value} {t : TypeId} (h : w.heap[p]? = some (.cells cs t (0, 0))) : w.frozen? ⟨p, i, none⟩ = false := by
  simp [World.frozen?, h]
theorem blk_lt {w : World} {p : Nat} {o : Obj} (h : w.heap[p]? = some o) : p < w.heap.size := by
  rcases Nat.lt_or_ge p w.heap.size with h1 | h1
  · exact h1
  · rw [Array.getElem?_eq_none h1] at h; cases h
/-- Rows and blocks of different types are apart. -/
theorem own_ne {w : World} {base : Nat} {e : TypeId} {size n : Nat} {v : Value} {xs : List Value} {p : Nat} {cs : Array Value} {t : TypeId} (h : w.ownsRow base e size v n xs) (hp : w.heap[p]? = some (.cells cs t (0, 0))) (hne : e ≠ t) : v.ownBlock ≠ some p := by
  rcases h.2 with ⟨rfl, _⟩ | ⟨g, cap, cur, rfl, _, hh, _⟩
  · simp [Value.ownBlock]
  · intro he
    have : g = p := by simpa [Value.ownBlock] using he
    subst this
    rw [hp] at hh
    injection hh with hh
    injection hh with _ h2
    exact hne h2.symm
theorem grown_size {w w' : World} {r : Option Nat} (h : w.grownBy w' r) : w.heap.size ≤ w'.heap.size := h.size
theorem below_grown {B : Nat} {a b c : World} {r : Option Nat} (h : Below B a b) (k : b.grownBy c r) (hB : B ≤ b.heap.size) (hr : ∀ g, r = some g → B ≤ g) : Below B a c :=
  ⟨k.os.trans h.os, k.tape.trans h.tape, k.output.trans h.output, Nat.le_trans h.size k.size, fun i hi => (k.block i (by omega) (fun e => by have := hr i e.symm; omega)).trans (h.block i hi)⟩
theorem own_ge {w : World} {base : Nat} {e : TypeId} {size n : Nat} {v : Value} {xs : List Value} (h : w.ownsRow base e size v n xs) : ∀ g, v.ownBlock = some g → base ≤ g := fun g hg => (h.lt g hg).1
/-- The bytes grow: what append leaves, stored. -/
theorem Wr.step {B p : Nat} {e : Int} {l : List UInt8} {n : Nat} {xs : List Value} (m : List UInt8) {w w1 : World} {v v' : Value} (hB : B ≤ p) (hp : w.heap[p]? = some (.cells #[.int .i64 e, v] 178 (0, 0))) (h0 : w.ownsRow B 5 1 v l.length (byteCells l))
    (hown : w1.ownsRow B 5 1 v' n xs) (hn : n = l.length + m.length) (hxs : xs = byteCells l ++ byteCells m) (hg : w.grownBy w1 v.ownBlock) :
    Wr B p e (l ++ m) (w1.setCell ⟨p, 1, none⟩ v') := by
  subst hn
  subst hxs
  have hp1 : w1.heap[p]? = some (.cells #[.int .i64 e, v] 178 (0, 0)) := (hg.block p (blk_lt hp) (fun h => own_ne h0 hp (by decide) h.symm)).trans hp
  have hne1 := own_ne hown hp1 (by decide)
  refine ⟨hB, v', ?_, ?_, hne1⟩
  · exact Go.Lib.heap_setCell_same (i := 1) hp1 v'
  · have := hown.kept (grownBy_setCell w1 p 1 v') (Or.inr hne1)
    simpa [byteCells, List.length_append] using this
end Go.Proofs.YthlpdficpmdebaaGreat.Wire
/- (*wire.Writer).num puts a number's bytes. -/
namespace Go.Proofs.YthlpdficpmdebaaGreat.Wire
open Go Go.RowKit Go.Lib
set_option maxRecDepth 20000 in
theorem wnum_any (B p : Nat) (e v : Int) (l : List UInt8) (w : World) (h : Wr B p e l w) (hv : okI v) (hl : l.length ≤ 10000000) :
    Calls Tryz.prog 134 #[.pointer (some ⟨p, 0, none⟩), .int .i64 v] w fun en w' => (∃ u, en = .returned u) ∧ Wr B p e (l ++ numB v) w' ∧ Below B w w' := by
  obtain ⟨i0, hi0, hz0, hz1, hz2⟩ := info_parts u8_info
  obtain ⟨hB, vv, hp, hown, hne⟩ := h
  have c0 : w.cell? ⟨p, 0, none⟩ = some (.int .i64 e) := by rw [cell_p hp]; rfl
  have c1 : w.cell? ⟨p, 1, none⟩ = some vv := by rw [cell_p hp]; rfl
  have f1 : w.frozen? ⟨p, 1, none⟩ = false := frozen_p hp
  have HP := Lib.hid hp
  have HV := Lib.hid hv
  have HLL := Lib.hid hl
  clear hp hv hl
  go_enter Tryz.func134, Tryz.ntmps134
  go_wp2_with fail
  rw [xor_zz HV.out]
  have HZ := Lib.hid (zz_lt HV.out.1 HV.out.2)
  go_loopw [4] (fun n wr => ∃ (k : Nat) (l' : List UInt8), n = .int .u64 k ∧ k < 18446744073709551616 ∧ l' ++ vb k = l ++ numB v ∧ l'.length + (vb k).length ≤ 10000010 ∧ Wr B p e l' wr ∧ Below B w wr) (fun n _ => (intOf n).toNat)
  case atStart => exact ⟨zz v, l, rfl, HZ.out, rfl, by have := vb_len10 HZ.out; have := HLL.out; omega, ⟨hB, vv, HP.out, hown, hne⟩, Below.refl _ _⟩
  case round =>
    obtain ⟨k, l', rfl, hk, hl', hlen, ⟨_, v1, hp1, hown1, hne1⟩, hb⟩ := hrel
    have d0 : wr.cell? ⟨p, 0, none⟩ = some (.int .i64 e) := by rw [cell_p hp1]; rfl
    have d1 : wr.cell? ⟨p, 1, none⟩ = some v1 := by rw [cell_p hp1]; rfl
    have g1 : wr.frozen? ⟨p, 1, none⟩ = false := frozen_p hp1
    have HP1 := Lib.hid hp1
    have HL := Lib.hid hl'
    have HK := Lib.hid hk
    have HN := Lib.hid hlen
    clear hp1 hl' hk hlen
    have hbs : B ≤ wr.heap.size := by have := blk_lt HP1.out; omega
    by_cases h7 : k < 128
    · go_wp2_with ((at_builtin
                    refine wpList_append_own_at _ rfl (.tmp 32) (.tmp 35) _ rfl B 5 i0 _ 1 1 Tryz.underlying91 hi0 hz0 hz1 hz2 rfl (by omega) v1 l'.length (byteCells l') rfl (hown1.alloc _) ⟨wr.heap.size, 0, none⟩ 1 1 [.int .u8 k] rfl rfl (cell_one_new _ _ _) (by simp [Value.oneCell']) (by have := HN.out; unfold maxLen; omega) (by have := HN.out; omega) (by simp; omega) ?_
                    intro v2 w2 hown2 hg2 _ hat2
                    obtain ⟨g2, cap2, rfl, hf2, hf3⟩ := hown2.form (by omega)
                    clear hat2
                    have hpa := (Below.heap_alloc wr (.cells #[.int .u8 (k : Int)] 5) p (blk_lt HP1.out)).trans HP1.out
                    have hp2 := (hg2.block p (blk_lt hpa) (fun hh => own_ne (hown1.alloc _) hpa (by decide) hh.symm)).trans hpa
                    have e1 : w2.cell? ⟨p, 1, none⟩ = some v1 := by rw [cell_p hp2]; rfl
                    have e2 : w2.frozen? ⟨p, 1, none⟩ = false := frozen_p hp2
                    have HP2 := Lib.hid hpa
                    clear hpa hp2))
      go_end0
      have hl2 : l' ++ [UInt8.ofNat k] = l ++ numB v := by rw [← HL.out, vb_small h7]
      refine ⟨⟨_, rfl⟩, ?_, (below_grown (hb.alloc hbs _) hg2 (by simp; omega) (own_ge hown1)).setCell (p := ⟨p, 1, none⟩) hB _⟩
      rw [← hl2]
      exact Wr.step [UInt8.ofNat k] hB HP2.out (hown1.alloc _) hown2 rfl (by simp [byteCells, byte_of (show k < 256 by omega)]) hg2
    · have h8 : 128 ≤ k := by omega
      go_wp2_with ((at_builtin
                    refine wpList_append_own_at _ rfl (.tmp 20) (.tmp 24) _ rfl B 5 i0 _ 1 1 Tryz.underlying91 hi0 hz0 hz1 hz2 rfl (by omega) v1 l'.length (byteCells l') rfl (hown1.alloc _) ⟨wr.heap.size, 0, none⟩ 1 1 [.int .u8 (bits .or .u8 ((k : Int) % 256) 128)] rfl rfl (cell_one_new _ _ _) (by simp [Value.oneCell']) (by have := HN.out; unfold maxLen; omega) (by have := HN.out; omega) (by simp; omega) ?_
                    intro v2 w2 hown2 hg2 _ hat2
                    obtain ⟨g2, cap2, rfl, hf2, hf3⟩ := hown2.form (by omega)
                    clear hat2
                    have hpa := (Below.heap_alloc wr (.cells #[.int .u8 (bits .or .u8 ((k : Int) % 256) 128)] 5) p (blk_lt HP1.out)).trans HP1.out
                    have hp2 := (hg2.block p (blk_lt hpa) (fun hh => own_ne (hown1.alloc _) hpa (by decide) hh.symm)).trans hpa
                    have e1 : w2.cell? ⟨p, 1, none⟩ = some v1 := by rw [cell_p hp2]; rfl
                    have e2 : w2.frozen? ⟨p, 1, none⟩ = false := frozen_p hp2
                    have HP2 := Lib.hid hpa
                    clear hpa hp2))
      go_roundw
      case rel =>
        have hvb := vb_big h7
        refine ⟨k / 128, l' ++ [UInt8.ofNat (k % 128 + 128)], by simp, by have := HK.out; omega, ?_, ?_, ?_, (below_grown (hb.alloc hbs _) hg2 (by simp; omega) (own_ge hown1)).setCell (p := ⟨p, 1, none⟩) hB _⟩
        · rw [← HL.out, hvb]; simp
        · have := HN.out; rw [hvb] at this; simp only [List.length_cons, List.length_append, List.length_nil] at this ⊢; omega
        · refine Wr.step [UInt8.ofNat (k % 128 + 128)] hB HP2.out (hown1.alloc _) hown2 rfl ?_ hg2
          have := byte_more k
          rw [wrap_u8] at this
          simp [byteCells, this]
      case measure => simp [intOf]; omega
end Go.Proofs.YthlpdficpmdebaaGreat.Wire
/- (*wire.Err).Wrong, Fail; (*wire.Writer).Num: numbers put. -/
namespace Go.Proofs.YthlpdficpmdebaaGreat.Wire
open Go Go.RowKit Go.Lib
theorem wrong_any (p : Nat) (e : Int) (w : World) (h : w.cell? ⟨p, 0, none⟩ = some (.int .i64 e)) :
    Calls Tryz.prog 133 #[.pointer (some ⟨p, 0, none⟩)] w fun en w' => en = .returned (.int .i64 e) ∧ w = w' := by
  go_enter Tryz.func133, Tryz.ntmps133
  go_wp2
  go_ret
  exact ⟨rfl, rfl⟩
theorem fail_any (p : Nat) (x : Int) (w : World) (h : w.cell? ⟨p, 0, none⟩ = some (.int .i64 0)) (hf : w.frozen? ⟨p, 0, none⟩ = false) :
    Calls Tryz.prog 135 #[.pointer (some ⟨p, 0, none⟩), .int .i64 x] w fun en w' => (∃ u, en = .returned u) ∧ w.setCell ⟨p, 0, none⟩ (.int .i64 x) = w' := by
  go_enter Tryz.func135, Tryz.ntmps135
  go_wp2
  go_end0
  exact ⟨⟨_, rfl⟩, rfl⟩
/-- Numbers in memory, one behind the other. -/
def IntsAt (w : World) (A : Option Addr) (xs : List Int) : Prop := xs ≠ [] → ∃ ad, A = some ad ∧ ∀ j x, xs[j]? = some x → w.cell? (ad.add j) = some (.int .i64 x)
theorem Wr.cells {B p : Nat} {e : Int} {l : List UInt8} {w : World} (h : Wr B p e l w) : w.cell? ⟨p, 0, none⟩ = some (.int .i64 e) ∧ w.frozen? ⟨p, 0, none⟩ = false ∧ B ≤ w.heap.size := by
  obtain ⟨hB, v, hp, _⟩ := h
  exact ⟨by rw [cell_p hp]; rfl, frozen_p hp, by have := blk_lt hp; omega⟩
theorem flat_snoc {α : Type} (f : α → List UInt8) (xs : List α) (k : Nat) (x : α) (h : xs[k]? = some x) : ((xs.take (k + 1)).map f).flatten = ((xs.take k).map f).flatten ++ f x := by
  obtain ⟨hk, rfl⟩ := List.getElem?_eq_some_iff.1 h
  rw [List.take_succ_eq_append_getElem hk]
  simp only [List.map_append, List.flatten_append, List.map_cons, List.map_nil, List.flatten_cons, List.flatten_nil, List.append_nil]
theorem flat_len (xs : List Int) (h : ∀ x ∈ xs, okI x) : ((xs.map numB).flatten).length ≤ 10 * xs.length := by
  induction xs with
  | nil => simp
  | cons x xs ih =>
    have h1 := vb_len10 (zz_lt (h x (by simp)).1 (h x (by simp)).2)
    have h2 := ih (fun u hu => h u (by simp [hu]))
    simp only [List.map_cons, List.flatten_cons, List.length_append, List.length_cons, numB] at h2 ⊢
    omega
set_option maxRecDepth 20000 in
theorem wnums_any (B p : Nat) (l : List UInt8) (A : Option Addr) (n c : Nat) (xs : List Int) (w : World) (h : Wr B p 0 l w) (hx : IntsAt w A xs) (hn : xs.length = n) (hs : n ≤ 1 ∨ ∀ ad, A = some ad → ad.block < B)
    (hok : ∀ x ∈ xs, okI x) (hl : l.length + 10 * n ≤ 10000000) (hn2 : n ≤ 1000000) :
    Calls Tryz.prog 32 #[.pointer (some ⟨p, 0, none⟩), .slice A n c] w fun en w' => (∃ u, en = .returned u) ∧ Wr B p 0 (l ++ (xs.map numB).flatten) w' ∧ Below B w w' := by
  have HW := Lib.hid h
  have HX := Lib.hid hx
  have HNN := Lib.hid hn
  have HS := Lib.hid hs
  have HOK := Lib.hid hok
  have HL := Lib.hid hl
  clear h hx hn hs hok hl
  go_enter Tryz.func32, Tryz.ntmps32
  go_wp2_with fail
  go_loopw [8] (fun i wr => ∃ k : Nat, i = .int .i64 k ∧ k ≤ n ∧ (k = 0 → wr = w) ∧ Wr B p 0 (l ++ ((xs.take k).map numB).flatten) wr ∧ Below B w wr) (fun i _ => n - (intOf i).toNat)
  case atStart => exact ⟨0, rfl, Nat.zero_le _, fun _ => rfl, by simpa using HW.out, Below.refl _ _⟩
  case round =>
    obtain ⟨k, rfl, hk, hk0, hW, hb⟩ := hrel
    obtain ⟨d0, d1, d2⟩ := hW.cells
    have HK0 := Lib.hid hk0
    have HW1 := Lib.hid hW
    clear hk0 hW
    by_cases hlt : k < n
    · have hxl : k < xs.length := by have := HNN.out; omega
      obtain ⟨ad, hA, hcs⟩ := HX.out (by intro e0; rw [e0] at hxl; simp at hxl)
      subst hA
      have hxk : xs[k]? = some xs[k] := List.getElem?_eq_getElem hxl
      have hcell : wr.cell? (ad.add k) = some (.int .i64 xs[k]) := by
        by_cases hk1 : k = 0
        · rw [HK0.out hk1]; exact hcs _ _ hxk
        · rcases HS.out with hs | hs
          · omega
          · rw [hb.cell (p := ad.add k) (by unfold Addr.add; split <;> exact hs ad rfl)]
            exact hcs _ _ hxk
      have HC := Lib.hid hcs
      have HXK := Lib.hid hxk
      have HOKk := Lib.hid (HOK.out _ (List.getElem_mem hxl))
      generalize xs[k] = x at hcell HXK HOKk
      clear hcs hxk
      go_wp2_with (first
        | (go_at_call 133; refine (wrong_any _ _ _ d0).mono ?_; rintro e w1 ⟨rfl, rfl⟩)
        | (go_at_call 134; refine (wnum_any B p 0 x _ _ HW1.out HOKk.out (by have h1 := HL.out; have h2 := flat_len (xs.take k) (fun y hy => HOK.out y (List.mem_of_mem_take hy)); simp only [List.length_append, List.length_take] at h2 ⊢; omega)).mono ?_; rintro e w1 ⟨⟨u, rfl⟩, hW1, hb1⟩))
      go_roundw
      case rel => exact ⟨k + 1, by go_num, by omega, fun h => absurd h (by omega), by rw [flat_snoc numB xs k x HXK.out, ← List.append_assoc]; exact hW1, hb.trans hb1⟩
      case measure => simp [intOf]; omega
    · go_wp2
      go_end0
      have h3 := HW1.out
      rw [List.take_of_length_le (by have := HNN.out; omega)] at h3
      exact ⟨⟨_, rfl⟩, h3, hb⟩
set_option maxRecDepth 20000 in
/-- Behind an error nothing is put. -/
theorem wnums_bad (B p : Nat) (e : Int) (he : e ≠ 0) (l : List UInt8) (A : Option Addr) (n c : Nat) (xs : List Int) (w : World) (h : Wr B p e l w) (hx : IntsAt w A xs) (hn : xs.length = n) (hn2 : n ≤ 1000000) :
    Calls Tryz.prog 32 #[.pointer (some ⟨p, 0, none⟩), .slice A n c] w fun en w' => (∃ u, en = .returned u) ∧ w = w' := by
  obtain ⟨d0, d1, d2⟩ := h.cells
  clear h
  have HX := Lib.hid hx
  have HNN := Lib.hid hn
  clear hx hn
  by_cases h0 : 0 < n
  · have hxl : 0 < xs.length := by have := HNN.out; omega
    obtain ⟨ad, hA, hcs⟩ := HX.out (by intro e0; rw [e0] at hxl; simp at hxl)
    subst hA
    have hcell : w.cell? ad = some (.int .i64 xs[0]) := by
      have := hcs 0 _ (List.getElem?_eq_getElem hxl)
      simpa [Addr.add] using this
    generalize xs[0] = x at hcell
    clear hcs
    have hb1 : (e == 0) = false := by simpa using he
    have hb2 : (e != 0) = true := by simpa using he
    go_enter Tryz.func32, Tryz.ntmps32
    go_wp2_with fail
    refine wp_loop_rounds 1 ?_
    rw [rounds_succ]
    go_wp2_with (go_at_call 133; refine (wrong_any _ _ _ d0).mono ?_; rintro e w1 ⟨rfl, rfl⟩)
    refine bodyPost_ret (results_none rfl _ _ _) rfl ?_
    exact ⟨⟨_, rfl⟩, rfl⟩
  · go_enter Tryz.func32, Tryz.ntmps32
    go_wp2_with fail
    refine wp_loop_rounds 1 ?_
    rw [rounds_succ]
    go_wp2
    go_end0
    exact ⟨⟨_, rfl⟩, rfl⟩
end Go.Proofs.YthlpdficpmdebaaGreat.Wire
