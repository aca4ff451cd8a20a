/- Plain mathematics of the wire: numbers in groups of seven bits, texts behind their lengths; what was put is got, and what is got of a beginning is got of all. -/
import Derived.Below
import Derived.Lib.Zigzag
import Derived.Lib.VarintBits
import Derived.Laws.BitsAllLaws
import Derived.KernelRfl
import Derived.Test.YtmfmjhklajmhoaaGreatProg
import Derived.Lib.BufferWrite
import Derived.Lib.AppendStr
import Derived.Lib.Hide
import Derived.Maps.AppendAt
import Derived.Deep.AppendLies
import Derived.Laws.OwnMore
import Derived.Laws.BitsLemmas
import Derived.Laws.IdiomStrings
import Derived.OwnWalk
import Derived.IntWalk
import Derived.WalkKit
import Derived.LoopTactic
import Derived.Handy
import Derived.BigQuiet
namespace Go.Proofs.YtmfmjhklajmhoaaGreat.Wire
def zz (v : Int) : Nat := if 0 ≤ v then (2 * v).toNat else (-2 * v - 1).toNat
theorem zz_lt {v : Int} (h1 : -9223372036854775808 ≤ v) (h2 : v ≤ 9223372036854775807) : zz v < 18446744073709551616 := by
 unfold zz; split <;> omega
def vb (n : Nat) : List UInt8 := if n < 128 then [UInt8.ofNat n] else UInt8.ofNat (n % 128 + 128) :: vb (n / 128)
termination_by n
decreasing_by omega
theorem vb_small {n : Nat} (h : n < 128) : vb n = [UInt8.ofNat n] := by rw [vb, if_pos h]
theorem vb_big {n : Nat} (h : ¬ n < 128) : vb n = UInt8.ofNat (n % 128 + 128) :: vb (n / 128) := by rw [vb, if_neg h]
theorem vb_len : ∀ (k n : Nat), n < 128 ^ (k + 1) → (vb n).length ≤ k + 1
 | 0, n, h => by rw [vb_small (by simpa using h)]; simp
 | k + 1, n, h => by
   by_cases h1 : n < 128
   · rw [vb_small h1]; simp
   · rw [vb_big h1]
     have := vb_len k (n / 128) (by rw [Nat.pow_succ] at h; exact Nat.div_lt_of_lt_mul (by omega))
     simp only [List.length_cons]
     omega
theorem vb_len10 {n : Nat} (h : n < 18446744073709551616) : (vb n).length ≤ 10 := vb_len 9 n (by omega)
theorem vb_pos (n : Nat) : 0 < (vb n).length := by
 rw [vb]; split <;> simp
theorem byte_of {n : Nat} (h : n < 256) : (UInt8.ofNat n).toNat = n := by
 simp only [UInt8.toNat_ofNat']; omega
structure RS where
 e : Int
 l : List UInt8
def Ext {α : Type} (f : RS → α × RS) : Prop := ∀ (s : RS) (m : List UInt8), (f s).2.e = 0 → s.e = 0 ∧ f ⟨0, s.l ++ m⟩ = ((f s).1, ⟨0, (f s).2.l ++ m⟩)
def numB (v : Int) : List UInt8 := vb (zz v)
def textB (t : List UInt8) : List UInt8 := numB t.length ++ t
def okI (v : Int) : Prop := -9223372036854775808 ≤ v ∧ v ≤ 9223372036854775807
end Go.Proofs.YtmfmjhklajmhoaaGreat.Wire
/- Bits that the wire's numbers want. -/
namespace Go.Proofs.YtmfmjhklajmhoaaGreat.Wire
open Go Go.Lib
theorem or128_all : (List.range 256).all (fun n => decide (bits .or .u8 ((n : Nat) : Int) 128 = ((n % 128 + 128 : Nat) : Int))) = true := by kernel_rfl
theorem or128 (n : Nat) (h : n < 256) : bits .or .u8 (n : Int) 128 = ((n % 128 + 128 : Nat) : Int) := by
 have := List.all_eq_true.1 or128_all n (List.mem_range.2 h)
 exact of_decide_eq_true this
theorem wrap_u8 (n : Int) : IntKind.u8.wrap n = n % 256 := by simp [IntKind.wrap, IntKind.bits, IntKind.signed]
theorem byte_more (k : Nat) : bits .or .u8 (IntKind.u8.wrap (k : Int)) 128 = ((UInt8.ofNat (k % 128 + 128)).toNat : Int) := by
 have e : IntKind.u8.wrap (k : Int) = ((k % 256 : Nat) : Int) := by rw [wrap_u8]; omega
 rw [e, or128 _ (Nat.mod_lt _ (by decide)), byte_of (by omega)]
 omega
theorem xor_zz {v : Int} (h : okI v) : bits .xor .u64 (IntKind.u64.wrap (IntKind.u64.wrap v * 2)) (IntKind.u64.wrap (v / 9223372036854775808)) = ((zz v : Nat) : Int) := by
 obtain ⟨h1, h2⟩ := h
 by_cases hv : 0 ≤ v
 · have e1 : IntKind.u64.wrap (IntKind.u64.wrap v * 2) = (((2 * v).toNat : Nat) : Int) := by
    rw [IntKind.wrap_u64, IntKind.wrap_u64]; omega
   have e2 : IntKind.u64.wrap (v / 9223372036854775808) = ((0 : Nat) : Int) := by
    rw [IntKind.wrap_u64, show v / 9223372036854775808 = 0 by omega]; rfl
   rw [e1, e2, bits_xor_u64_nat _ _ (by omega) (by decide), Nat.xor_zero]
   unfold zz
   rw [if_pos hv]
 · have e1 : IntKind.u64.wrap (IntKind.u64.wrap v * 2) = (((2 * v + 18446744073709551616).toNat : Nat) : Int) := by
    rw [IntKind.wrap_u64, IntKind.wrap_u64]; omega
   have e2 : IntKind.u64.wrap (v / 9223372036854775808) = ((2 ^ 64 - 1 : Nat) : Int) := by
    rw [IntKind.wrap_u64, show v / 9223372036854775808 = -1 by omega]; decide
   rw [e1, e2, bits_xor_u64_nat _ _ (by omega) (by decide), Nat.xor_comm, xor_ones64 _ (by omega)]
   unfold zz
   rw [if_neg hv]
   omega
end Go.Proofs.YtmfmjhklajmhoaaGreat.Wire
/- The wire's writer and reader in memory: what a writer has put, what a reader has read. -/
namespace Go.Proofs.YtmfmjhklajmhoaaGreat.Wire
open Go Go.RowKit Go.Lib
def Wr (B p : Nat) (e : Int) (l : List UInt8) (w : World) : Prop :=
 B ≤ p ∧ ∃ v, w.heap[p]? = some (.cells #[.int .i64 e, v] 192 (0, 0)) ∧ w.ownsRow B 5 1 v l.length (byteCells l) ∧ v.ownBlock ≠ some p
theorem u8_info : (Tryz.prog.info? 5).map (fun i => (i.zero, i.size, i.bytes)) = some (some (.int .u8 0), 1, 1) := by kernel_rfl
theorem cell_p {w : World} {p i : Nat} {cs : Array Value} {t : TypeId} (h : w.heap[p]? = some (.cells cs t (0, 0))) : w.cell? ⟨p, i, none⟩ = cs[i]? := by
 simp [World.cell?, h]
theorem frozen_p {w : World} {p i : Nat} {cs : Array Value} {t : TypeId} (h : w.heap[p]? = some (.cells cs t (0, 0))) : w.frozen? ⟨p, i, none⟩ = false := by
 simp [World.frozen?, h]
theorem blk_lt {w : World} {p : Nat} {o : Obj} (h : w.heap[p]? = some o) : p < w.heap.size := by
 rcases Nat.lt_or_ge p w.heap.size with h1 | h1
 · exact h1
 · rw [Array.getElem?_eq_none h1] at h; cases h
theorem own_ne {w : World} {base : Nat} {e : TypeId} {size n : Nat} {v : Value} {xs : List Value} {p : Nat} {cs : Array Value} {t : TypeId} (h : w.ownsRow base e size v n xs) (hp : w.heap[p]? = some (.cells cs t (0, 0))) (hne : e ≠ t) : v.ownBlock ≠ some p := by
 rcases h.2 with ⟨rfl, _⟩ | ⟨g, cap, cur, rfl, _, hh, _⟩
 · simp [Value.ownBlock]
 · intro he
   have : g = p := by simpa [Value.ownBlock] using he
   subst this
   rw [hp] at hh
   injection hh with hh
   injection hh with _ h2
   exact hne h2.symm
theorem below_grown {B : Nat} {a b c : World} {r : Option Nat} (h : Below B a b) (k : b.grownBy c r) (hB : B ≤ b.heap.size) (hr : ∀ g, r = some g → B ≤ g) : Below B a c :=
 ⟨k.os.trans h.os, k.tape.trans h.tape, k.output.trans h.output, Nat.le_trans h.size k.size, fun i hi => (k.block i (by omega) (fun e => by have := hr i e.symm; omega)).trans (h.block i hi)⟩
theorem own_ge {w : World} {base : Nat} {e : TypeId} {size n : Nat} {v : Value} {xs : List Value} (h : w.ownsRow base e size v n xs) : ∀ g, v.ownBlock = some g → base ≤ g := fun g hg => (h.lt g hg).1
theorem Wr.step {B p : Nat} {e : Int} {l : List UInt8} {n : Nat} {xs : List Value} (m : List UInt8) {w w1 : World} {v v' : Value} (hB : B ≤ p) (hp : w.heap[p]? = some (.cells #[.int .i64 e, v] 192 (0, 0))) (h0 : w.ownsRow B 5 1 v l.length (byteCells l))
 (hown : w1.ownsRow B 5 1 v' n xs) (hn : n = l.length + m.length) (hxs : xs = byteCells l ++ byteCells m) (hg : w.grownBy w1 v.ownBlock) :
 Wr B p e (l ++ m) (w1.setCell ⟨p, 1, none⟩ v') := by
 subst hn
 subst hxs
 have hp1 : w1.heap[p]? = some (.cells #[.int .i64 e, v] 192 (0, 0)) := (hg.block p (blk_lt hp) (fun h => own_ne h0 hp (by decide) h.symm)).trans hp
 have hne1 := own_ne hown hp1 (by decide)
 refine ⟨hB, v', ?_, ?_, hne1⟩
 · exact Go.Lib.heap_setCell_same (i := 1) hp1 v'
 · have := hown.kept (grownBy_setCell w1 p 1 v') (Or.inr hne1)
   simpa [byteCells, List.length_append] using this
end Go.Proofs.YtmfmjhklajmhoaaGreat.Wire
/- (*wire.Writer).num puts a number's bytes. -/
namespace Go.Proofs.YtmfmjhklajmhoaaGreat.Wire
open Go Go.RowKit Go.Lib
end Go.Proofs.YtmfmjhklajmhoaaGreat.Wire
/- (*wire.Err).Wrong, Fail; (*wire.Writer).Num: numbers put. -/
namespace Go.Proofs.YtmfmjhklajmhoaaGreat.Wire
open Go Go.RowKit Go.Lib
theorem wrong_any (p : Nat) (e : Int) (w : World) (h : w.cell? ⟨p, 0, none⟩ = some (.int .i64 e)) :
 Calls Tryz.prog 96 #[.pointer (some ⟨p, 0, none⟩)] w fun en w' => en = .returned (.int .i64 e) ∧ w = w' := by
 go_enter Tryz.func96, Tryz.ntmps96
 go_wp2
 go_ret
 exact ⟨rfl, rfl⟩
theorem fail_any (p : Nat) (x : Int) (w : World) (h : w.cell? ⟨p, 0, none⟩ = some (.int .i64 0)) (hf : w.frozen? ⟨p, 0, none⟩ = false) :
 Calls Tryz.prog 163 #[.pointer (some ⟨p, 0, none⟩), .int .i64 x] w fun en w' => (∃ u, en = .returned u) ∧ w.setCell ⟨p, 0, none⟩ (.int .i64 x) = w' := by
 go_enter Tryz.func163, Tryz.ntmps163
 go_wp2
 go_end0
 exact ⟨⟨_, rfl⟩, rfl⟩
def IntsAt (w : World) (A : Option Addr) (xs : List Int) : Prop := xs ≠ [] → ∃ ad, A = some ad ∧ ∀ j x, xs[j]? = some x → w.cell? (ad.add j) = some (.int .i64 x)
theorem Wr.cells {B p : Nat} {e : Int} {l : List UInt8} {w : World} (h : Wr B p e l w) : w.cell? ⟨p, 0, none⟩ = some (.int .i64 e) ∧ w.frozen? ⟨p, 0, none⟩ = false ∧ B ≤ w.heap.size := by
 obtain ⟨hB, v, hp, _⟩ := h
 exact ⟨by rw [cell_p hp]; rfl, frozen_p hp, by have := blk_lt hp; omega⟩
theorem flat_snoc {α : Type} (f : α → List UInt8) (xs : List α) (k : Nat) (x : α) (h : xs[k]? = some x) : ((xs.take (k + 1)).map f).flatten = ((xs.take k).map f).flatten ++ f x := by
 obtain ⟨hk, rfl⟩ := List.getElem?_eq_some_iff.1 h
 rw [List.take_succ_eq_append_getElem hk]
 simp only [List.map_append, List.flatten_append, List.map_cons, List.map_nil, List.flatten_cons, List.flatten_nil, List.append_nil]
theorem flat_len (xs : List Int) (h : ∀ x ∈ xs, okI x) : ((xs.map numB).flatten).length ≤ 10 * xs.length := by
 induction xs with
 | nil => simp
 | cons x xs ih =>
   have h1 := vb_len10 (zz_lt (h x (by simp)).1 (h x (by simp)).2)
   have h2 := ih (fun u hu => h u (by simp [hu]))
   simp only [List.map_cons, List.flatten_cons, List.length_append, List.length_cons, numB] at h2 ⊢
   omega
set_option maxRecDepth 20000 in
theorem wnums_bad (B p : Nat) (e : Int) (he : e ≠ 0) (l : List UInt8) (A : Option Addr) (n c : Nat) (xs : List Int) (w : World) (h : Wr B p e l w) (hx : IntsAt w A xs) (hn : xs.length = n) (hn2 : n ≤ 1000000) :
 Calls Tryz.prog 80 #[.pointer (some ⟨p, 0, none⟩), .slice A n c] w fun en w' => (∃ u, en = .returned u) ∧ w = w' := by
 obtain ⟨d0, d1, d2⟩ := h.cells
 clear h
 have HX := Lib.hid hx
 have HNN := Lib.hid hn
 clear hx hn
 by_cases h0 : 0 < n
 · have hxl : 0 < xs.length := by have := HNN.out; omega
   obtain ⟨ad, hA, hcs⟩ := HX.out (by intro e0; rw [e0] at hxl; simp at hxl)
   subst hA
   have hcell : w.cell? ad = some (.int .i64 xs[0]) := by
    have := hcs 0 _ (List.getElem?_eq_getElem hxl)
    simpa [Addr.add] using this
   generalize xs[0] = x at hcell
   clear hcs
   have hb1 : (e == 0) = false := by simpa using he
   have hb2 : (e != 0) = true := by simpa using he
   go_enter Tryz.func80, Tryz.ntmps80
   go_wp2_with fail
   refine wp_loop_rounds 1 ?_
   rw [rounds_succ]
   go_wp2_with (go_at_call 96; refine (wrong_any _ _ _ d0).mono ?_; rintro e w1 ⟨rfl, rfl⟩)
   refine bodyPost_ret (results_none rfl _ _ _) rfl ?_
   exact ⟨⟨_, rfl⟩, rfl⟩
 · go_enter Tryz.func80, Tryz.ntmps80
   go_wp2_with fail
   refine wp_loop_rounds 1 ?_
   rw [rounds_succ]
   go_wp2
   go_end0
   exact ⟨⟨_, rfl⟩, rfl⟩
end Go.Proofs.YtmfmjhklajmhoaaGreat.Wire
/- (*wire.Writer).Text: texts put. -/
namespace Go.Proofs.YtmfmjhklajmhoaaGreat.Wire
open Go Go.RowKit Go.Lib
def TextsAt (w : World) (A : Option Addr) (xs : List ByteArray) : Prop := xs ≠ [] → ∃ ad, A = some ad ∧ ∀ j x, xs[j]? = some x → w.cell? (ad.add j) = some (.string x)
def tb (s : ByteArray) : List UInt8 := textB s.data.toList
theorem sz (s : ByteArray) : s.data.toList.length = s.size := by rw [Array.length_toList]; rfl
theorem tb_len (s : ByteArray) (h : s.size ≤ 1000) : (tb s).length ≤ 1010 := by
 have h0 := sz s
 have h1 := vb_len10 (zz_lt (v := (s.data.toList.length : Int)) (by omega) (by omega))
 simp only [tb, textB, numB, List.length_append] at h1 ⊢
 omega
theorem flat_tlen (xs : List ByteArray) (h : ∀ x ∈ xs, x.size ≤ 1000) : ((xs.map tb).flatten).length ≤ 1010 * xs.length := by
 induction xs with
 | nil => simp
 | cons x xs ih =>
   have h1 := tb_len x (h x (by simp))
   have h2 := ih (fun u hu => h u (by simp [hu]))
   simp only [List.map_cons, List.flatten_cons, List.length_append, List.length_cons] at h2 ⊢
   omega
theorem Wr.fail {B p : Nat} {l : List UInt8} {w : World} (h : Wr B p 0 l w) (x : Int) : Wr B p x l (w.setCell ⟨p, 0, none⟩ (.int .i64 x)) := by
 obtain ⟨hB, v, hp, hown, hne⟩ := h
 exact ⟨hB, v, Go.Lib.heap_setCell_same (i := 0) hp _, hown.kept (grownBy_setCell w p 0 _) (Or.inr hne), hne⟩
theorem strB (x : ByteArray) (l : List Value) : l ++ strCells x = l ++ byteCells x.data.toList := rfl
end Go.Proofs.YtmfmjhklajmhoaaGreat.Wire
/- Text behind an error; (*wire.Writer).Bytes; wire.NewWriter. -/
namespace Go.Proofs.YtmfmjhklajmhoaaGreat.Wire
open Go Go.RowKit Go.Lib
set_option maxRecDepth 20000 in
theorem wtexts_bad (B p : Nat) (e : Int) (he : e ≠ 0) (l : List UInt8) (A : Option Addr) (n c : Nat) (xs : List ByteArray) (w : World) (h : Wr B p e l w) (hx : TextsAt w A xs) (hn : xs.length = n) (hn2 : n ≤ 1000000) :
 Calls Tryz.prog 84 #[.pointer (some ⟨p, 0, none⟩), .slice A n c] w fun en w' => (∃ u, en = .returned u) ∧ w = w' := by
 obtain ⟨d0, d1, d2⟩ := h.cells
 clear h
 have HX := Lib.hid hx
 have HNN := Lib.hid hn
 clear hx hn
 by_cases h0 : 0 < n
 · have hxl : 0 < xs.length := by have := HNN.out; omega
   obtain ⟨ad, hA, hcs⟩ := HX.out (by intro e0; rw [e0] at hxl; simp at hxl)
   subst hA
   have hcell : w.cell? ad = some (.string xs[0]) := by
    have := hcs 0 _ (List.getElem?_eq_getElem hxl)
    simpa [Addr.add] using this
   generalize xs[0] = x at hcell
   clear hcs
   have hb1 : (e == 0) = false := by simpa using he
   have hb2 : (e != 0) = true := by simpa using he
   go_enter Tryz.func84, Tryz.ntmps84
   go_wp2_with fail
   refine wp_loop_rounds 1 ?_
   rw [rounds_succ]
   go_wp2_with (go_at_call 96; refine (wrong_any _ _ _ d0).mono ?_; rintro e w1 ⟨rfl, rfl⟩)
   refine bodyPost_ret (results_none rfl _ _ _) rfl ?_
   exact ⟨⟨_, rfl⟩, rfl⟩
 · go_enter Tryz.func84, Tryz.ntmps84
   go_wp2_with fail
   refine wp_loop_rounds 1 ?_
   rw [rounds_succ]
   go_wp2
   go_end0
   exact ⟨⟨_, rfl⟩, rfl⟩
theorem conv_nil (w : World) (c : Nat) : (convert 190 9 (.slice none 0 c)).run Tryz.prog w = .ok (.string ⟨#[]⟩) w := by
 rw [run_convert_bytes_string w 190 9 5 none 0 c Tryz.underlying190 Tryz.underlying5 Tryz.underlying9]
 simp [Conv.bytesToString]
 rfl
theorem conv_row {B : Nat} {w : World} {v : Value} {l : List UInt8} (h : w.ownsRow B 5 1 v l.length (byteCells l)) : (convert 190 9 v).run Tryz.prog w = .ok (.string ⟨l.toArray⟩) w := by
 rcases h.2 with ⟨rfl, h0⟩ | ⟨g, cap, cur, rfl, _, hh, _, _, _, htk⟩
 · have : l = [] := List.eq_nil_of_length_eq_zero h0
   subst this
   exact conv_nil w 0
 · refine run_convert_bytes_back w _ _ 5 ⟨g, 0, none⟩ cap l Tryz.underlying190 Tryz.underlying5 Tryz.underlying9 ?_
   intro j hj
   refine h.cells (g := g) rfl j _ ?_
   simp [byteCells, hj]
theorem wbytes_any (B p : Nat) (l : List UInt8) (w : World) (h : Wr B p 0 l w) :
 Calls Tryz.prog 32 #[.pointer (some ⟨p, 0, none⟩)] w fun en w' => en = .returned (.tuple #[.string ⟨l.toArray⟩, .int .i64 0]) ∧ w = w' := by
 obtain ⟨hB, v, hp, hown, hne⟩ := h
 have d0 : w.cell? ⟨p, 0, none⟩ = some (.int .i64 0) := by rw [cell_p hp]; rfl
 have d1 : w.cell? ⟨p, 1, none⟩ = some v := by rw [cell_p hp]; rfl
 have hcv := conv_row hown
 clear hp hown hne
 go_enter Tryz.func32, Tryz.ntmps32
 go_wp2_with (go_at_call 96; refine (wrong_any _ _ _ d0).mono ?_; rintro e w1 ⟨rfl, rfl⟩)
 go_ret2
 exact ⟨rfl, rfl⟩
theorem wbytes_bad (B p : Nat) (e : Int) (he : e ≠ 0) (l : List UInt8) (w : World) (h : Wr B p e l w) :
 Calls Tryz.prog 32 #[.pointer (some ⟨p, 0, none⟩)] w fun en w' => en = .returned (.tuple #[.string ⟨#[]⟩, .int .i64 e]) ∧ w = w' := by
 obtain ⟨d0, d1, d2⟩ := h.cells
 clear h
 have hb1 : (e == 0) = false := by simpa using he
 have hb2 : (e != 0) = true := by simpa using he
 go_enter Tryz.func32, Tryz.ntmps32
 go_wp2_with (go_at_call 96; refine (wrong_any _ _ _ d0).mono ?_; rintro e w1 ⟨rfl, rfl⟩)
 go_ret2
 exact ⟨rfl, rfl⟩
end Go.Proofs.YtmfmjhklajmhoaaGreat.Wire
/- (*wire.Writer).num puts a number's bytes, and leaves every row that is none of bytes alone. -/
namespace Go.Proofs.YtmfmjhklajmhoaaGreat.Wire
open Go Go.RowKit Go.Lib
def Keeps (p : Nat) (w w' : World) : Prop := ∀ b cs t, w.heap[b]? = some (.cells cs t (0, 0)) → t ≠ 5 → b ≠ p → w'.heap[b]? = w.heap[b]?
theorem Keeps.refl (p : Nat) (w : World) : Keeps p w w := fun _ _ _ _ _ _ => rfl
theorem Keeps.trans {p : Nat} {a b c : World} (h : Keeps p a b) (k : Keeps p b c) : Keeps p a c := fun x cs t e n m => (k x cs t ((h x cs t e n m).trans e) n m).trans (h x cs t e n m)
theorem Keeps.put {p i : Nat} {w w1 : World} {o : Obj} {base size n : Nat} {v : Value} {xs : List Value} (hown : (w.alloc o).ownsRow base 5 size v n xs) (hg : (w.alloc o).grownBy w1 v.ownBlock) (u : Value) : Keeps p w (w1.setCell ⟨p, i, none⟩ u) := by
 intro b cs t hb hne hbp
 have h1 := (Below.heap_alloc w o b (blk_lt hb)).trans hb
 have h2 := (hg.block b (blk_lt h1) (fun hh => own_ne hown h1 (Ne.symm hne) hh.symm)).trans h1
 exact ((grownBy_setCell w1 p i u).block b (blk_lt h2) (fun e => hbp (Option.some.inj e))).trans (h2.trans hb.symm)
theorem Keeps.put0 {p i : Nat} {w w1 : World} {base size n : Nat} {v : Value} {xs : List Value} (hown : w.ownsRow base 5 size v n xs) (hg : w.grownBy w1 v.ownBlock) (u : Value) : Keeps p w (w1.setCell ⟨p, i, none⟩ u) := by
 intro b cs t hb hne hbp
 have h2 := (hg.block b (blk_lt hb) (fun hh => own_ne hown hb (Ne.symm hne) hh.symm)).trans hb
 exact ((grownBy_setCell w1 p i u).block b (blk_lt h2) (fun e => hbp (Option.some.inj e))).trans (h2.trans hb.symm)
theorem Keeps.set (p i : Nat) (w : World) (u : Value) : Keeps p w (w.setCell ⟨p, i, none⟩ u) := fun b _ _ hb _ hbp => (grownBy_setCell w p i u).block b (blk_lt hb) (fun e => hbp (Option.some.inj e))
theorem cell_of_heap {w w' : World} {b : Nat} (h : w'.heap[b]? = w.heap[b]?) (o : Nat) : w'.cell? ⟨b, o, none⟩ = w.cell? ⟨b, o, none⟩ := by simp only [World.cell?, h]
theorem cell_add_of_heap {w w' : World} {q : Nat} (h : w'.heap[q]? = w.heap[q]?) (k : Nat) : w'.cell? ((⟨q, 0, none⟩ : Addr).add k) = w.cell? ((⟨q, 0, none⟩ : Addr).add k) := by unfold Addr.add; split <;> exact cell_of_heap h _
set_option maxRecDepth 20000 in
theorem wnum_k (B p : Nat) (e v : Int) (l : List UInt8) (w : World) (h : Wr B p e l w) (hv : okI v) (hl : l.length ≤ 2000000000000) :
 Calls Tryz.prog 157 #[.pointer (some ⟨p, 0, none⟩), .int .i64 v] w fun en w' => (∃ u, en = .returned u) ∧ Wr B p e (l ++ numB v) w' ∧ Below B w w' ∧ Keeps p w w' := by
 obtain ⟨i0, hi0, hz0, hz1, hz2⟩ := info_parts u8_info
 obtain ⟨hB, vv, hp, hown, hne⟩ := h
 have c0 : w.cell? ⟨p, 0, none⟩ = some (.int .i64 e) := by rw [cell_p hp]; rfl
 have c1 : w.cell? ⟨p, 1, none⟩ = some vv := by rw [cell_p hp]; rfl
 have f1 : w.frozen? ⟨p, 1, none⟩ = false := frozen_p hp
 have HP := Lib.hid hp
 have HV := Lib.hid hv
 have HLL := Lib.hid hl
 clear hp hv hl
 go_enter Tryz.func157, Tryz.ntmps157
 go_wp2_with fail
 rw [xor_zz HV.out]
 have HZ := Lib.hid (zz_lt HV.out.1 HV.out.2)
 go_loopw [4] (fun n wr => ∃ (k : Nat) (l' : List UInt8), n = .int .u64 k ∧ k < 18446744073709551616 ∧ l' ++ vb k = l ++ numB v ∧ l'.length + (vb k).length ≤ 2000000000010 ∧ Wr B p e l' wr ∧ Below B w wr ∧ Keeps p w wr) (fun n _ => (intOf n).toNat)
 case atStart => exact ⟨zz v, l, rfl, HZ.out, rfl, by have := vb_len10 HZ.out; have := HLL.out; omega, ⟨hB, vv, HP.out, hown, hne⟩, Below.refl _ _, Keeps.refl _ _⟩
 case round =>
  obtain ⟨k, l', rfl, hk, hl', hlen, ⟨_, v1, hp1, hown1, hne1⟩, hb, hkp⟩ := hrel
  have d0 : wr.cell? ⟨p, 0, none⟩ = some (.int .i64 e) := by rw [cell_p hp1]; rfl
  have d1 : wr.cell? ⟨p, 1, none⟩ = some v1 := by rw [cell_p hp1]; rfl
  have g1 : wr.frozen? ⟨p, 1, none⟩ = false := frozen_p hp1
  have HP1 := Lib.hid hp1
  have HL := Lib.hid hl'
  have HK := Lib.hid hk
  have HN := Lib.hid hlen
  clear hp1 hl' hk hlen
  have hbs : B ≤ wr.heap.size := by have := blk_lt HP1.out; omega
  by_cases h7 : k < 128
  · go_wp2_with ((at_builtin
                  refine wpList_append_own_at _ rfl (.tmp 32) (.tmp 35) _ rfl B 5 i0 _ 1 1 Tryz.underlying190 hi0 hz0 hz1 hz2 rfl (by omega) v1 l'.length (byteCells l') rfl (hown1.alloc _) ⟨wr.heap.size, 0, none⟩ 1 1 [.int .u8 k] rfl rfl (cell_one_new _ _ _) (by simp [Value.oneCell']) (by have := HN.out; unfold maxLen; omega) (by have := HN.out; omega) (by simp; omega) ?_
                  intro v2 w2 hown2 hg2 _ hat2
                  obtain ⟨g2, cap2, rfl, hf2, hf3⟩ := hown2.form (by omega)
                  clear hat2
                  have hpa := (Below.heap_alloc wr (.cells #[.int .u8 (k : Int)] 5) p (blk_lt HP1.out)).trans HP1.out
                  have hp2 := (hg2.block p (blk_lt hpa) (fun hh => own_ne (hown1.alloc _) hpa (by decide) hh.symm)).trans hpa
                  have e1 : w2.cell? ⟨p, 1, none⟩ = some v1 := by rw [cell_p hp2]; rfl
                  have e2 : w2.frozen? ⟨p, 1, none⟩ = false := frozen_p hp2
                  have HP2 := Lib.hid hpa
                  clear hpa hp2))
    go_end0
    have hl2 : l' ++ [UInt8.ofNat k] = l ++ numB v := by rw [← HL.out, vb_small h7]
    refine ⟨⟨_, rfl⟩, ?_, (below_grown (hb.alloc hbs _) hg2 (by simp; omega) (own_ge hown1)).setCell (p := ⟨p, 1, none⟩) hB _, hkp.trans (Keeps.put (hown1.alloc _) hg2 _)⟩
    rw [← hl2]
    exact Wr.step [UInt8.ofNat k] hB HP2.out (hown1.alloc _) hown2 rfl (by simp [byteCells, byte_of (show k < 256 by omega)]) hg2
  · have h8 : 128 ≤ k := by omega
    go_wp2_with ((at_builtin
                  refine wpList_append_own_at _ rfl (.tmp 20) (.tmp 24) _ rfl B 5 i0 _ 1 1 Tryz.underlying190 hi0 hz0 hz1 hz2 rfl (by omega) v1 l'.length (byteCells l') rfl (hown1.alloc _) ⟨wr.heap.size, 0, none⟩ 1 1 [.int .u8 (bits .or .u8 ((k : Int) % 256) 128)] rfl rfl (cell_one_new _ _ _) (by simp [Value.oneCell']) (by have := HN.out; unfold maxLen; omega) (by have := HN.out; omega) (by simp; omega) ?_
                  intro v2 w2 hown2 hg2 _ hat2
                  obtain ⟨g2, cap2, rfl, hf2, hf3⟩ := hown2.form (by omega)
                  clear hat2
                  have hpa := (Below.heap_alloc wr (.cells #[.int .u8 (bits .or .u8 ((k : Int) % 256) 128)] 5) p (blk_lt HP1.out)).trans HP1.out
                  have hp2 := (hg2.block p (blk_lt hpa) (fun hh => own_ne (hown1.alloc _) hpa (by decide) hh.symm)).trans hpa
                  have e1 : w2.cell? ⟨p, 1, none⟩ = some v1 := by rw [cell_p hp2]; rfl
                  have e2 : w2.frozen? ⟨p, 1, none⟩ = false := frozen_p hp2
                  have HP2 := Lib.hid hpa
                  clear hpa hp2))
    go_roundw
    case rel =>
     have hvb := vb_big h7
     refine ⟨k / 128, l' ++ [UInt8.ofNat (k % 128 + 128)], by simp, by have := HK.out; omega, ?_, ?_, ?_, (below_grown (hb.alloc hbs _) hg2 (by simp; omega) (own_ge hown1)).setCell (p := ⟨p, 1, none⟩) hB _, hkp.trans (Keeps.put (hown1.alloc _) hg2 _)⟩
     · rw [← HL.out, hvb]; simp
     · have := HN.out; rw [hvb] at this; simp only [List.length_cons, List.length_append, List.length_nil] at this ⊢; omega
     · refine Wr.step [UInt8.ofNat (k % 128 + 128)] hB HP2.out (hown1.alloc _) hown2 rfl ?_ hg2
       have := byte_more k
       rw [wrap_u8] at this
       simp [byteCells, this]
    case measure => simp [intOf]; omega
end Go.Proofs.YtmfmjhklajmhoaaGreat.Wire
/- Plain mathematics of sets as bytes: what is put, what is read, and that what was put is got. -/
namespace Go.Proofs.YtmfmjhklajmhoaaGreat.Wire
structure WS where
 e : Int
 l : List UInt8
def wNum (v : Int) (s : WS) : WS := if s.e ≠ 0 then s else ⟨0, s.l ++ numB v⟩
def wText (t : List UInt8) (s : WS) : WS := if s.e ≠ 0 then s else if 1000 < t.length then ⟨2, s.l⟩ else ⟨0, s.l ++ textB t⟩
structure LegD where
 id : Int
 qty : Int
structure PlD where
 asset : List UInt8
 qty : Int
structure TakeD where
 acc : List UInt8
 ccy : List UInt8
 amount : Int
 pl : List PlD
structure SetD where
 legs : List LegD
 takes : List TakeD
def Good (f : WS → WS) (b : List UInt8) (c : Prop) : Prop := ∀ s, (f s).e = 0 → s.e = 0 ∧ c ∧ (f s).l = s.l ++ b
theorem Good.then {f g : WS → WS} {b d : List UInt8} {p q : Prop} (hf : Good f b p) (hg : Good g d q) : Good (fun s => g (f s)) (b ++ d) (p ∧ q) := by
 intro s h
 obtain ⟨h1, h2, h3⟩ := hg _ h
 obtain ⟨h4, h5, h6⟩ := hf _ h1
 exact ⟨h4, ⟨h5, h2⟩, by rw [h3, h6, List.append_assoc]⟩
theorem wNum_len {v : Int} (h : okI v) (s : WS) : (wNum v s).l.length ≤ s.l.length + 10 := by
 unfold wNum
 split
 · omega
 · have := vb_len10 (zz_lt h.1 h.2)
   simp only [List.length_append, numB]
   omega
theorem wText_len (t : List UInt8) (s : WS) : (wText t s).l.length ≤ s.l.length + 1010 := by
 unfold wText
 split
 · omega
 · split
   · show s.l.length ≤ _; omega
   · have := vb_len10 (zz_lt (v := (t.length : Int)) (by omega) (by omega))
     simp only [List.length_append, textB, numB]
     omega
end Go.Proofs.YtmfmjhklajmhoaaGreat.Wire
/- (*wire.Writer).Num, as ChkNum. -/
namespace Go.Proofs.YtmfmjhklajmhoaaGreat.Wire
open Go Go.RowKit Go.Lib
def RowOk (B p n : Nat) (t : TypeId) (A : Option Addr) (w : World) : Prop := n ≤ 1 ∨ (∀ ad, A = some ad → ad.block < B) ∨ ∃ q cs, A = some ⟨q, 0, none⟩ ∧ q ≠ p ∧ w.heap[q]? = some (.cells cs t (0, 0))
set_option maxRecDepth 20000 in
theorem wnums_k (B p : Nat) (l : List UInt8) (A : Option Addr) (n c : Nat) (xs : List Int) (w : World) (h : Wr B p 0 l w) (hx : IntsAt w A xs) (hn : xs.length = n) (hs : RowOk B p n 3 A w)
 (hok : ∀ x ∈ xs, okI x) (hl : l.length + 10 * n ≤ 2000000000000) (hn2 : n ≤ 1000000000) :
 Calls Tryz.prog 80 #[.pointer (some ⟨p, 0, none⟩), .slice A n c] w fun en w' => (∃ u, en = .returned u) ∧ Wr B p 0 (l ++ (xs.map numB).flatten) w' ∧ Below B w w' ∧ Keeps p w w' := by
 have HW := Lib.hid h
 have HX := Lib.hid hx
 have HNN := Lib.hid hn
 have HS := Lib.hid hs
 have HOK := Lib.hid hok
 have HL := Lib.hid hl
 clear h hx hn hs hok hl
 go_enter Tryz.func80, Tryz.ntmps80
 go_wp2_with fail
 go_loopw [8] (fun i wr => ∃ k : Nat, i = .int .i64 k ∧ k ≤ n ∧ (k = 0 → wr = w) ∧ Wr B p 0 (l ++ ((xs.take k).map numB).flatten) wr ∧ Below B w wr ∧ Keeps p w wr) (fun i _ => n - (intOf i).toNat)
 case atStart => exact ⟨0, rfl, Nat.zero_le _, fun _ => rfl, by simpa using HW.out, Below.refl _ _, Keeps.refl _ _⟩
 case round =>
  obtain ⟨k, rfl, hk, hk0, hW, hb, hkp⟩ := hrel
  obtain ⟨d0, d1, d2⟩ := hW.cells
  have HK0 := Lib.hid hk0
  have HW1 := Lib.hid hW
  clear hk0 hW
  by_cases hlt : k < n
  · have hxl : k < xs.length := by have := HNN.out; omega
    obtain ⟨ad, hA, hcs⟩ := HX.out (by intro e0; rw [e0] at hxl; simp at hxl)
    subst hA
    have hxk : xs[k]? = some xs[k] := List.getElem?_eq_getElem hxl
    have hcell : wr.cell? (ad.add k) = some (.int .i64 xs[k]) := by
     by_cases hk1 : k = 0
     · rw [HK0.out hk1]; exact hcs _ _ hxk
     · rcases HS.out with hs | hs | ⟨q, cs, hq, hqp, hqh⟩
       · omega
       · rw [hb.cell (p := ad.add k) (by unfold Addr.add; split <;> exact hs ad rfl)]
         exact hcs _ _ hxk
       · cases hq
         have := hcs _ _ hxk
         rw [← this]
         exact cell_add_of_heap (hkp q cs _ hqh (by decide) hqp) _
    have HC := Lib.hid hcs
    have HXK := Lib.hid hxk
    have HOKk := Lib.hid (HOK.out _ (List.getElem_mem hxl))
    generalize xs[k] = x at hcell HXK HOKk
    clear hcs hxk
    go_wp2_with (first
     | (go_at_call 96; refine (wrong_any _ _ _ d0).mono ?_; rintro e w1 ⟨rfl, rfl⟩)
     | (go_at_call 157; refine (wnum_k B p 0 x _ _ HW1.out HOKk.out (by have h1 := HL.out; have h2 := flat_len (xs.take k) (fun y hy => HOK.out y (List.mem_of_mem_take hy)); simp only [List.length_append, List.length_take] at h2 ⊢; omega)).mono ?_; rintro e w1 ⟨⟨u, rfl⟩, hW1, hb1, hkp1⟩))
    go_roundw
    case rel => exact ⟨k + 1, by go_num, by omega, fun h => absurd h (by omega), by rw [flat_snoc numB xs k x HXK.out, ← List.append_assoc]; exact hW1, hb.trans hb1, hkp.trans hkp1⟩
    case measure => simp [intOf]; omega
  · go_wp2
    go_end0
    have h3 := HW1.out
    rw [List.take_of_length_le (by have := HNN.out; omega)] at h3
    exact ⟨⟨_, rfl⟩, h3, hb, hkp⟩
def WrS (B p : Nat) (s : WS) (w : World) : Prop := (s.e = 0 → Wr B p 0 s.l w) ∧ (s.e ≠ 0 → ∃ l, Wr B p s.e l w)
def wNums (xs : List Int) (s : WS) : WS := xs.foldl (fun s v => wNum v s) s
theorem wNums_bad {s : WS} (h : s.e ≠ 0) : ∀ xs, wNums xs s = s
 | [] => rfl
 | x :: xs => by
   have e : wNum x s = s := by rw [wNum, if_pos h]
   show wNums xs (wNum x s) = s
   rw [e]; exact wNums_bad h xs
theorem wNums_ok : ∀ (xs : List Int) (s : WS), s.e = 0 → wNums xs s = ⟨0, s.l ++ (xs.map numB).flatten⟩
 | [], s, h => by obtain ⟨e, l⟩ := s; have h' : e = 0 := h; subst h'; simp [wNums]
 | x :: xs, s, h => by
   have e : wNum x s = ⟨0, s.l ++ numB x⟩ := by rw [wNum, if_neg (by omega)]
   show wNums xs (wNum x s) = _
   rw [e, wNums_ok xs _ rfl]
   simp
theorem WrS.ok {B p : Nat} {s : WS} {w : World} (h : s.e = 0) (k : Wr B p 0 s.l w) : WrS B p s w := ⟨fun _ => k, fun h' => absurd h h'⟩
theorem WrS.bad {B p : Nat} {s : WS} {l : List UInt8} {w : World} (h : s.e ≠ 0) (k : Wr B p s.e l w) : WrS B p s w := ⟨fun h' => absurd h' h, fun _ => ⟨l, k⟩⟩
theorem wnums_s (B p : Nat) (s : WS) (A : Option Addr) (n c : Nat) (xs : List Int) (w : World) (h : WrS B p s w) (hx : IntsAt w A xs) (hn : xs.length = n) (hs : RowOk B p n 3 A w)
 (hok : ∀ x ∈ xs, okI x) (hl : s.e = 0 → s.l.length + 10 * n ≤ 2000000000000) (hn2 : n ≤ 1000000) :
 Calls Tryz.prog 80 #[.pointer (some ⟨p, 0, none⟩), .slice A n c] w fun en w' => (∃ u, en = .returned u) ∧ WrS B p (wNums xs s) w' ∧ Below B w w' ∧ Keeps p w w' := by
 by_cases he : s.e = 0
 · refine (wnums_k B p s.l A n c xs w (h.1 he) hx hn hs hok (hl he) (by omega)).mono ?_
   rintro e w' ⟨hu, hW, hb, hk⟩
   refine ⟨hu, ?_, hb, hk⟩
   rw [wNums_ok xs s he]
   exact .ok rfl hW
 · obtain ⟨l, hl⟩ := h.2 he
   refine (wnums_bad B p s.e he l A n c xs w hl hx hn hn2).mono ?_
   rintro e w' ⟨hu, rfl⟩
   refine ⟨hu, ?_, Below.refl _ _, Keeps.refl _ _⟩
   rw [wNums_bad he]
   exact h
end Go.Proofs.YtmfmjhklajmhoaaGreat.Wire
/- (*wire.Writer).Text, as ChkNum. -/
namespace Go.Proofs.YtmfmjhklajmhoaaGreat.Wire
open Go Go.RowKit Go.Lib
def TextK (B p : Nat) (l : List UInt8) (xs : List ByteArray) (w : World) (en : Ending) (w' : World) : Prop :=
 (∃ u, en = .returned u) ∧ Below B w w' ∧ Keeps p w w' ∧ (((∀ x ∈ xs, x.size ≤ 1000) ∧ Wr B p 0 (l ++ (xs.map tb).flatten) w') ∨ ((∃ x ∈ xs, 1000 < x.size) ∧ ∃ l', Wr B p 2 l' w'))
set_option maxRecDepth 20000 in
theorem wtexts_k (B p : Nat) (l : List UInt8) (A : Option Addr) (n c : Nat) (xs : List ByteArray) (w : World) (h : Wr B p 0 l w) (hx : TextsAt w A xs) (hn : xs.length = n) (hs : RowOk B p n 9 A w)
 (hmax : ∀ x ∈ xs, x.size ≤ maxLen) (hl : l.length + 1010 * n ≤ 1000000000000) (hn2 : n ≤ 1000000000) :
 Calls Tryz.prog 84 #[.pointer (some ⟨p, 0, none⟩), .slice A n c] w (TextK B p l xs w) := by
 obtain ⟨i0, hi0, hz0, hz1, hz2⟩ := info_parts u8_info
 have HW := Lib.hid h
 have HX := Lib.hid hx
 have HNN := Lib.hid hn
 have HS := Lib.hid hs
 have HM := Lib.hid hmax
 have HL := Lib.hid hl
 clear h hx hn hs hmax hl
 go_enter Tryz.func84, Tryz.ntmps84
 go_wp2_with fail
 go_loopw [8] (fun i wr => ∃ k : Nat, i = .int .i64 k ∧ k ≤ n ∧ (k = 0 → wr = w) ∧ (∀ x ∈ xs.take k, x.size ≤ 1000) ∧ Wr B p 0 (l ++ ((xs.take k).map tb).flatten) wr ∧ Below B w wr ∧ Keeps p w wr) (fun i _ => n - (intOf i).toNat)
 case atStart => exact ⟨0, rfl, Nat.zero_le _, fun _ => rfl, by simp, by simpa using HW.out, Below.refl _ _, Keeps.refl _ _⟩
 case round =>
  obtain ⟨k, rfl, hk, hk0, hfit, hW, hb, hkp⟩ := hrel
  obtain ⟨d0, d1, d2⟩ := hW.cells
  have HK0 := Lib.hid hk0
  have HF := Lib.hid hfit
  have HW1 := Lib.hid hW
  clear hk0 hW hfit
  by_cases hlt : k < n
  · have hxl : k < xs.length := by have := HNN.out; omega
    obtain ⟨ad, hA, hcs⟩ := HX.out (by intro e0; rw [e0] at hxl; simp at hxl)
    subst hA
    have hxk : xs[k]? = some xs[k] := List.getElem?_eq_getElem hxl
    have hcell : wr.cell? (ad.add k) = some (.string xs[k]) := by
     by_cases hk1 : k = 0
     · rw [HK0.out hk1]; exact hcs _ _ hxk
     · rcases HS.out with hs | hs | ⟨q, cs, hq, hqp, hqh⟩
       · omega
       · rw [hb.cell (p := ad.add k) (by unfold Addr.add; split <;> exact hs ad rfl)]
         exact hcs _ _ hxk
       · cases hq
         have := hcs _ _ hxk
         rw [← this]
         exact cell_add_of_heap (hkp q cs _ hqh (by decide) hqp) _
    have HC := Lib.hid hcs
    have HXK := Lib.hid hxk
    have HMk := Lib.hid (HM.out _ (List.getElem_mem hxl))
    have HIn := Lib.hid (List.getElem_mem hxl)
    generalize xs[k] = x at hcell HXK HMk HIn
    clear hcs hxk
    have HFL := Lib.hid (flat_tlen (xs.take k) HF.out)
    have HNB : Hid ((numB (x.size : Int)).length ≤ 10 ∨ 1000 < x.size) := by
     by_cases h9 : 1000 < x.size
     · exact .inr h9
     · exact .inl (vb_len10 (zz_lt (by omega) (by omega)))
    by_cases hlong : 1000 < x.size
    · go_wp2_with (first
       | (go_at_call 96; refine (wrong_any _ _ _ d0).mono ?_; rintro e w1 ⟨rfl, rfl⟩)
       | (go_at_call 163; refine (fail_any _ _ _ d0 d1).mono ?_; rintro e w1 ⟨⟨u, rfl⟩, rfl⟩))
      refine bodyPost_ret (results_none rfl _ _ _) rfl ?_
      exact ⟨⟨_, rfl⟩, hb.setCell (p := ⟨p, 0, none⟩) HW1.out.1 _, hkp.trans (Keeps.set p 0 wr _), .inr ⟨⟨x, HIn.out, hlong⟩, _, HW1.out.fail 2⟩⟩
    · go_wp2_with (first
       | (go_at_call 96; refine (wrong_any _ _ _ d0).mono ?_; rintro e w1 ⟨rfl, rfl⟩)
       | (go_at_call 157
          refine (wnum_k B p 0 (x.size : Int) _ _ HW1.out ⟨by omega, by omega⟩ (by have h1 := HL.out; have h2 := HFL.out; simp only [List.length_append, List.length_take] at h2 ⊢; omega)).mono ?_
          rintro e w1 ⟨⟨u, rfl⟩, ⟨_, v1, hp1, hown1, hne1⟩, hb1, hkp1⟩
          obtain ⟨N1, hN1⟩ : ∃ N, (l ++ (List.map tb (List.take k xs)).flatten ++ numB (x.size : Int)).length = N := ⟨_, rfl⟩
          rw [hN1] at hown1
          have HN1 := Lib.hid hN1
          clear hN1
          have e0 : w1.cell? ⟨p, 1, none⟩ = some v1 := (by rw [cell_p hp1]; rfl)
          have HP1 := Lib.hid hp1
          have hbs1 : B ≤ w1.heap.size := (by have := hb1.size; omega)
          clear hp1)
       | (at_builtin
          refine wpList_append_own_string _ rfl (.tmp 38) (.tmp 39) _ _ rfl B 5 i0 Tryz.underlying190 Tryz.underlying9 hi0 hz0 hz1 hz2 v1 _ _ rfl hown1 x rfl (by have h1 := HL.out; have h2 := HFL.out; have h3 := HNB.out; have h4 := HN1.out; simp only [List.length_append, List.length_take] at h2 h3 h4 ⊢; unfold maxLen; omega) (by have h1 := HL.out; have h2 := HFL.out; have h3 := HNB.out; have h4 := HN1.out; simp only [List.length_append, List.length_take] at h2 h3 h4 ⊢; omega) hbs1 ?_
          intro v2 w2 hown2 hg2 _
          obtain ⟨g2, cap2, rfl, hf2, hf3⟩ := hown2.form (by have := vb_pos (zz (x.size : Int)); have h4 := HN1.out; simp only [List.length_append, numB] at h4; omega)
          have hp2 := (hg2.block p (blk_lt HP1.out) (fun hh => own_ne hown1 HP1.out (by decide) hh.symm)).trans HP1.out
          have e1 : w2.cell? ⟨p, 1, none⟩ = some v1 := (by rw [cell_p hp2]; rfl)
          have e2 : w2.frozen? ⟨p, 1, none⟩ = false := frozen_p hp2
          clear hp2))
      go_roundw
      case rel =>
       have hst := Wr.step x.data.toList HW1.out.1 HP1.out (by rw [HN1.out]; exact hown1) hown2 (by rw [HN1.out, sz]) (by rw [strB]) hg2
       refine ⟨k + 1, by go_num, by omega, fun h => absurd h (by omega), ?_, ?_, (below_grown (hb.trans hb1) hg2 hbs1 (own_ge hown1)).setCell (p := ⟨p, 1, none⟩) HW1.out.1 _, (hkp.trans hkp1).trans (Keeps.put0 hown1 hg2 _)⟩
       · intro y hy
         rw [List.take_succ_eq_append_getElem hxl, List.mem_append] at hy
         rcases hy with hy | hy
         · exact HF.out y hy
         · have hxx : xs[k] = x := by have := HXK.out; rw [List.getElem?_eq_getElem hxl] at this; injection this
           rw [hxx, List.mem_singleton] at hy
           rw [hy]; omega
       · rw [flat_snoc tb xs k x HXK.out, ← List.append_assoc]
         rw [List.append_assoc] at hst
         have he : tb x = numB (x.size : Int) ++ x.data.toList := by rw [tb, textB, sz]
         rw [he]
         exact hst
      case measure => simp [intOf]; omega
  · go_wp2
    go_end0
    have h3 := HW1.out
    have h4 := HF.out
    rw [List.take_of_length_le (by have := HNN.out; omega)] at h3 h4
    exact ⟨⟨_, rfl⟩, hb, hkp, .inl ⟨h4, h3⟩⟩
def bl8 (s : ByteArray) : List UInt8 := s.data.toList
def wTexts (xs : List ByteArray) (s : WS) : WS := xs.foldl (fun s t => wText (bl8 t) s) s
theorem wTexts_bad {s : WS} (h : s.e ≠ 0) : ∀ xs, wTexts xs s = s
 | [] => rfl
 | x :: xs => by
   have e : wText (bl8 x) s = s := by rw [wText, if_pos h]
   show wTexts xs (wText (bl8 x) s) = s
   rw [e]; exact wTexts_bad h xs
theorem wTexts_ok : ∀ (xs : List ByteArray) (s : WS), s.e = 0 → (∀ x ∈ xs, x.size ≤ 1000) → wTexts xs s = ⟨0, s.l ++ (xs.map tb).flatten⟩
 | [], s, h, _ => by obtain ⟨e, l⟩ := s; have h' : e = 0 := h; subst h'; simp [wTexts]
 | x :: xs, s, h, hx => by
   have e : wText (bl8 x) s = ⟨0, s.l ++ tb x⟩ := by
    rw [wText, if_neg (by omega), if_neg (by have := hx x (by simp); have := sz x; unfold bl8; omega)]
    rfl
   show wTexts xs (wText (bl8 x) s) = _
   rw [e, wTexts_ok xs _ rfl (fun y hy => hx y (by simp [hy]))]
   simp
theorem wTexts_long : ∀ (xs : List ByteArray) (s : WS), s.e = 0 → (∃ x ∈ xs, 1000 < x.size) → (wTexts xs s).e = 2
 | [], _, _, ⟨x, hx, _⟩ => by simp at hx
 | x :: xs, s, h, hx => by
   show (wTexts xs (wText (bl8 x) s)).e = 2
   by_cases h1 : 1000 < x.size
   · have e : wText (bl8 x) s = ⟨2, s.l⟩ := by rw [wText, if_neg (by omega), if_pos (by have := sz x; unfold bl8; omega)]
     rw [e, wTexts_bad (by simp)]
   · have e : wText (bl8 x) s = ⟨0, s.l ++ textB (bl8 x)⟩ := by rw [wText, if_neg (by omega), if_neg (by have := sz x; unfold bl8; omega)]
     rw [e]
     refine wTexts_long xs _ rfl ?_
     obtain ⟨y, hy, hy2⟩ := hx
     rcases List.mem_cons.1 hy with rfl | hy
     · exact absurd hy2 h1
     · exact ⟨y, hy, hy2⟩
theorem wtexts_s (B p : Nat) (s : WS) (A : Option Addr) (n c : Nat) (xs : List ByteArray) (w : World) (h : WrS B p s w) (hx : TextsAt w A xs) (hn : xs.length = n) (hs : RowOk B p n 9 A w)
 (hmax : ∀ x ∈ xs, x.size ≤ maxLen) (hl : s.e = 0 → s.l.length + 1010 * n ≤ 1000000000000) (hn2 : n ≤ 1000000) :
 Calls Tryz.prog 84 #[.pointer (some ⟨p, 0, none⟩), .slice A n c] w fun en w' => (∃ u, en = .returned u) ∧ WrS B p (wTexts xs s) w' ∧ Below B w w' ∧ Keeps p w w' := by
 by_cases he : s.e = 0
 · refine (wtexts_k B p s.l A n c xs w (h.1 he) hx hn hs hmax (hl he) (by omega)).mono ?_
   rintro e w' ⟨hu, hb, hk, ⟨hfit, hW⟩ | ⟨hlong, l', hW⟩⟩
   · refine ⟨hu, ?_, hb, hk⟩
     rw [wTexts_ok xs s he hfit]
     exact .ok rfl hW
   · have h2 := wTexts_long xs s he hlong
     exact ⟨hu, .bad (l := l') (by rw [h2]; decide) (by rw [h2]; exact hW), hb, hk⟩
 · obtain ⟨l, hl⟩ := h.2 he
   refine (wtexts_bad B p s.e he l A n c xs w hl hx hn hn2).mono ?_
   rintro e w' ⟨hu, rfl⟩
   refine ⟨hu, ?_, Below.refl _ _, Keeps.refl _ _⟩
   rw [wTexts_bad he]
   exact h
end Go.Proofs.YtmfmjhklajmhoaaGreat.Wire
/- Sets in memory, and that they stay. -/
namespace Go.Proofs.YtmfmjhklajmhoaaGreat.Wire
open Go Go.RowKit Go.Lib
def str8 (l : List UInt8) : Value := .string ⟨l.toArray⟩
def LegsAt (w : World) (A : Option Addr) (xs : List LegD) : Prop := xs ≠ [] → ∃ ad, A = some ad ∧ ∀ j x, xs[j]? = some x → w.cell? (ad.add (j * 2)) = some (.int .i64 x.id) ∧ w.cell? (ad.add (j * 2 + 1)) = some (.int .i64 x.qty)
def PlsAt (w : World) (A : Option Addr) (xs : List PlD) : Prop := xs ≠ [] → ∃ ad, A = some ad ∧ ∀ j x, xs[j]? = some x → w.cell? (ad.add (j * 2)) = some (str8 x.asset) ∧ w.cell? (ad.add (j * 2 + 1)) = some (.int .i64 x.qty)
def TakeAt (w : World) (ad : Addr) (j : Nat) (x : TakeD) : Prop := ∃ Q n c, w.cell? (ad.add (j * 4)) = some (str8 x.acc) ∧ w.cell? (ad.add (j * 4 + 1)) = some (str8 x.ccy) ∧ w.cell? (ad.add (j * 4 + 2)) = some (.int .i64 x.amount) ∧ w.cell? (ad.add (j * 4 + 3)) = some (.slice Q n c) ∧ n = x.pl.length ∧ PlsAt w Q x.pl
def TakesAt (w : World) (A : Option Addr) (xs : List TakeD) : Prop := xs ≠ [] → ∃ ad, A = some ad ∧ ∀ j x, xs[j]? = some x → TakeAt w ad j x
def SetAt (w : World) (L : Option Addr) (n : Nat) (T : Option Addr) (m : Nat) (x : SetD) : Prop := n = x.legs.length ∧ LegsAt w L x.legs ∧ m = x.takes.length ∧ TakesAt w T x.takes
def SetsAt (w : World) (A : Option Addr) (xs : List SetD) : Prop := xs ≠ [] → ∃ ad, A = some ad ∧ ∀ j x, xs[j]? = some x → ∃ L n c T m d, w.cell? (ad.add (j * 2)) = some (.slice L n c) ∧ w.cell? (ad.add (j * 2 + 1)) = some (.slice T m d) ∧ SetAt w L n T m x
section
variable {w w' : World} (hb : Below w.heap.size w w')
include hb
theorem cell_below {p : Addr} {v : Value} (h : w.cell? p = some v) : w'.cell? p = some v := (hb.cell (World.block_lt_of_cell? w _ h)).trans h
theorem LegsAt.below {A : Option Addr} {xs : List LegD} (h : LegsAt w A xs) : LegsAt w' A xs := fun hne => by
 obtain ⟨ad, hA, hc⟩ := h hne
 exact ⟨ad, hA, fun j x hx => ⟨cell_below hb (hc j x hx).1, cell_below hb (hc j x hx).2⟩⟩
theorem PlsAt.below {A : Option Addr} {xs : List PlD} (h : PlsAt w A xs) : PlsAt w' A xs := fun hne => by
 obtain ⟨ad, hA, hc⟩ := h hne
 exact ⟨ad, hA, fun j x hx => ⟨cell_below hb (hc j x hx).1, cell_below hb (hc j x hx).2⟩⟩
theorem TakeAt.below {ad : Addr} {j : Nat} {x : TakeD} (h : TakeAt w ad j x) : TakeAt w' ad j x := by
 obtain ⟨Q, n, c, h0, h1, h2, h3, h4, h5⟩ := h
 exact ⟨Q, n, c, cell_below hb h0, cell_below hb h1, cell_below hb h2, cell_below hb h3, h4, PlsAt.below hb h5⟩
theorem TakesAt.below {A : Option Addr} {xs : List TakeD} (h : TakesAt w A xs) : TakesAt w' A xs := fun hne => by
 obtain ⟨ad, hA, hc⟩ := h hne
 exact ⟨ad, hA, fun j x hx => TakeAt.below hb (hc j x hx)⟩
theorem SetAt.below {L T : Option Addr} {n m : Nat} {x : SetD} (h : SetAt w L n T m x) : SetAt w' L n T m x := ⟨h.1, LegsAt.below hb h.2.1, h.2.2.1, TakesAt.below hb h.2.2.2⟩
theorem SetsAt.below {A : Option Addr} {xs : List SetD} (h : SetsAt w A xs) : SetsAt w' A xs := fun hne => by
 obtain ⟨ad, hA, hc⟩ := h hne
 refine ⟨ad, hA, fun j x hx => ?_⟩
 obtain ⟨L, n, c, T, m, d, h0, h1, h2⟩ := hc j x hx
 exact ⟨L, n, c, T, m, d, cell_below hb h0, cell_below hb h1, SetAt.below hb h2⟩
end
end Go.Proofs.YtmfmjhklajmhoaaGreat.Wire
