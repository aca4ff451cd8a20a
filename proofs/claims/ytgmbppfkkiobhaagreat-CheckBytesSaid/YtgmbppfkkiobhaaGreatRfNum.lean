/- (*complineref1.Writer).Num puts a number's bytes. -/
import Derived.Test.YtgmbppfkkiobhaaGreatWireC
namespace Go.Proofs.YtgmbppfkkiobhaaGreat.Wire
open Go Go.RowKit Go.Lib
theorem own_down {w : World} {base base' e size n : Nat} {v : Value} {xs : List Value} (h : w.ownsRow base e size v n xs) (hb : base' ≤ base) : w.ownsRow base' e size v n xs := by
  obtain ⟨h1, h2⟩ := h
  refine ⟨h1, ?_⟩
  rcases h2 with h2 | ⟨g, cap, cur, a, b, c⟩
  · exact .inl h2
  · exact .inr ⟨g, cap, cur, a, by omega, c⟩
theorem own_at_size {w : World} {base e size n : Nat} {v : Value} {xs : List Value} (h : w.ownsRow base e size v n xs) : ownAt v w ≤ w.heap.size := by
  unfold ownAt
  cases hv : v.ownBlock with
  | none => exact Nat.le_refl _
  | some g => have := (h.lt g hv).2; show g ≤ _; omega
/-- The document's writer at block p. -/
def RWr (B p : Nat) (e : Int) (l : List UInt8) (w : World) : Prop :=
  B ≤ p ∧ ∃ v, w.heap[p]? = some (.cells #[v, .int .i64 e] 31 (0, 0)) ∧ w.ownsRow B 5 1 v l.length (byteCells l) ∧ v.ownBlock ≠ some p
theorem RWr.step {B p : Nat} {e : Int} {l : List UInt8} {n : Nat} {xs : List Value} (m : List UInt8) {w w1 : World} {v v' : Value} (hB : B ≤ p) (hp : w.heap[p]? = some (.cells #[v, .int .i64 e] 31 (0, 0))) (h0 : w.ownsRow B 5 1 v l.length (byteCells l))
    (hown : w1.ownsRow B 5 1 v' n xs) (hn : n = l.length + m.length) (hxs : xs = byteCells l ++ byteCells m) (hg : w.grownBy w1 v.ownBlock) :
    RWr B p e (l ++ m) (w1.setCell ⟨p, 0, none⟩ v') := by
  subst hn
  subst hxs
  have hp1 : w1.heap[p]? = some (.cells #[v, .int .i64 e] 31 (0, 0)) := (hg.block p (blk_lt hp) (fun h => own_ne h0 hp (by decide) h.symm)).trans hp
  have hne1 := own_ne hown hp1 (by decide)
  refine ⟨hB, v', ?_, ?_, hne1⟩
  · exact Go.Lib.heap_setCell_same (i := 0) hp1 v'
  · have := hown.kept (grownBy_setCell w1 p 0 v') (Or.inr hne1)
    simpa [byteCells, List.length_append] using this
theorem RWr.cells {B p : Nat} {e : Int} {l : List UInt8} {w : World} (h : RWr B p e l w) : w.cell? ⟨p, 1, none⟩ = some (.int .i64 e) ∧ w.frozen? ⟨p, 1, none⟩ = false ∧ B ≤ w.heap.size := by
  obtain ⟨hB, v, hp, _⟩ := h
  exact ⟨by rw [cell_p hp]; rfl, frozen_p hp, by have := blk_lt hp; omega⟩
theorem zz_pos {v : Int} (h : okI v) (hv : 0 ≤ v) : IntKind.u64.wrap (IntKind.u64.wrap v * 2) = ((zz v : Nat) : Int) := by
  obtain ⟨h1, h2⟩ := h
  unfold zz
  rw [if_pos hv, IntKind.wrap_u64, IntKind.wrap_u64]; omega
theorem zz_neg {v : Int} (h : okI v) (hv : v < 0) : IntKind.u64.wrap (IntKind.u64.wrap (IntKind.u64.wrap (wrap64 (-wrap64 (v + 1))) * 2) + 1) = ((zz v : Nat) : Int) := by
  obtain ⟨h1, h2⟩ := h
  unfold zz
  rw [if_neg (by omega)]
  simp only [IntKind.wrap_u64, w64, IntKind.wrap_i64]
  omega
set_option maxRecDepth 20000 in
theorem rwnum_any (B p : Nat) (v : Int) (l : List UInt8) (w : World) (h : RWr B p 0 l w) (hv : okI v) (hl : l.length ≤ 2000000000000) :
    Calls Tryz.prog 35 #[.pointer (some ⟨p, 0, none⟩), .int .i64 v] w fun en w' => (∃ u, en = .returned u) ∧ RWr B p 0 (l ++ numB v) w' ∧ Below B w w' ∧ Keeps p w w' ∧ KeepsU p w w' := by
  obtain ⟨i0, hi0, hz0, hz1, hz2⟩ := info_parts u8_info
  obtain ⟨hB, vv, hp, hown, hne⟩ := h
  have c0 : w.cell? ⟨p, 1, none⟩ = some (.int .i64 0) := by rw [cell_p hp]; rfl
  have HP := Lib.hid hp
  have HV := Lib.hid hv
  have HLL := Lib.hid hl
  clear hp hv hl
  go_enter Tryz.func35, Tryz.ntmps35
  have HZ := Lib.hid (zz_lt HV.out.1 HV.out.2)
  by_cases hv0 : v < 0
  all_goals
    go_wp2_with fail
    first
      | rw [zz_neg HV.out hv0]
      | rw [zz_pos HV.out hv0]
    go_loopw [4] (fun n wr => ∃ (k : Nat) (l' : List UInt8), n = .int .u64 k ∧ k < 18446744073709551616 ∧ l' ++ vb k = l ++ numB v ∧ l'.length + (vb k).length ≤ 2000000000010 ∧ RWr B p 0 l' wr ∧ Below B w wr ∧ Keeps p w wr ∧ KeepsU p w wr) (fun n _ => (intOf n).toNat)
    case atStart => exact ⟨zz v, l, rfl, HZ.out, rfl, by have := vb_len10 HZ.out; have := HLL.out; omega, ⟨hB, vv, HP.out, hown, hne⟩, Below.refl _ _, Keeps.refl _ _, KeepsU.refl _ _⟩
    case round =>
      obtain ⟨k, l', rfl, hk, hl', hlen, ⟨_, v1, hp1, hown1, hne1⟩, hb, hkp, hku⟩ := hrel
      have d0 : wr.cell? ⟨p, 1, none⟩ = some (.int .i64 0) := by rw [cell_p hp1]; rfl
      have d1 : wr.cell? ⟨p, 0, none⟩ = some v1 := by rw [cell_p hp1]; rfl
      have g1 : wr.frozen? ⟨p, 0, none⟩ = false := frozen_p hp1
      have HP1 := Lib.hid hp1
      have HL := Lib.hid hl'
      have HK := Lib.hid hk
      have HN := Lib.hid hlen
      clear hp1 hl' hk hlen
      have hbs : B ≤ wr.heap.size := by have := blk_lt HP1.out; omega
      by_cases h7 : k < 128
      · go_wp2_with ((at_builtin
                      refine wpList_append_own_at _ rfl (.tmp 42) (.tmp 45) _ rfl (ownAt v1 (wr.alloc (.cells #[.int .u8 (k : Int)] 5))) 5 i0 _ 1 1 Tryz.underlying28 hi0 hz0 hz1 hz2 rfl (by omega) v1 l'.length (byteCells l') rfl (own_at (hown1.alloc (.cells #[.int .u8 (k : Int)] 5))) ⟨wr.heap.size, 0, none⟩ 1 1 [.int .u8 k] rfl rfl (cell_one_new _ _ _) (by simp [Value.oneCell']) (by have := HN.out; unfold maxLen; omega) (by have := HN.out; omega) (own_at_size (hown1.alloc (.cells #[.int .u8 (k : Int)] 5))) ?_
                      intro v2 w2 hownA hg2 _ hat2
                      have hown2 := own_down hownA (own_at_le (B := B) (by simp; omega) (own_ge (hown1.alloc (.cells #[.int .u8 (k : Int)] 5))))
                      obtain ⟨g2, cap2, rfl, hf2, hf3⟩ := hownA.form (by omega)
                      clear hat2
                      have hpa := (Below.heap_alloc wr (.cells #[.int .u8 (k : Int)] 5) p (blk_lt HP1.out)).trans HP1.out
                      have hp2 := (hg2.block p (blk_lt hpa) (fun hh => own_ne (hown1.alloc _) hpa (by decide) hh.symm)).trans hpa
                      have e1 : w2.cell? ⟨p, 0, none⟩ = some v1 := by rw [cell_p hp2]; rfl
                      have e2 : w2.frozen? ⟨p, 0, none⟩ = false := frozen_p hp2
                      have HP2 := Lib.hid hpa
                      clear hpa hp2))
        go_end0
        have hl2 : l' ++ [UInt8.ofNat k] = l ++ numB v := by rw [← HL.out, vb_small h7]
        refine ⟨⟨_, rfl⟩, ?_, (below_grown (hb.alloc hbs _) hg2 (by simp; omega) (own_ge hown1)).setCell (p := ⟨p, 0, none⟩) hB _, hkp.trans (Keeps.put (hown1.alloc _) hg2 _), hku.trans ((KeepsU.alloc (blk_lt HP1.out) _).trans (KeepsU.put HP2.out hne1 hg2 hownA))⟩
        rw [← hl2]
        exact RWr.step [UInt8.ofNat k] hB HP2.out (hown1.alloc _) hown2 rfl (by simp [byteCells, byte_of (show k < 256 by omega)]) hg2
      · have h8 : 128 ≤ k := by omega
        have hbt : IntKind.u8.wrap (IntKind.u8.wrap ((k : Int).tmod 128) + 128) = ((k % 128 + 128 : Nat) : Int) := by
          rw [Int.tmod_eq_emod_of_nonneg (by omega), wrap_u8, wrap_u8]; omega
        go_wp2_with ((at_builtin
                      refine wpList_append_own_at _ rfl (.tmp 27) (.tmp 32) _ rfl (ownAt v1 (wr.alloc (.cells #[.int .u8 ((k : Int) % 128 + 128)] 5))) 5 i0 _ 1 1 Tryz.underlying28 hi0 hz0 hz1 hz2 rfl (by omega) v1 l'.length (byteCells l') rfl (own_at (hown1.alloc (.cells #[.int .u8 ((k : Int) % 128 + 128)] 5))) ⟨wr.heap.size, 0, none⟩ 1 1 [.int .u8 ((k : Int) % 128 + 128)] rfl rfl (cell_one_new _ _ _) (by simp [Value.oneCell']) (by have := HN.out; unfold maxLen; omega) (by have := HN.out; omega) (own_at_size (hown1.alloc (.cells #[.int .u8 ((k : Int) % 128 + 128)] 5))) ?_
                      intro v2 w2 hownA hg2 _ hat2
                      have hown2 := own_down hownA (own_at_le (B := B) (by simp; omega) (own_ge (hown1.alloc (.cells #[.int .u8 ((k : Int) % 128 + 128)] 5))))
                      obtain ⟨g2, cap2, rfl, hf2, hf3⟩ := hownA.form (by omega)
                      clear hat2
                      have hpa := (Below.heap_alloc wr (.cells #[.int .u8 ((k : Int) % 128 + 128)] 5) p (blk_lt HP1.out)).trans HP1.out
                      have hp2 := (hg2.block p (blk_lt hpa) (fun hh => own_ne (hown1.alloc _) hpa (by decide) hh.symm)).trans hpa
                      have e1 : w2.cell? ⟨p, 0, none⟩ = some v1 := by rw [cell_p hp2]; rfl
                      have e2 : w2.frozen? ⟨p, 0, none⟩ = false := frozen_p hp2
                      have HP2 := Lib.hid hpa
                      clear hpa hp2))
        go_roundw
        case rel =>
          have hvb := vb_big h7
          refine ⟨k / 128, l' ++ [UInt8.ofNat (k % 128 + 128)], by have := HK.out; simp [IntKind.wrap_u64]; omega, by have := HK.out; omega, ?_, ?_, ?_, (below_grown (hb.alloc hbs _) hg2 (by simp; omega) (own_ge hown1)).setCell (p := ⟨p, 0, none⟩) hB _, hkp.trans (Keeps.put (hown1.alloc _) hg2 _), hku.trans ((KeepsU.alloc (blk_lt HP1.out) _).trans (KeepsU.put HP2.out hne1 hg2 hownA))⟩
          · rw [← HL.out, hvb]; simp
          · have := HN.out; rw [hvb] at this; simp only [List.length_cons, List.length_append, List.length_nil] at this ⊢; omega
          · refine RWr.step [UInt8.ofNat (k % 128 + 128)] hB HP2.out (hown1.alloc _) hown2 rfl ?_ hg2
            have e9 : (((UInt8.ofNat (k % 128 + 128)).toNat : Nat) : Int) = (k : Int) % 128 + 128 := by rw [byte_of (by omega)]; omega
            simp only [byteCells, List.map_cons, List.map_nil, e9]
        case measure => have := HK.out; simp [intOf, IntKind.wrap_u64]; omega
end Go.Proofs.YtgmbppfkkiobhaaGreat.Wire
