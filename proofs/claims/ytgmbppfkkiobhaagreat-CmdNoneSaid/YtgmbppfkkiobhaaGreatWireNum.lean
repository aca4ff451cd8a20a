/- (*wire.Writer).num puts a number's bytes. -/
import Derived.Test.YtgmbppfkkiobhaaGreatWireMem
namespace Go.Proofs.YtgmbppfkkiobhaaGreat.Wire
open Go Go.RowKit Go.Lib
set_option maxRecDepth 20000 in
theorem wnum_any (B p : Nat) (e v : Int) (l : List UInt8) (w : World) (h : Wr B p e l w) (hv : okI v) (hl : l.length ≤ 10000000) :
    Calls Tryz.prog 121 #[.pointer (some ⟨p, 0, none⟩), .int .i64 v] w fun en w' => (∃ u, en = .returned u) ∧ Wr B p e (l ++ numB v) w' ∧ Below B w w' := by
  obtain ⟨i0, hi0, hz0, hz1, hz2⟩ := info_parts u8_info
  obtain ⟨hB, vv, hp, hown, hne⟩ := h
  have c0 : w.cell? ⟨p, 0, none⟩ = some (.int .i64 e) := by rw [cell_p hp]; rfl
  have c1 : w.cell? ⟨p, 1, none⟩ = some vv := by rw [cell_p hp]; rfl
  have f1 : w.frozen? ⟨p, 1, none⟩ = false := frozen_p hp
  have HP := Lib.hid hp
  have HV := Lib.hid hv
  have HLL := Lib.hid hl
  clear hp hv hl
  go_enter Tryz.func121, Tryz.ntmps121
  go_wp2_with fail
  rw [xor_zz HV.out]
  have HZ := Lib.hid (zz_lt HV.out.1 HV.out.2)
  go_loopw [4] (fun n wr => ∃ (k : Nat) (l' : List UInt8), n = .int .u64 k ∧ k < 18446744073709551616 ∧ l' ++ vb k = l ++ numB v ∧ l'.length + (vb k).length ≤ 10000010 ∧ Wr B p e l' wr ∧ Below B w wr) (fun n _ => (intOf n).toNat)
  case atStart => exact ⟨zz v, l, rfl, HZ.out, rfl, by have := vb_len10 HZ.out; have := HLL.out; omega, ⟨hB, vv, HP.out, hown, hne⟩, Below.refl _ _⟩
  case round =>
    obtain ⟨k, l', rfl, hk, hl', hlen, ⟨_, v1, hp1, hown1, hne1⟩, hb⟩ := hrel
    have d0 : wr.cell? ⟨p, 0, none⟩ = some (.int .i64 e) := by rw [cell_p hp1]; rfl
    have d1 : wr.cell? ⟨p, 1, none⟩ = some v1 := by rw [cell_p hp1]; rfl
    have g1 : wr.frozen? ⟨p, 1, none⟩ = false := frozen_p hp1
    have HP1 := Lib.hid hp1
    have HL := Lib.hid hl'
    have HK := Lib.hid hk
    have HN := Lib.hid hlen
    clear hp1 hl' hk hlen
    have hbs : B ≤ wr.heap.size := by have := blk_lt HP1.out; omega
    by_cases h7 : k < 128
    · go_wp2_with ((at_builtin
                    refine wpList_append_own_at _ rfl (.tmp 32) (.tmp 35) _ rfl B 5 i0 _ 1 1 Tryz.underlying28 hi0 hz0 hz1 hz2 rfl (by omega) v1 l'.length (byteCells l') rfl (hown1.alloc _) ⟨wr.heap.size, 0, none⟩ 1 1 [.int .u8 k] rfl rfl (cell_one_new _ _ _) (by simp [Value.oneCell']) (by have := HN.out; unfold maxLen; omega) (by have := HN.out; omega) (by simp; omega) ?_
                    intro v2 w2 hown2 hg2 _ hat2
                    obtain ⟨g2, cap2, rfl, hf2, hf3⟩ := hown2.form (by omega)
                    clear hat2
                    have hpa := (Below.heap_alloc wr (.cells #[.int .u8 (k : Int)] 5) p (blk_lt HP1.out)).trans HP1.out
                    have hp2 := (hg2.block p (blk_lt hpa) (fun hh => own_ne (hown1.alloc _) hpa (by decide) hh.symm)).trans hpa
                    have e1 : w2.cell? ⟨p, 1, none⟩ = some v1 := by rw [cell_p hp2]; rfl
                    have e2 : w2.frozen? ⟨p, 1, none⟩ = false := frozen_p hp2
                    have HP2 := Lib.hid hpa
                    clear hpa hp2))
      go_end0
      have hl2 : l' ++ [UInt8.ofNat k] = l ++ numB v := by rw [← HL.out, vb_small h7]
      refine ⟨⟨_, rfl⟩, ?_, (below_grown (hb.alloc hbs _) hg2 (by simp; omega) (own_ge hown1)).setCell (p := ⟨p, 1, none⟩) hB _⟩
      rw [← hl2]
      exact Wr.step [UInt8.ofNat k] hB HP2.out (hown1.alloc _) hown2 rfl (by simp [byteCells, byte_of (show k < 256 by omega)]) hg2
    · have h8 : 128 ≤ k := by omega
      go_wp2_with ((at_builtin
                    refine wpList_append_own_at _ rfl (.tmp 20) (.tmp 24) _ rfl B 5 i0 _ 1 1 Tryz.underlying28 hi0 hz0 hz1 hz2 rfl (by omega) v1 l'.length (byteCells l') rfl (hown1.alloc _) ⟨wr.heap.size, 0, none⟩ 1 1 [.int .u8 (bits .or .u8 ((k : Int) % 256) 128)] rfl rfl (cell_one_new _ _ _) (by simp [Value.oneCell']) (by have := HN.out; unfold maxLen; omega) (by have := HN.out; omega) (by simp; omega) ?_
                    intro v2 w2 hown2 hg2 _ hat2
                    obtain ⟨g2, cap2, rfl, hf2, hf3⟩ := hown2.form (by omega)
                    clear hat2
                    have hpa := (Below.heap_alloc wr (.cells #[.int .u8 (bits .or .u8 ((k : Int) % 256) 128)] 5) p (blk_lt HP1.out)).trans HP1.out
                    have hp2 := (hg2.block p (blk_lt hpa) (fun hh => own_ne (hown1.alloc _) hpa (by decide) hh.symm)).trans hpa
                    have e1 : w2.cell? ⟨p, 1, none⟩ = some v1 := by rw [cell_p hp2]; rfl
                    have e2 : w2.frozen? ⟨p, 1, none⟩ = false := frozen_p hp2
                    have HP2 := Lib.hid hpa
                    clear hpa hp2))
      go_roundw
      case rel =>
        have hvb := vb_big h7
        refine ⟨k / 128, l' ++ [UInt8.ofNat (k % 128 + 128)], by simp, by have := HK.out; omega, ?_, ?_, ?_, (below_grown (hb.alloc hbs _) hg2 (by simp; omega) (own_ge hown1)).setCell (p := ⟨p, 1, none⟩) hB _⟩
        · rw [← HL.out, hvb]; simp
        · have := HN.out; rw [hvb] at this; simp only [List.length_cons, List.length_append, List.length_nil] at this ⊢; omega
        · refine Wr.step [UInt8.ofNat (k % 128 + 128)] hB HP2.out (hown1.alloc _) hown2 rfl ?_ hg2
          have := byte_more k
          rw [wrap_u8] at this
          simp [byteCells, this]
      case measure => simp [intOf]; omega
end Go.Proofs.YtgmbppfkkiobhaaGreat.Wire
