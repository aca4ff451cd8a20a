/- complineref22.PutSet puts a set. -/
import Derived.Test.YtgmbppfkkiobhaaGreatRfText
namespace Go.Proofs.YtgmbppfkkiobhaaGreat.Wire
open Go Go.RowKit Go.Lib
def setBox (L : Option Addr) (n c : Nat) (T : Option Addr) (m d : Nat) : Obj := .cells #[.slice L n c, .slice T m d] 37 (0, 0)
theorem RWr.alloc {B p : Nat} {e : Int} {l : List UInt8} {w : World} (h : RWr B p e l w) (o : Obj) : RWr B p e l (w.alloc o) := by
  obtain ⟨hB, v, hp, hown, hne⟩ := h
  exact ⟨hB, v, (Below.heap_alloc w o p (blk_lt hp)).trans hp, hown.alloc _, hne⟩
theorem RWrS.alloc {B p : Nat} {s : WS} {w : World} (h : RWrS B p s w) (o : Obj) : RWrS B p s (w.alloc o) :=
  ⟨fun he => (h.1 he).alloc o, fun he => by obtain ⟨l, hl⟩ := h.2 he; exact ⟨l, hl.alloc o⟩⟩
theorem RWr.le {B p : Nat} {e : Int} {l : List UInt8} {w : World} (h : RWr B p e l w) : B ≤ p ∧ p < w.heap.size := by
  obtain ⟨hB, v, hp, _⟩ := h
  exact ⟨hB, blk_lt hp⟩
theorem RWrS.le {B p : Nat} {s : WS} {w : World} (h : RWrS B p s w) : B ≤ p ∧ p < w.heap.size := by
  by_cases he : s.e = 0
  · exact (h.1 he).le
  · obtain ⟨l, hl⟩ := h.2 he; exact hl.le
theorem Keeps.alloc (p : Nat) (w : World) (o : Obj) : Keeps p w (w.alloc o) := fun b _ _ hb _ _ => Below.heap_alloc w o b (blk_lt hb)
/-- Both frames of the document's writer. -/
def KeepsB (p : Nat) (w w' : World) : Prop := Keeps p w w' ∧ KeepsU p w w'
theorem KeepsB.refl (p : Nat) (w : World) : KeepsB p w w := ⟨Keeps.refl _ _, KeepsU.refl _ _⟩
theorem KeepsB.trans {p : Nat} {a b c : World} (h : KeepsB p a b) (k : KeepsB p b c) : KeepsB p a c := ⟨h.1.trans k.1, h.2.trans k.2⟩
theorem KeepsB.alloc {p : Nat} {w : World} (hp : p < w.heap.size) (o : Obj) : KeepsB p w (w.alloc o) := ⟨Keeps.alloc p w o, KeepsU.alloc hp o⟩
theorem add_add (a : Addr) (i j : Nat) : (a.add i).add j = a.add (i + j) := by
  unfold Addr.add
  by_cases hi : i = 0 <;> by_cases hj : j = 0 <;> simp [hi, hj, Nat.add_assoc]
theorem fld1 (a : Addr) : a.add 1 = ⟨a.block, a.off + 1, none⟩ := rfl
/-- Where a writer stands, and a box beside it. -/
structure PutAt (B p q : Nat) (cs : Array Value) (t : TypeId) (w : World) (s : WS) (wr : World) : Prop where
  W : RWrS B p s wr
  b : Below B w wr
  k : KeepsB p w wr
  o : wr.heap[q]? = some (.cells cs t (0, 0))
theorem PutAt.step {B p q : Nat} {cs : Array Value} {t : TypeId} {w : World} {s s' : WS} {wr w1 : World} (h : PutAt B p q cs t w s wr) (hW : RWrS B p s' w1) (hb : Below B wr w1) (hk : KeepsB p wr w1) (ht : t ≠ 5) (hq : q ≠ p) : PutAt B p q cs t w s' w1 :=
  ⟨hW, h.b.trans hb, h.k.trans hk, (hk.1 q cs t h.o ht hq).trans h.o⟩
theorem PutAt.join {B p q q2 : Nat} {cs cs2 : Array Value} {t t2 : TypeId} {w : World} {s s' : WS} {wr w1 : World} {o : Obj} (h : PutAt B p q cs t w s wr) (g : PutAt B p q2 cs2 t2 (wr.alloc o) s' w1) (ht : t ≠ 5) (hq : q ≠ p) : PutAt B p q cs t w s' w1 :=
  h.step g.W (((Below.refl _ wr).alloc (by have := h.W.le; omega) o).trans g.b) ((KeepsB.alloc h.W.le.2 o).trans g.k) ht hq
theorem leg_at {w0 wr : World} (hb : Below w0.heap.size w0 wr) {L : Option Addr} {xs : List LegD} (h : LegsAt w0 L xs) {j : Nat} {y : LegD} (hj : xs[j]? = some y) : ∃ ad, L = some ad ∧ wr.cell? (ad.add (j * 2)) = some (.int .i64 y.id) ∧ wr.cell? (ad.add (j * 2 + 1)) = some (.int .i64 y.qty) := by
  obtain ⟨ad, hA, hc⟩ := LegsAt.below hb h (by intro e; rw [e] at hj; simp at hj)
  exact ⟨ad, hA, hc j y hj⟩
theorem pl_at {w0 wr : World} (hb : Below w0.heap.size w0 wr) {L : Option Addr} {xs : List PlD} (h : PlsAt w0 L xs) {j : Nat} {y : PlD} (hj : xs[j]? = some y) : ∃ ad, L = some ad ∧ wr.cell? (ad.add (j * 2)) = some (str8 y.asset) ∧ wr.cell? (ad.add (j * 2 + 1)) = some (.int .i64 y.qty) := by
  obtain ⟨ad, hA, hc⟩ := PlsAt.below hb h (by intro e; rw [e] at hj; simp at hj)
  exact ⟨ad, hA, hc j y hj⟩
theorem str8_ex (l : List UInt8) : ∃ x : ByteArray, str8 l = .string x ∧ bl8 x = l := ⟨⟨l.toArray⟩, rfl, by simp [bl8]⟩
theorem take_at {w0 wr : World} (hb : Below w0.heap.size w0 wr) {T : Option Addr} {xs : List TakeD} (h : TakesAt w0 T xs) {j : Nat} {y : TakeD} (hj : xs[j]? = some y) : ∃ ad Q k c, T = some ad ∧ k = y.pl.length ∧ PlsAt w0 Q y.pl ∧ wr.cell? (ad.add (j * 4)) = some (str8 y.acc) ∧ wr.cell? ⟨(ad.add (j * 4)).block, (ad.add (j * 4)).off + 1, none⟩ = some (str8 y.ccy) ∧ wr.cell? ⟨(ad.add (j * 4)).block, (ad.add (j * 4)).off + 2, none⟩ = some (.int .i64 y.amount) ∧ wr.cell? ⟨(ad.add (j * 4)).block, (ad.add (j * 4)).off + 3, none⟩ = some (.slice Q k c) := by
  obtain ⟨ad, hA, hc⟩ := h (by intro e; rw [e] at hj; simp at hj)
  obtain ⟨Q, k, c, h0, h1, h2, h3, h4, h5⟩ := hc j y hj
  refine ⟨ad, Q, k, c, hA, h4, h5, cell_below hb h0, ?_, ?_, ?_⟩
  · rw [← fld1, add_add]; exact cell_below hb h1
  · rw [show (⟨(ad.add (j * 4)).block, (ad.add (j * 4)).off + 2, none⟩ : Addr) = (ad.add (j * 4)).add 2 from rfl, add_add]; exact cell_below hb h2
  · rw [show (⟨(ad.add (j * 4)).block, (ad.add (j * 4)).off + 3, none⟩ : Addr) = (ad.add (j * 4)).add 3 from rfl, add_add]; exact cell_below hb h3
theorem fold_succ {α : Type} (f : WS → α → WS) (s : WS) (xs : List α) (k : Nat) (x : α) (h : xs[k]? = some x) : (xs.take (k + 1)).foldl f s = f ((xs.take k).foldl f s) x := by
  obtain ⟨hk, rfl⟩ := List.getElem?_eq_some_iff.1 h
  rw [List.take_succ_eq_append_getElem hk, List.foldl_append]
  rfl
theorem takes_len {x : SetD} (hin : SetIn x) (s : WS) (j : Nat) : ((x.takes.take j).foldl wTake (wNum x.takes.length (x.legs.foldl wLeg (wNum x.legs.length s)))).l.length ≤ s.l.length + 50000000 := by
  have h0 := wNum_len (nat_ok (n := x.legs.length) (by have := hin.1; omega)) s
  have h1 := fold_len (f := wLeg) x.legs (wNum x.legs.length s) (fun y hy => wLeg_len (hin.2.2.1 y hy))
  have h2 := wNum_len (nat_ok (n := x.takes.length) (by have := hin.2.1; omega)) (x.legs.foldl wLeg (wNum x.legs.length s))
  have h3 := fold_len (f := wTake) (x.takes.take j) (wNum x.takes.length (x.legs.foldl wLeg (wNum x.legs.length s))) (fun t ht => wTake_len (t := t) ⟨(hin.2.2.2 t (List.mem_of_mem_take ht)).1, fun y hy => ((hin.2.2.2 t (List.mem_of_mem_take ht)).2.2.2.2 y hy).1⟩ (hin.2.2.2 t (List.mem_of_mem_take ht)).2.2.2.1)
  have h4 := hin.1
  have h5 := hin.2.1
  rw [List.length_take] at h3
  omega
theorem pls_len {t : TakeD} (ht : TakeIn t) (s : WS) (k : Nat) : ((t.pl.take k).foldl wPl (wTake0 t s)).l.length ≤ s.l.length + 300000 := by
  have h1 := wTake0_len (t := t) ⟨ht.1, fun y hy => (ht.2.2.2.2 y hy).1⟩ ht.2.2.2.1 s
  have h2 := fold_len (f := wPl) (t.pl.take k) (wTake0 t s) (fun y hy => wPl_len (ht.2.2.2.2 y (List.mem_of_mem_take hy)).1)
  have h3 := ht.2.2.2.1
  rw [List.length_take] at h2
  omega
theorem legs_len {x : SetD} (hin : SetIn x) (s : WS) (j : Nat) : ((x.legs.take j).foldl wLeg (wNum x.legs.length s)).l.length ≤ s.l.length + 5000 := by
  have h1 := wNum_len (nat_ok (n := x.legs.length) (by have := hin.1; omega)) s
  have h2 := fold_len (f := wLeg) (x.legs.take j) (wNum x.legs.length s) (fun y hy => wLeg_len (hin.2.2.1 y (List.mem_of_mem_take hy)))
  have h3 := hin.1
  rw [List.length_take] at h2
  omega
set_option maxRecDepth 20000 in
set_option maxHeartbeats 2000000 in
theorem putD_any (B p : Nat) (w0 : World) (s0 : WS) (L : Option Addr) (n c : Nat) (T : Option Addr) (m d : Nat) (x : SetD) (w : World) (hB : w0.heap.size ≤ B) (hb0 : Below w0.heap.size w0 w) (h : RWrS B p s0 w) (hx : SetAt w0 L n T m x)
    (hin : SetIn x) (hl : s0.l.length ≤ 10000000000) :
    Calls Tryz.prog 9 #[.pointer (some ⟨p, 0, none⟩), .agg #[.slice L n c, .slice T m d]] w fun en w' => (∃ u, en = .returned u) ∧ RWrS B p (wSet s0 x) w' ∧ Below B w w' ∧ KeepsB p w w' := by
  obtain ⟨hn, hlegs, hm, htakes⟩ := hx
  have HL := Lib.hid hlegs
  have HT := Lib.hid htakes
  have HIN := Lib.hid hin
  have HLL := Lib.hid hl
  have HB0 := Lib.hid hb0
  have HBB := Lib.hid hB
  have HN := Lib.hid hn
  have HM := Lib.hid hm
  have HP := Lib.hid h.le
  have hnn : n ≤ 1000000 := by have := hin.1; omega
  have hmm : m ≤ 1000000 := by have := hin.2.1; omega
  have HW := Lib.hid h
  clear hlegs htakes hin hl hb0 hB h hn hm
  go_enter Tryz.func9, Tryz.ntmps9
  go_wp2_with fail
  have HA0 : Hid (PutAt B p w.heap.size #[.slice L n c, .slice T m d] 37 w s0 (w.alloc (.cells #[.slice L n c, .slice T m d] 37 (0, 0)))) :=
    Lib.hid ⟨HW.out.alloc _, (Below.refl _ w).alloc (by have := HP.out; omega) _, KeepsB.alloc HW.out.le.2 _, heap_alloc_new w _⟩
  have HQP : Hid (w.heap.size ≠ p) := Lib.hid (by have := HP.out; omega)
  obtain ⟨q, hq⟩ : ∃ q, w.heap.size = q := ⟨_, rfl⟩
  rw [hq] at HA0 HQP
  rw [hq]
  refine (rwnum_s B p s0 (n : Int) _ HA0.out.W (nat_ok hnn) (fun _ => by have := HLL.out; omega)).mono ?_
  rintro e w1 ⟨⟨u, rfl⟩, hW1, hb1, hk1⟩
  have HA1 := Lib.hid (HA0.out.step hW1 hb1 hk1 (by decide) HQP.out)
  clear hW1 hb1 hk1 HA0
  have b0 : w1.cell? ⟨q, 0, none⟩ = some (.slice L n c) := by rw [cell_p HA1.out.o]; rfl
  go_wp2_with fail
  go_loopw [4] (fun i wr => ∃ j : Nat, i = .int .i64 j ∧ j ≤ n ∧ PutAt B p q #[.slice L n c, .slice T m d] 37 w ((x.legs.take j).foldl wLeg (wNum n s0)) wr) (fun i _ => n - (intOf i).toNat)
  case atStart => exact ⟨0, rfl, Nat.zero_le _, HA1.out⟩
  case round =>
    obtain ⟨j, rfl, hj, hA⟩ := hrel
    have HA := Lib.hid hA
    clear hA b0
    have b0 : wr.cell? ⟨q, 0, none⟩ = some (.slice L n c) := by rw [cell_p HA.out.o]; rfl
    by_cases hlt : j < n
    · have hjl : j < x.legs.length := by have := HN.out; omega
      have hjy : x.legs[j]? = some x.legs[j] := List.getElem?_eq_getElem hjl
      have HY := Lib.hid (HIN.out.2.2.1 _ (List.getElem_mem hjl))
      have HLEN := Lib.hid (legs_len HIN.out s0 j)
      rw [← HN.out] at HLEN
      have hB0 := HB0.out.trans (HA.out.b.mono HBB.out)
      obtain ⟨ad, rfl, l0, l1⟩ := leg_at hB0 HL.out hjy
      have HJY := Lib.hid hjy
      generalize x.legs[j] = y at HJY HY l0 l1
      have HL0 := Lib.hid l0
      have HL1 := Lib.hid l1
      clear hjy hB0 hjl l0 l1
      obtain ⟨st, hst⟩ : ∃ st, (x.legs.take j).foldl wLeg (wNum n s0) = st := ⟨_, rfl⟩
      rw [hst] at HA HLEN
      have l0 := HL0.out
      go_wp2_with fail
      have HST := Lib.hid hst
      clear hst l0
      refine (rwnum_s B p st y.id _ HA.out.W HY.out.1 (fun _ => by have h1 := HLEN.out; have h2 := HLL.out; omega)).mono ?_
      rintro e w2 ⟨⟨u2, rfl⟩, hW2, hb2, hk2⟩
      have HA2 := Lib.hid (HA.out.step hW2 hb2 hk2 (by decide) HQP.out)
      clear hW2 hb2 hk2
      have b2 : w2.cell? ⟨q, 0, none⟩ = some (.slice (some ad) n c) := by rw [cell_p HA2.out.o]; rfl
      obtain ⟨ad', hA', _, l1⟩ := leg_at (HB0.out.trans (HA2.out.b.mono HBB.out)) HL.out HJY.out
      injection hA' with hA'
      subst hA'
      have l1' : w2.cell? ⟨(ad.add (j * 2)).block, (ad.add (j * 2)).off + 1, none⟩ = some (.int .i64 y.qty) := by rw [← fld1, add_add]; exact l1
      go_wp2_with fail
      refine (rwnum_s B p (wNum y.id st) y.qty _ HA2.out.W HY.out.2 (fun _ => by have h1 := HLEN.out; have h2 := HLL.out; have h3 := wNum_len HY.out.1 st; omega)).mono ?_
      rintro e w3 ⟨⟨u3, rfl⟩, hW3, hb3, hk3⟩
      have HA3 := Lib.hid (HA2.out.step hW3 hb3 hk3 (by decide) HQP.out)
      clear hW3 hb3 hk3
      go_wp2_with fail
      go_roundw
      case rel =>
        refine ⟨j + 1, by go_num, by omega, ?_⟩
        rw [fold_succ wLeg _ _ _ _ HJY.out, HST.out]
        exact HA3.out
      case measure => simp [intOf]; omega
    · have hjn : j = n := by omega
      have HAN : Hid (PutAt B p q #[.slice L n c, .slice T m d] 37 w (x.legs.foldl wLeg (wNum n s0)) wr) := Lib.hid (by
        have h := HA.out
        rw [List.take_of_length_le (by have := HN.out; omega)] at h
        exact h)
      clear hjn hj
      obtain ⟨s1, hs1⟩ : ∃ s1, x.legs.foldl wLeg (wNum n s0) = s1 := ⟨_, rfl⟩
      rw [hs1] at HAN
      have HS1 := Lib.hid hs1
      have HLEN1 : Hid (s1.l.length ≤ s0.l.length + 5000) := Lib.hid (by
        have h := legs_len HIN.out s0 x.legs.length
        rw [List.take_length, ← HN.out, hs1] at h
        exact h)
      clear hs1
      have b1 : wr.cell? ⟨q, 1, none⟩ = some (.slice T m d) := by rw [cell_p HAN.out.o]; rfl
      go_wp2_with fail
      refine (rwnum_s B p s1 (m : Int) _ HAN.out.W (nat_ok hmm) (fun _ => by have h1 := HLEN1.out; have h2 := HLL.out; omega)).mono ?_
      rintro e w2 ⟨⟨u2, rfl⟩, hW2, hb2, hk2⟩
      have HA2 := Lib.hid (HAN.out.step hW2 hb2 hk2 (by decide) HQP.out)
      clear hW2 hb2 hk2 b0 b1
      go_wp2_with fail
      go_loopw [5] (fun i wr => ∃ j : Nat, i = .int .i64 j ∧ j ≤ m ∧ PutAt B p q #[.slice L n c, .slice T m d] 37 w ((x.takes.take j).foldl wTake (wNum m s1)) wr) (fun i _ => m - (intOf i).toNat)
      case atStart => exact ⟨0, rfl, Nat.zero_le _, HA2.out⟩
      case round =>
        obtain ⟨W2, rfl⟩ : ∃ W : World, W = wr := ⟨wr, rfl⟩
        obtain ⟨j2, rfl, hj2, hB2⟩ := hrel
        have HB2 := Lib.hid hB2
        clear hB2
        have b1 : W2.cell? ⟨q, 1, none⟩ = some (.slice T m d) := by rw [cell_p HB2.out.o]; rfl
        by_cases hlt2 : j2 < m
        · have hjl : j2 < x.takes.length := by have := HM.out; omega
          have hjy : x.takes[j2]? = some x.takes[j2] := List.getElem?_eq_getElem hjl
          have HY := Lib.hid (HIN.out.2.2.2 _ (List.getElem_mem hjl))
          have HLEN := Lib.hid (takes_len HIN.out s0 j2)
          rw [← HN.out, ← HM.out, HS1.out] at HLEN
          obtain ⟨ad, Q, k, c', rfl, hk, hpl, k0, k1, k2, k3⟩ := take_at (HB0.out.trans (HB2.out.b.mono HBB.out)) HT.out hjy
          have HJY := Lib.hid hjy
          generalize x.takes[j2] = y at HJY HY hk hpl k0 k1 k2 k3
          have HK := Lib.hid hk
          have HPL := Lib.hid hpl
          obtain ⟨xa, ea, eba⟩ := str8_ex y.acc
          obtain ⟨xc, ec, ebc⟩ := str8_ex y.ccy
          rw [ea] at k0
          rw [ec] at k1
          have HEA := Lib.hid eba
          have HEC := Lib.hid ebc
          clear hjy hjl hk hpl ea ec eba ebc
          obtain ⟨st, hst⟩ : ∃ st, (x.takes.take j2).foldl wTake (wNum m s1) = st := ⟨_, rfl⟩
          rw [hst] at HB2 HLEN
          have HST := Lib.hid hst
          clear hst
          go_wp2_with fail
          have HT0 : Hid (PutAt B p W2.heap.size #[.string xa, .string xc, .int .i64 y.amount, .slice Q k c'] 58 (W2.alloc (.cells #[.string xa, .string xc, .int .i64 y.amount, .slice Q k c'] 58 (0, 0))) st (W2.alloc (.cells #[.string xa, .string xc, .int .i64 y.amount, .slice Q k c'] 58 (0, 0)))) :=
            Lib.hid ⟨HB2.out.W.alloc _, Below.refl _ _, KeepsB.refl _ _, heap_alloc_new W2 _⟩
          have HQ2 : Hid (W2.heap.size ≠ p) := Lib.hid (by have := HB2.out.W.le; omega)
          obtain ⟨q2, hq2⟩ : ∃ q2, W2.heap.size = q2 := ⟨_, rfl⟩
          rw [hq2] at HT0 HQ2
          rw [hq2]
          refine (rwtext_s B p st xa _ HT0.out.W (fun _ => by have h1 := HLEN.out; have h2 := HLL.out; omega)).mono ?_
          rintro e w3 ⟨⟨u3, rfl⟩, hW3, hb3, hk3⟩
          have HT1 := Lib.hid (HT0.out.step hW3 hb3 hk3 (by decide) HQ2.out)
          clear hW3 hb3 hk3 HT0 b1 k0 k1 k2 k3
          have f1 : w3.cell? ⟨q2, 1, none⟩ = some (.string xc) := by rw [cell_p HT1.out.o]; rfl
          go_wp2_with fail
          refine (rwtext_s B p (wText (bl8 xa) st) xc _ HT1.out.W (fun _ => by have h1 := HLEN.out; have h2 := HLL.out; have h3 := wText_len (bl8 xa) st; omega)).mono ?_
          rintro e w4 ⟨⟨u4, rfl⟩, hW4, hb4, hk4⟩
          have HT2 := Lib.hid (HT1.out.step hW4 hb4 hk4 (by decide) HQ2.out)
          clear hW4 hb4 hk4 f1
          have f2 : w4.cell? ⟨q2, 2, none⟩ = some (.int .i64 y.amount) := by rw [cell_p HT2.out.o]; rfl
          go_wp2_with fail
          refine (rwnum_s B p (wText (bl8 xc) (wText (bl8 xa) st)) y.amount _ HT2.out.W HY.out.1 (fun _ => by have h1 := HLEN.out; have h2 := HLL.out; have h3 := wText_len (bl8 xa) st; have h4 := wText_len (bl8 xc) (wText (bl8 xa) st); omega)).mono ?_
          rintro e w5 ⟨⟨u5, rfl⟩, hW5, hb5, hk5⟩
          have HT3 := Lib.hid (HT2.out.step hW5 hb5 hk5 (by decide) HQ2.out)
          clear hW5 hb5 hk5 f2
          have f3 : w5.cell? ⟨q2, 3, none⟩ = some (.slice Q k c') := by rw [cell_p HT3.out.o]; rfl
          have hk200 : k ≤ 1000000 := by have h1 := HK.out; have h2 := HY.out.2.2.2.1; omega
          have HK2 := Lib.hid hk200
          go_wp2_with fail
          refine (rwnum_s B p (wNum y.amount (wText (bl8 xc) (wText (bl8 xa) st))) (k : Int) _ HT3.out.W (nat_ok hk200) (fun _ => by have h1 := HLEN.out; have h2 := HLL.out; have h3 := wText_len (bl8 xa) st; have h4 := wText_len (bl8 xc) (wText (bl8 xa) st); have h5 := wNum_len HY.out.1 (wText (bl8 xc) (wText (bl8 xa) st)); omega)).mono ?_
          rintro e w6 ⟨⟨u6, rfl⟩, hW6, hb6, hk6⟩
          have HT4 := Lib.hid (HT3.out.step hW6 hb6 hk6 (by decide) HQ2.out)
          clear hW6 hb6 hk6 f3
          have hs4 : wNum (k : Int) (wNum y.amount (wText (bl8 xc) (wText (bl8 xa) st))) = wTake0 y st := by rw [HEA.out, HEC.out, wTake0, HK.out]
          rw [hs4] at HT4
          clear hs4
          go_wp2_with fail
          go_loopw [7] (fun i wl => ∃ j : Nat, i = .int .i64 j ∧ j ≤ k ∧ PutAt B p q2 #[.string xa, .string xc, .int .i64 y.amount, .slice Q k c'] 58 (W2.alloc (.cells #[.string xa, .string xc, .int .i64 y.amount, .slice Q k c'] 58 (0, 0))) ((y.pl.take j).foldl wPl (wTake0 y st)) wl) (fun i _ => k - (intOf i).toNat)
          case atStart => exact ⟨0, rfl, Nat.zero_le _, HT4.out⟩
          case round =>
            obtain ⟨j3, rfl, hj3, hC⟩ := hrel
            have HC := Lib.hid hC
            clear hC
            have f3 : wr.cell? ⟨q2, 3, none⟩ = some (.slice Q k c') := by rw [cell_p HC.out.o]; rfl
            have HCJ := Lib.hid (HB2.out.join HC.out (by decide) HQP.out)
            by_cases hlt3 : j3 < k
            · have hjl : j3 < y.pl.length := by have := HK.out; omega
              have hjy : y.pl[j3]? = some y.pl[j3] := List.getElem?_eq_getElem hjl
              have HZ := Lib.hid (HY.out.2.2.2.2 _ (List.getElem_mem hjl))
              have HLEN3 := Lib.hid (pls_len HY.out st j3)
              obtain ⟨ad3, rfl, g0, g1⟩ := pl_at (HB0.out.trans (HCJ.out.b.mono HBB.out)) HPL.out hjy
              have HJZ := Lib.hid hjy
              generalize y.pl[j3] = z at HJZ HZ g0 g1
              obtain ⟨xz, ez, ebz⟩ := str8_ex z.asset
              rw [ez] at g0
              have HEZ := Lib.hid ebz
              have HG1 := Lib.hid g1
              clear hjy hjl ez ebz g1
              obtain ⟨s5, hs5⟩ : ∃ s5, (y.pl.take j3).foldl wPl (wTake0 y st) = s5 := ⟨_, rfl⟩
              rw [hs5] at HC HLEN3 HCJ
              have HS5 := Lib.hid hs5
              clear hs5
              go_wp2_with fail
              refine (rwtext_s B p s5 xz _ HC.out.W (fun _ => by have h1 := HLEN.out; have h2 := HLL.out; have h3 := HLEN3.out; omega)).mono ?_
              rintro e w7 ⟨⟨u7, rfl⟩, hW7, hb7, hk7⟩
              have HC1 := Lib.hid (HC.out.step hW7 hb7 hk7 (by decide) HQ2.out)
              clear hW7 hb7 hk7 f3 g0
              have HCJ1 := Lib.hid (HB2.out.join HC1.out (by decide) HQP.out)
              have f4 : w7.cell? ⟨q2, 3, none⟩ = some (.slice (some ad3) k c') := by rw [cell_p HC1.out.o]; rfl
              obtain ⟨ad4, hA4, _, g1⟩ := pl_at (HB0.out.trans (HCJ1.out.b.mono HBB.out)) HPL.out HJZ.out
              injection hA4 with hA4
              subst hA4
              have g1' : w7.cell? ⟨(ad3.add (j3 * 2)).block, (ad3.add (j3 * 2)).off + 1, none⟩ = some (.int .i64 z.qty) := by rw [← fld1, add_add]; exact g1
              clear g1
              go_wp2_with fail
              refine (rwnum_s B p (wText (bl8 xz) s5) z.qty _ HC1.out.W HZ.out.1 (fun _ => by have h1 := HLEN.out; have h2 := HLL.out; have h3 := HLEN3.out; have h4 := wText_len (bl8 xz) s5; omega)).mono ?_
              rintro e w8 ⟨⟨u8, rfl⟩, hW8, hb8, hk8⟩
              have HC2 := Lib.hid (HC1.out.step hW8 hb8 hk8 (by decide) HQ2.out)
              clear hW8 hb8 hk8
              go_wp2_with fail
              go_roundw
              case rel =>
                refine ⟨j3 + 1, by go_num, by omega, ?_⟩
                rw [fold_succ wPl _ _ _ _ HJZ.out, HS5.out]
                have h := HC2.out
                rw [HEZ.out] at h
                exact h
              case measure => simp [intOf]; omega
            · have HEND := HCJ.out
              rw [List.take_of_length_le (by have := HK.out; omega)] at HEND
              have HEND := Lib.hid HEND
              go_wp2_with fail
              go_roundw
              case rel =>
                refine ⟨j2 + 1, by go_num, by omega, ?_⟩
                rw [fold_succ wTake _ _ _ _ HJY.out, HST.out]
                exact HEND.out
              case measure => simp [intOf]; omega
        · have HEND : Hid (PutAt B p q #[.slice L n c, .slice T m d] 37 w (wSet s0 x) W2) := Lib.hid (by
            have h := HB2.out
            rw [List.take_of_length_le (by have := HM.out; omega)] at h
            have e : wSet s0 x = x.takes.foldl wTake (wNum m s1) := by rw [wSet, ← HN.out, ← HM.out, HS1.out]
            rw [e]
            exact h)
          go_wp2_with fail
          go_end0
          exact ⟨⟨_, rfl⟩, HEND.out.W, HEND.out.b, HEND.out.k⟩
end Go.Proofs.YtgmbppfkkiobhaaGreat.Wire
