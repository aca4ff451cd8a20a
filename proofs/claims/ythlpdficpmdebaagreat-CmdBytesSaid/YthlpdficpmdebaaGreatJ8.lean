/- cmd.PutReply. -/
import Derived.Test.YthlpdficpmdebaaGreatJ4
import Derived.Test.YthlpdficpmdebaaGreatJ0
import Derived.Test.YthlpdficpmdebaaGreatJ7
namespace Go.Proofs.YthlpdficpmdebaaGreat.Wire
open Go Go.RowKit Go.Lib
set_option maxRecDepth 20000 in
set_option maxHeartbeats 1000000 in
theorem putR_any (err : Int) (A : Option Addr) (n c : Nat) (nums : List Int) (A' : Option Addr) (m c' : Nat) (texts : List ByteArray) (w : World) (hk : okI err) (h : Rows2 w w.heap.size A n nums A' m texts) :
    Calls Tryz.prog 20 #[.agg #[.int .i64 err, .slice A n c, .slice A' m c']] w (PutRPost err nums texts w) := by
  have HK := Lib.hid hk
  have HR := Lib.hid h
  clear hk h
  go_enter Tryz.func20, Tryz.ntmps20
  go_wp2_with fail
  refine (newW_any _).mono ?_
  rintro e w1 ⟨rfl, hW1, hb1⟩
  have hsz0 : (w.alloc (repBox err A n c A' m c')).heap.size = w.heap.size + 1 := by simp
  have hW1' : Wr (w.heap.size + 1) (w.heap.size + 1) 0 [] w1 := by rw [← hsz0]; exact hW1
  have hb1' : Below (w.heap.size + 1) (w.alloc (repBox err A n c A' m c')) w1 := by rw [← hsz0]; exact hb1
  have HB1 := Lib.hid hb1'
  have HW1 := Lib.hid hW1'
  have HBS := Lib.hid hW1'.cells.2.2
  obtain ⟨c0, _, _⟩ := repBox_cells (box_at hb1)
  clear hW1 hW1' hb1 hb1' hsz0
  go_wp2_with fail
  refine (wnums_any (w.heap.size + 1) (w.heap.size + 1) [] _ 1 1 [err] _ (HW1.out.alloc _) (ints_one w1 err _) rfl (.inl (Nat.le_refl _)) (by intro x hx; simp at hx; subst hx; exact HK.out) (by simp) (by omega)).mono ?_
  rintro e w3 ⟨⟨u2, rfl⟩, hW3, hb2⟩
  have HB3 := Lib.hid ((HB1.out.alloc HBS.out _).trans hb2)
  obtain ⟨c2, c3⟩ := (repBox_cells (box_at' HB3.out)).2
  have HR3 := Lib.hid (HR.out.below (((Below.refl w.heap.size w).alloc (Nat.le_refl _) _).trans (HB3.out.mono (Nat.le_succ _))) (Nat.le_succ w.heap.size))
  clear hb2 c0
  have HF : Hid (Below w.heap.size w w3) := Lib.hid (((Below.refl w.heap.size w).alloc (Nat.le_refl _) _).trans (HB3.out.mono (Nat.le_succ _)))
  by_cases hmany : 2000 < n ∨ 100 < m
  · clear hW3
    go_wp2_with fail
    refine (put_many _ _ _ _ _ _ _ _ _ _ (by omega)).mono ?_
    rintro e w4 ⟨rfl, rfl⟩
    go_wp2_with fail
    go_ret2
    exact ⟨HF.out, .inr ⟨by rintro ⟨h1, h2, _⟩; have h3 := HR.out.n_; have h4 := HR.out.m_; omega, rfl⟩⟩
  · have hn70 : n ≤ 2000 := by omega
    have hm10 : m ≤ 100 := by omega
    clear hmany
    obtain ⟨L3, hL3⟩ : ∃ L, [] ++ ([err].map numB).flatten = L := ⟨_, rfl⟩
    rw [hL3] at hW3
    have HL3 := Lib.hid hL3
    have HW3 := Lib.hid hW3
    clear hL3 hW3
    go_wp2_with fail
    refine (put_ok (w.heap.size + 1) _ L3 A n c nums A' m c' texts 2000 100 _ HW3.out HR3.out.iat HR3.out.n_ HR3.out.ib HR3.out.ok HR3.out.tat HR3.out.m_ HR3.out.tb HR3.out.max (by omega) (by omega) (by omega) (by omega) (by
      have h1 := flat_len [err] (by intro x hx; simp at hx; subst hx; exact HK.out)
      rw [← HL3.out]
      simp only [List.length_append, List.length_cons, List.length_nil] at h1 ⊢
      omega)).mono ?_
    rintro e w4 ⟨hb4, hh⟩
    have HB4 := Lib.hid (HF.out.trans (hb4.mono (Nat.le_succ _)))
    clear hb4
    rcases hh with ⟨hfit2, rfl⟩ | ⟨hbad, rfl⟩
    · obtain ⟨L4, hL4⟩ : ∃ L, L3 ++ putB nums (texts.map bl) = L := ⟨_, rfl⟩
      rw [hL4]
      have HL4 := Lib.hid hL4
      have HFIT2 := Lib.hid hfit2
      clear hL4 hfit2
      go_wp2_with fail
      go_ret2
      refine ⟨HB4.out, .inl ⟨by have := HR.out.n_; omega, by have := HR.out.m_; omega, HFIT2.out, ?_⟩⟩
      have hE : repB err nums (texts.map bl) = L4 := by
        rw [← HL4.out, ← HL3.out]
        simp only [repB, List.map_cons, List.map_nil, List.flatten_cons, List.flatten_nil, List.append_nil, List.nil_append]
      rw [hE]
      rfl
    · have HBAD := Lib.hid hbad
      clear hbad
      go_wp2_with fail
      go_ret2
      exact ⟨HB4.out, .inr ⟨by rintro ⟨_, _, h⟩; obtain ⟨x, hx, hx2⟩ := HBAD.out; have h3 := h x hx; omega, rfl⟩⟩
end Go.Proofs.YthlpdficpmdebaaGreat.Wire
/- What lies below a bound stays. -/
namespace Go.Proofs.YthlpdficpmdebaaGreat.Wire
open Go Go.RowKit Go.Lib
theorem only_of_below {a w : World} (h : Below a.heap.size a w) (row : Option Nat) : a.grownBy w row := ⟨h.os, h.tape, h.output, h.size, fun i hi _ => h.block i hi⟩
theorem below_drewN' {B : Nat} {a w : World} (h : Below B a w) (n : Nat) : Below B a (w.drewN n) := ⟨h.os, h.tape, h.output, h.size, h.block⟩
theorem set3 {w7 : World} {r : Nat} {x0 x1 x2 : Value} {t : TypeId} (h : w7.heap[r]? = some (.cells #[x0, x1, x2] t (0, 0))) (y0 y1 y2 : Value) :
    (((w7.setCell ⟨r, 0, none⟩ y0).setCell ⟨r, 1, none⟩ y1).setCell ⟨r, 2, none⟩ y2).heap[r]? = some (.cells #[y0, y1, y2] t (0, 0)) :=
  Go.Lib.heap_setCell_same (i := 2) (Go.Lib.heap_setCell_same (i := 1) (Go.Lib.heap_setCell_same (i := 0) h y0) y1) y2
theorem grown3 (w7 : World) (r : Nat) (y0 y1 y2 : Value) : w7.grownBy (((w7.setCell ⟨r, 0, none⟩ y0).setCell ⟨r, 1, none⟩ y1).setCell ⟨r, 2, none⟩ y2) (some r) :=
  ((grownBy_setCell w7 r 0 y0).trans (grownBy_setCell _ r 1 y1)).trans (grownBy_setCell _ r 2 y2)
def rep0 : Array Value := #[.int .i64 0, .slice none 0 0, .slice none 0 0]
end Go.Proofs.YthlpdficpmdebaaGreat.Wire
/- complineref28.Put, PutReply; and cmd.Put, cmd.PutReply told in the same words. -/
namespace Go.Proofs.YthlpdficpmdebaaGreat.Wire
open Go Go.RowKit Go.Lib
def ValPost (v : Value) (w : World) (en : Ending) (w' : World) : Prop := en = .returned v ∧ Below w.heap.size w w'
theorem putC_v (kind : Int) (party : ByteArray) (A : Option Addr) (n c : Nat) (nums : List Int) (A' : Option Addr) (m c' : Nat) (texts : List ByteArray) (w : World) (hk : okI kind) (hp : party.size ≤ maxLen) (h : Rows2 w w.heap.size A n nums A' m texts) :
    Calls Tryz.prog 8 #[.agg #[.int .i64 kind, .string party, .slice A n c, .slice A' m c']] w (ValPost (cmdV kind party nums texts) w) := by
  refine (putC_any kind party A n c nums A' m c' texts w hk hp h).mono ?_
  rintro en w' ⟨hb, h1 | h1⟩
  · obtain ⟨h1, h2, h3, h4, rfl⟩ := h1
    exact ⟨by rw [cmdV_eq, if_pos ⟨h1, h2, h3, h4⟩], hb⟩
  · obtain ⟨h1, rfl⟩ := h1
    exact ⟨by rw [cmdV_eq, if_neg h1]; rfl, hb⟩
theorem putR_v (err : Int) (A : Option Addr) (n c : Nat) (nums : List Int) (A' : Option Addr) (m c' : Nat) (texts : List ByteArray) (w : World) (hk : okI err) (h : Rows2 w w.heap.size A n nums A' m texts) :
    Calls Tryz.prog 20 #[.agg #[.int .i64 err, .slice A n c, .slice A' m c']] w (ValPost (repV err nums texts) w) := by
  refine (putR_any err A n c nums A' m c' texts w hk h).mono ?_
  rintro en w' ⟨hb, h1 | h1⟩
  · obtain ⟨h1, h2, h3, rfl⟩ := h1
    exact ⟨by rw [repV_eq, if_pos ⟨h1, h2, h3⟩], hb⟩
  · obtain ⟨h1, rfl⟩ := h1
    exact ⟨by rw [repV_eq, if_neg h1]; rfl, hb⟩
def cmdBoxD (kind : Int) (party : ByteArray) (A : Option Addr) (n c : Nat) (A' : Option Addr) (m c' : Nat) : Obj := .cells #[.int .i64 kind, .string party, .slice A n c, .slice A' m c'] 37
def repBoxD (err : Int) (A : Option Addr) (n c : Nat) (A' : Option Addr) (m c' : Nat) : Obj := .cells #[.int .i64 err, .slice A n c, .slice A' m c'] 52
theorem cmdBoxD_cells {w1 : World} {b : Nat} {kind : Int} {party : ByteArray} {A : Option Addr} {n c : Nat} {A' : Option Addr} {m c' : Nat} (h : w1.heap[b]? = some (cmdBoxD kind party A n c A' m c')) :
    w1.cell? ⟨b, 0, none⟩ = some (.int .i64 kind) ∧ w1.cell? ⟨b, 1, none⟩ = some (.string party) ∧ w1.cell? ⟨b, 2, none⟩ = some (.slice A n c) ∧ w1.cell? ⟨b, 3, none⟩ = some (.slice A' m c') := by
  refine ⟨?_, ?_, ?_, ?_⟩ <;> (rw [cell_p h]; rfl)
theorem repBoxD_cells {w1 : World} {b : Nat} {err : Int} {A : Option Addr} {n c : Nat} {A' : Option Addr} {m c' : Nat} (h : w1.heap[b]? = some (repBoxD err A n c A' m c')) :
    w1.cell? ⟨b, 0, none⟩ = some (.int .i64 err) ∧ w1.cell? ⟨b, 1, none⟩ = some (.slice A n c) ∧ w1.cell? ⟨b, 2, none⟩ = some (.slice A' m c') := by
  refine ⟨?_, ?_, ?_⟩ <;> (rw [cell_p h]; rfl)
/-- A new writer of the document's, behind a box. -/
theorem newRW (w : World) (o : Obj) : RWrS (w.heap.size + 1) (w.heap.size + 1) ⟨0, []⟩ ((w.alloc o).alloc (.cells #[.slice none 0 0, .int .i64 0] 93)) := by
  refine RWrS.ok rfl ⟨Nat.le_refl _, .slice none 0 0, ?_, World.ownsRow_nil _ _ _ _, by simp [Value.ownBlock]⟩
  have h := heap_alloc_new (w.alloc o) (.cells #[.slice none 0 0, .int .i64 0] 93)
  simpa using h
theorem below_two (w : World) (o o2 : Obj) : Below w.heap.size w ((w.alloc o).alloc o2) := ((Below.refl _ w).alloc (Nat.le_refl _) o).alloc (by simp) o2
theorem box_two {w w1 : World} {o o2 : Obj} (hb : Below (w.heap.size + 1) ((w.alloc o).alloc o2) w1) : w1.heap[w.heap.size]? = some o :=
  (hb.block w.heap.size (by omega)).trans ((Below.heap_alloc (w.alloc o) o2 _ (by simp)).trans (heap_alloc_new w o))
set_option maxRecDepth 20000 in
set_option maxHeartbeats 1000000 in
theorem putDC_any (kind : Int) (party : ByteArray) (A : Option Addr) (n c : Nat) (nums : List Int) (A' : Option Addr) (m c' : Nat) (texts : List ByteArray) (w : World) (hk : okI kind) (h : Rows2 w w.heap.size A n nums A' m texts) :
    Calls Tryz.prog 9 #[.agg #[.int .i64 kind, .string party, .slice A n c, .slice A' m c']] w (ValPost (cmdV kind party nums texts) w) := by
  have HK := Lib.hid hk
  have HR := Lib.hid h
  clear hk h
  by_cases hmany : 70 < n ∨ 10 < m
  · have HV : Hid (cmdV kind party nums texts = longV) := Lib.hid (by rw [cmdV, if_pos (by have h1 := HR.out.n_; have h2 := HR.out.m_; omega)])
    go_enter Tryz.func9, Tryz.ntmps9
    by_cases h70 : 70 < n
    · clear hmany
      go_wp2_with fail
      go_ret2
      exact ⟨by rw [HV.out]; rfl, (Below.refl _ w).alloc (Nat.le_refl _) _⟩
    · have h10 : 10 < m := by omega
      clear hmany
      go_wp2_with fail
      go_ret2
      exact ⟨by rw [HV.out]; rfl, (Below.refl _ w).alloc (Nat.le_refl _) _⟩
  · have HV : Hid (cmdV kind party nums texts = bytesV (cmdS kind party nums texts)) := Lib.hid (by rw [cmdV, if_neg (by have h1 := HR.out.n_; have h2 := HR.out.m_; omega)])
    have h70 : ¬ 70 < n := by omega
    have h10 : ¬ 10 < m := by omega
    have H70 := Lib.hid h70
    have H10 := Lib.hid h10
    clear hmany
    go_enter Tryz.func9, Tryz.ntmps9
    go_wp2_with fail
    have HW0 := Lib.hid (newRW w (cmdBoxD kind party A n c A' m c'))
    have HB0 := Lib.hid (Below.refl (w.heap.size + 1) ((w.alloc (cmdBoxD kind party A n c A' m c')).alloc (.cells #[.slice none 0 0, .int .i64 0] 93)))
    have HF0 := Lib.hid (below_two w (cmdBoxD kind party A n c A' m c') (.cells #[.slice none 0 0, .int .i64 0] 93))
    refine (rwnum_s (w.heap.size + 1) (w.heap.size + 1) ⟨0, []⟩ kind _ HW0.out HK.out (fun _ => by simp)).mono ?_
    rintro e w1 ⟨⟨u, rfl⟩, hW1, hb1, -⟩
    have HW1 := Lib.hid hW1
    have HB1 := Lib.hid (HB0.out.trans hb1)
    have HF1 := Lib.hid (HF0.out.trans (hb1.mono (Nat.le_succ _)))
    obtain ⟨_, c1, _, _⟩ := cmdBoxD_cells (box_two HB1.out)
    clear hW1 hb1 h70 h10
    go_wp2_with fail
    have hl1 := wNum_len HK.out ⟨0, []⟩
    have HL1 := Lib.hid hl1
    clear hl1
    refine (rwtext_s (w.heap.size + 1) (w.heap.size + 1) (wNum kind ⟨0, []⟩) party _ HW1.out (fun _ => by have := HL1.out; simp at this; omega)).mono ?_
    rintro e w2 ⟨⟨u2, rfl⟩, hW2, hb2, -⟩
    have HW2 := Lib.hid hW2
    have HB2 := Lib.hid (HB1.out.trans hb2)
    have HF2 := Lib.hid (HF1.out.trans (hb2.mono (Nat.le_succ _)))
    obtain ⟨_, _, c2, c3⟩ := cmdBoxD_cells (box_two HB2.out)
    clear hW2 hb2 c1
    have HR2 := Lib.hid (HR.out.below HF2.out (Nat.le_succ w.heap.size))
    go_wp2_with fail
    refine (layD_any (w.heap.size + 1) (w.heap.size + 1) (wText (bl8 party) (wNum kind ⟨0, []⟩)) A n c nums A' m c' texts _ HW2.out HR2.out (by have := H70.out; omega) (by have := H10.out; omega) (by have h1 := HL1.out; have h2 := wText_len (bl8 party) (wNum kind ⟨0, []⟩); simp at h1; omega)).mono ?_
    rintro e w3 ⟨⟨u3, rfl⟩, hW3, hb3⟩
    have HW3 := Lib.hid hW3
    have HF3 := Lib.hid (HF2.out.trans (hb3.mono (Nat.le_succ _)))
    clear hW3 hb3 c2 c3
    go_wp2_with fail
    refine (rwbytes_s (w.heap.size + 1) (w.heap.size + 1) _ _ HW3.out).mono ?_
    rintro e w4 ⟨rfl, n4, rfl⟩
    have hv := HV.out
    unfold cmdS at hv
    unfold bytesV at hv ⊢
    obtain ⟨S, hS⟩ : ∃ S, wLay nums texts (wText (bl8 party) (wNum kind ⟨0, []⟩)) = S := ⟨_, rfl⟩
    rw [hS] at hv ⊢
    have HV2 := Lib.hid hv
    clear hv hS
    by_cases hs : S.e = 0
    · have hv := HV2.out
      rw [if_pos hs] at hv ⊢
      have HV3 := Lib.hid hv
      clear hv hs
      go_wp2_with fail
      go_ret2
      exact ⟨by rw [HV3.out]; rfl, below_drewN' HF3.out n4⟩
    · have hv := HV2.out
      rw [if_neg hs] at hv ⊢
      have HV3 := Lib.hid hv
      clear hv hs
      go_wp2_with fail
      go_ret2
      exact ⟨by rw [HV3.out]; rfl, below_drewN' HF3.out n4⟩
set_option maxRecDepth 20000 in
set_option maxHeartbeats 1000000 in
theorem putDR_any (err : Int) (A : Option Addr) (n c : Nat) (nums : List Int) (A' : Option Addr) (m c' : Nat) (texts : List ByteArray) (w : World) (hk : okI err) (h : Rows2 w w.heap.size A n nums A' m texts) :
    Calls Tryz.prog 21 #[.agg #[.int .i64 err, .slice A n c, .slice A' m c']] w (ValPost (repV err nums texts) w) := by
  have HK := Lib.hid hk
  have HR := Lib.hid h
  clear hk h
  by_cases hmany : 2000 < n ∨ 100 < m
  · have HV : Hid (repV err nums texts = longV) := Lib.hid (by rw [repV, if_pos (by have h1 := HR.out.n_; have h2 := HR.out.m_; omega)])
    go_enter Tryz.func21, Tryz.ntmps21
    by_cases h70 : 2000 < n
    · clear hmany
      go_wp2_with fail
      go_ret2
      exact ⟨by rw [HV.out]; rfl, (Below.refl _ w).alloc (Nat.le_refl _) _⟩
    · have h10 : 100 < m := by omega
      clear hmany
      go_wp2_with fail
      go_ret2
      exact ⟨by rw [HV.out]; rfl, (Below.refl _ w).alloc (Nat.le_refl _) _⟩
  · have HV : Hid (repV err nums texts = bytesV (repS err nums texts)) := Lib.hid (by rw [repV, if_neg (by have h1 := HR.out.n_; have h2 := HR.out.m_; omega)])
    have h70 : ¬ 2000 < n := by omega
    have h10 : ¬ 100 < m := by omega
    have H70 := Lib.hid h70
    have H10 := Lib.hid h10
    clear hmany
    go_enter Tryz.func21, Tryz.ntmps21
    go_wp2_with fail
    have HW0 := Lib.hid (newRW w (repBoxD err A n c A' m c'))
    have HB0 := Lib.hid (Below.refl (w.heap.size + 1) ((w.alloc (repBoxD err A n c A' m c')).alloc (.cells #[.slice none 0 0, .int .i64 0] 93)))
    have HF0 := Lib.hid (below_two w (repBoxD err A n c A' m c') (.cells #[.slice none 0 0, .int .i64 0] 93))
    refine (rwnum_s (w.heap.size + 1) (w.heap.size + 1) ⟨0, []⟩ err _ HW0.out HK.out (fun _ => by simp)).mono ?_
    rintro e w2 ⟨⟨u, rfl⟩, hW1, hb1, -⟩
    have HW2 := Lib.hid hW1
    have HB2 := Lib.hid (HB0.out.trans hb1)
    have HF2 := Lib.hid (HF0.out.trans (hb1.mono (Nat.le_succ _)))
    obtain ⟨_, c2, c3⟩ := repBoxD_cells (box_two HB2.out)
    clear hW1 hb1 h70 h10
    have HR2 := Lib.hid (HR.out.below HF2.out (Nat.le_succ w.heap.size))
    have hl1 := wNum_len HK.out ⟨0, []⟩
    have HL1 := Lib.hid hl1
    clear hl1
    go_wp2_with fail
    refine (layD_any (w.heap.size + 1) (w.heap.size + 1) (wNum err ⟨0, []⟩) A n c nums A' m c' texts _ HW2.out HR2.out (by have := H70.out; omega) (by have := H10.out; omega) (by have h1 := HL1.out; simp at h1; omega)).mono ?_
    rintro e w3 ⟨⟨u3, rfl⟩, hW3, hb3⟩
    have HW3 := Lib.hid hW3
    have HF3 := Lib.hid (HF2.out.trans (hb3.mono (Nat.le_succ _)))
    clear hW3 hb3 c2 c3
    go_wp2_with fail
    refine (rwbytes_s (w.heap.size + 1) (w.heap.size + 1) _ _ HW3.out).mono ?_
    rintro e w4 ⟨rfl, n4, rfl⟩
    have hv := HV.out
    unfold repS at hv
    unfold bytesV at hv ⊢
    obtain ⟨S, hS⟩ : ∃ S, wLay nums texts (wNum err ⟨0, []⟩) = S := ⟨_, rfl⟩
    rw [hS] at hv ⊢
    have HV2 := Lib.hid hv
    clear hv hS
    by_cases hs : S.e = 0
    · have hv := HV2.out
      rw [if_pos hs] at hv ⊢
      have HV3 := Lib.hid hv
      clear hv hs
      go_wp2_with fail
      go_ret2
      exact ⟨by rw [HV3.out]; rfl, below_drewN' HF3.out n4⟩
    · have hv := HV2.out
      rw [if_neg hs] at hv ⊢
      have HV3 := Lib.hid hv
      clear hv hs
      go_wp2_with fail
      go_ret2
      exact ⟨by rw [HV3.out]; rfl, below_drewN' HF3.out n4⟩
end Go.Proofs.YthlpdficpmdebaaGreat.Wire
/- cmd.Asks and its double; what Put hands back is a text and a number. -/
namespace Go.Proofs.YthlpdficpmdebaaGreat.Wire
open Go Go.RowKit Go.Lib
theorem asks_any (kind : Int) (party : ByteArray) (A : Option Addr) (n c : Nat) (A' : Option Addr) (m c' : Nat) (w : World) :
    Calls Tryz.prog 16 #[.agg #[.int .i64 kind, .string party, .slice A n c, .slice A' m c']] w fun en w' => en = .returned (.bool (decide (kind ≥ 30))) ∧ Below w.heap.size w w' := by
  go_enter Tryz.func16, Tryz.ntmps16
  go_wp2_with fail
  refine bodyPost_ret (results_tmp rfl _ _ _) rfl ?_
  exact ⟨rfl, (Below.refl _ w).alloc (Nat.le_refl _) _⟩
theorem asksD_any (kind : Int) (party : ByteArray) (A : Option Addr) (n c : Nat) (A' : Option Addr) (m c' : Nat) (w : World) :
    Calls Tryz.prog 17 #[.agg #[.int .i64 kind, .string party, .slice A n c, .slice A' m c']] w fun en w' => en = .returned (.bool (decide (kind ≥ 30))) ∧ Below w.heap.size w w' := by
  go_enter Tryz.func17, Tryz.ntmps17
  go_wp2_with fail
  refine bodyPost_ret (results_tmp rfl _ _ _) rfl ?_
  exact ⟨rfl, (Below.refl _ w).alloc (Nat.le_refl _) _⟩
theorem cmdV_form (kind : Int) (party : ByteArray) (nums : List Int) (texts : List ByteArray) : ∃ (b : ByteArray) (e : Int), cmdV kind party nums texts = .tuple #[.string b, .int .i64 e] := by
  unfold cmdV longV bytesV
  split
  · exact ⟨_, _, rfl⟩
  · split
    · exact ⟨_, _, rfl⟩
    · exact ⟨_, _, rfl⟩
theorem repV_form (err : Int) (nums : List Int) (texts : List ByteArray) : ∃ (b : ByteArray) (e : Int), repV err nums texts = .tuple #[.string b, .int .i64 e] := by
  unfold repV longV bytesV
  split
  · exact ⟨_, _, rfl⟩
  · split
    · exact ⟨_, _, rfl⟩
    · exact ⟨_, _, rfl⟩
end Go.Proofs.YthlpdficpmdebaaGreat.Wire
