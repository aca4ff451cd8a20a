/- cmd.Put, cmd.PutReply: a command, a reply as bytes. -/
import Derived.Test.YthlpdficpmdebaaGreatJ3
import Derived.Test.YthlpdficpmdebaaGreatJ0
namespace Go.Proofs.YthlpdficpmdebaaGreat.Wire
open Go Go.RowKit Go.Lib
def cmdBox (kind : Int) (party : ByteArray) (A : Option Addr) (n c : Nat) (A' : Option Addr) (m c' : Nat) : Obj := .cells #[.int .i64 kind, .string party, .slice A n c, .slice A' m c'] 25
def repBox (err : Int) (A : Option Addr) (n c : Nat) (A' : Option Addr) (m c' : Nat) : Obj := .cells #[.int .i64 err, .slice A n c, .slice A' m c'] 28
theorem box_at {w w1 : World} {o : Obj} (hb : Below (w.alloc o).heap.size (w.alloc o) w1) : w1.heap[w.heap.size]? = some o :=
  (hb.block w.heap.size (by simp)).trans (heap_alloc_new w o)
theorem box_at' {w w1 : World} {o : Obj} (hb : Below (w.heap.size + 1) (w.alloc o) w1) : w1.heap[w.heap.size]? = some o :=
  (hb.block w.heap.size (by simp)).trans (heap_alloc_new w o)
theorem cmdBox_cells {w1 : World} {b : Nat} {kind : Int} {party : ByteArray} {A : Option Addr} {n c : Nat} {A' : Option Addr} {m c' : Nat} (h : w1.heap[b]? = some (cmdBox kind party A n c A' m c')) :
    w1.cell? ⟨b, 0, none⟩ = some (.int .i64 kind) ∧ w1.cell? ⟨b, 1, none⟩ = some (.string party) ∧ w1.cell? ⟨b, 2, none⟩ = some (.slice A n c) ∧ w1.cell? ⟨b, 3, none⟩ = some (.slice A' m c') := by
  refine ⟨?_, ?_, ?_, ?_⟩ <;> (rw [cell_p h]; rfl)
theorem repBox_cells {w1 : World} {b : Nat} {err : Int} {A : Option Addr} {n c : Nat} {A' : Option Addr} {m c' : Nat} (h : w1.heap[b]? = some (repBox err A n c A' m c')) :
    w1.cell? ⟨b, 0, none⟩ = some (.int .i64 err) ∧ w1.cell? ⟨b, 1, none⟩ = some (.slice A n c) ∧ w1.cell? ⟨b, 2, none⟩ = some (.slice A' m c') := by
  refine ⟨?_, ?_, ?_⟩ <;> (rw [cell_p h]; rfl)
/-- A row of numbers and a row of texts that lie below a block. -/
structure Rows2 (w : World) (B : Nat) (A : Option Addr) (n : Nat) (nums : List Int) (A' : Option Addr) (m : Nat) (texts : List ByteArray) : Prop where
  iat : IntsAt w A nums
  n_ : nums.length = n
  ib : nums ≠ [] → ∀ ad, A = some ad → ad.block < B
  ok : ∀ x ∈ nums, okI x
  tat : TextsAt w A' texts
  m_ : texts.length = m
  tb : texts ≠ [] → ∀ ad, A' = some ad → ad.block < B
  max : ∀ x ∈ texts, x.size ≤ maxLen
theorem Rows2.below {w w1 : World} {B B' : Nat} {A : Option Addr} {n : Nat} {nums : List Int} {A' : Option Addr} {m : Nat} {texts : List ByteArray} (h : Rows2 w B A n nums A' m texts) (hb : Below B w w1) (hB : B ≤ B') : Rows2 w1 B' A n nums A' m texts :=
  ⟨h.iat.below h.ib hb, h.n_, fun e0 ad e => by have := h.ib e0 ad e; omega, h.ok, h.tat.below h.tb hb, h.m_, fun e0 ad e => by have := h.tb e0 ad e; omega, h.max⟩
/-- Put's end. -/
def PutCPost (kind : Int) (party : ByteArray) (nums : List Int) (texts : List ByteArray) (w : World) (en : Ending) (w' : World) : Prop :=
  Below w.heap.size w w' ∧ ((party.size ≤ 1000 ∧ nums.length ≤ 70 ∧ texts.length ≤ 10 ∧ (∀ x ∈ texts, x.size ≤ 1000) ∧ en = .returned (.tuple #[.string ⟨(cmdB kind (bl party) nums (texts.map bl)).toArray⟩, .int .i64 0])) ∨
    (¬ (party.size ≤ 1000 ∧ nums.length ≤ 70 ∧ texts.length ≤ 10 ∧ ∀ x ∈ texts, x.size ≤ 1000) ∧ en = .returned (.tuple #[.string ⟨#[]⟩, .int .i64 2])))
set_option maxRecDepth 20000 in
set_option maxHeartbeats 1000000 in
theorem putC_any (kind : Int) (party : ByteArray) (A : Option Addr) (n c : Nat) (nums : List Int) (A' : Option Addr) (m c' : Nat) (texts : List ByteArray) (w : World) (hk : okI kind) (hp : party.size ≤ maxLen) (h : Rows2 w w.heap.size A n nums A' m texts) :
    Calls Tryz.prog 8 #[.agg #[.int .i64 kind, .string party, .slice A n c, .slice A' m c']] w (PutCPost kind party nums texts w) := by
  have HK := Lib.hid hk
  have HP := Lib.hid hp
  have HR := Lib.hid h
  clear hk hp h
  go_enter Tryz.func8, Tryz.ntmps8
  go_wp2_with fail
  refine (newW_any _).mono ?_
  rintro e w1 ⟨rfl, hW1, hb1⟩
  have hsz0 : (w.alloc (cmdBox kind party A n c A' m c')).heap.size = w.heap.size + 1 := by simp
  have hW1' : Wr (w.heap.size + 1) (w.heap.size + 1) 0 [] w1 := by rw [← hsz0]; exact hW1
  have hb1' : Below (w.heap.size + 1) (w.alloc (cmdBox kind party A n c A' m c')) w1 := by rw [← hsz0]; exact hb1
  have HB1 := Lib.hid hb1'
  have HW1 := Lib.hid hW1'
  have HBS := Lib.hid hW1'.cells.2.2
  obtain ⟨c0, _, _, _⟩ := cmdBox_cells (box_at hb1)
  clear hW1 hW1' hb1 hb1' hsz0
  go_wp2_with fail
  refine (wnums_any (w.heap.size + 1) (w.heap.size + 1) [] _ 1 1 [kind] _ (HW1.out.alloc _) (ints_one w1 kind _) rfl (.inl (Nat.le_refl _)) (by intro x hx; simp at hx; subst hx; exact HK.out) (by simp) (by omega)).mono ?_
  rintro e w2 ⟨⟨u2, rfl⟩, hW2, hb2⟩
  have HB2 := Lib.hid ((HB1.out.alloc HBS.out _).trans hb2)
  have HW2 := Lib.hid hW2
  have HBS2 := Lib.hid hW2.cells.2.2
  obtain ⟨c1, _, _⟩ := (cmdBox_cells (box_at' HB2.out)).2
  clear hW2 hb2 c0
  go_wp2_with fail
  refine (wtexts_any (w.heap.size + 1) (w.heap.size + 1) _ _ 1 1 [party] _ (HW2.out.alloc _) (texts_one w2 party _) rfl (.inl (Nat.le_refl _)) (by intro x hx; simp at hx; subst hx; exact HP.out) (by have := flat_len [kind] (by intro x hx; simp at hx; subst hx; exact HK.out); simp only [List.length_append, List.length_cons, List.length_nil] at this ⊢; omega) (by omega)).mono ?_
  rintro e w3 ⟨⟨u3, rfl⟩, hb3, hh⟩
  have HB3 := Lib.hid ((HB2.out.alloc HBS2.out _).trans hb3)
  obtain ⟨c2, c3⟩ := (cmdBox_cells (box_at' HB3.out)).2.2
  have HR3 := Lib.hid (HR.out.below (((Below.refl w.heap.size w).alloc (Nat.le_refl _) _).trans (HB3.out.mono (Nat.le_succ _))) (Nat.le_succ w.heap.size))
  clear hb3 c1
  have HF : Hid (Below w.heap.size w w3) := Lib.hid (((Below.refl w.heap.size w).alloc (Nat.le_refl _) _).trans (HB3.out.mono (Nat.le_succ _)))
  by_cases hmany : 70 < n ∨ 10 < m
  · clear hh
    go_wp2_with fail
    refine (put_many _ _ _ _ _ _ _ _ _ _ (by omega)).mono ?_
    rintro e w4 ⟨rfl, rfl⟩
    go_wp2_with fail
    go_ret2
    exact ⟨HF.out, .inr ⟨by rintro ⟨_, h1, h2, _⟩; have h3 := HR.out.n_; have h4 := HR.out.m_; omega, rfl⟩⟩
  · have hn70 : n ≤ 70 := by omega
    have hm10 : m ≤ 10 := by omega
    clear hmany
    rcases hh with ⟨hfit, hW3⟩ | ⟨hl, l', hW3⟩
    · obtain ⟨L3, hL3⟩ : ∃ L, [] ++ ([kind].map numB).flatten ++ ([party].map tb).flatten = L := ⟨_, rfl⟩
      rw [hL3] at hW3
      have HL3 := Lib.hid hL3
      have HFIT := Lib.hid (hfit party (by simp))
      have HW3 := Lib.hid hW3
      clear hL3 hfit hW3
      go_wp2_with fail
      refine (put_ok (w.heap.size + 1) _ L3 A n c nums A' m c' texts 70 10 _ HW3.out HR3.out.iat HR3.out.n_ HR3.out.ib HR3.out.ok HR3.out.tat HR3.out.m_ HR3.out.tb HR3.out.max (by omega) (by omega) (by omega) (by omega) (by
        have h1 := flat_len [kind] (by intro x hx; simp at hx; subst hx; exact HK.out)
        have h2 := flat_tlen [party] (by intro x hx; simp at hx; subst hx; exact HFIT.out)
        rw [← HL3.out]
        simp only [List.length_append, List.length_cons, List.length_nil] at h1 h2 ⊢
        omega)).mono ?_
      rintro e w4 ⟨hb4, hh⟩
      have HB4 := Lib.hid (HF.out.trans (hb4.mono (Nat.le_succ _)))
      clear hb4
      rcases hh with ⟨hfit2, rfl⟩ | ⟨hbad, rfl⟩
      · obtain ⟨L4, hL4⟩ : ∃ L, L3 ++ putB nums (texts.map bl) = L := ⟨_, rfl⟩
        rw [hL4]
        have HL4 := Lib.hid hL4
        have HFIT2 := Lib.hid hfit2
        clear hL4 hfit2
        go_wp2_with fail
        go_ret2
        refine ⟨HB4.out, .inl ⟨HFIT.out, by have := HR.out.n_; omega, by have := HR.out.m_; omega, HFIT2.out, ?_⟩⟩
        have hE : cmdB kind (bl party) nums (texts.map bl) = L4 := by
          rw [← HL4.out, ← HL3.out]
          simp only [cmdB, tb, bl, List.map_cons, List.map_nil, List.flatten_cons, List.flatten_nil, List.append_nil, List.nil_append, List.append_assoc]
        rw [hE]
        rfl
      · have HBAD := Lib.hid hbad
        clear hbad
        go_wp2_with fail
        go_ret2
        exact ⟨HB4.out, .inr ⟨by rintro ⟨_, _, _, h⟩; obtain ⟨x, hx, hx2⟩ := HBAD.out; have h3 := h x hx; omega, rfl⟩⟩
    · have HW3 := Lib.hid hW3
      have HLONG := Lib.hid hl
      clear hl hW3
      go_wp2_with fail
      refine (put_bad (w.heap.size + 1) _ 2 (by decide) l' A n c nums A' m c' texts 70 10 _ HW3.out HR3.out.iat HR3.out.n_ HR3.out.ib HR3.out.tat HR3.out.m_ HR3.out.tb (by omega) (by omega) (by omega) (by omega)).mono ?_
      rintro e w4 ⟨rfl, hb4⟩
      have HB4 := Lib.hid (HF.out.trans (hb4.mono (Nat.le_succ _)))
      clear hb4
      go_wp2_with fail
      go_ret2
      exact ⟨HB4.out, .inr ⟨by rintro ⟨h1, _⟩; obtain ⟨x, hx, hx2⟩ := HLONG.out; simp at hx; subst hx; omega, rfl⟩⟩
/-- PutReply's end. -/
def PutRPost (err : Int) (nums : List Int) (texts : List ByteArray) (w : World) (en : Ending) (w' : World) : Prop :=
  Below w.heap.size w w' ∧ ((nums.length ≤ 2000 ∧ texts.length ≤ 100 ∧ (∀ x ∈ texts, x.size ≤ 1000) ∧ en = .returned (.tuple #[.string ⟨(repB err nums (texts.map bl)).toArray⟩, .int .i64 0])) ∨
    (¬ (nums.length ≤ 2000 ∧ texts.length ≤ 100 ∧ ∀ x ∈ texts, x.size ≤ 1000) ∧ en = .returned (.tuple #[.string ⟨#[]⟩, .int .i64 2])))
end Go.Proofs.YthlpdficpmdebaaGreat.Wire
/- Bits that the wire's reader wants. -/
namespace Go.Proofs.YthlpdficpmdebaaGreat.Wire
open Go Go.Lib
theorem wrap_u64' (n : Int) : IntKind.u64.wrap n = n % 18446744073709551616 := by simp [IntKind.wrap, IntKind.bits, IntKind.signed]
theorem wrap_i64' {n : Int} (h : -9223372036854775808 ≤ n ∧ n ≤ 9223372036854775807) : IntKind.i64.wrap n = n := by rw [IntKind.wrap_i64]; omega
theorem pow_le63 {k : Nat} (h : k ≤ 9) : (2 : Nat) ^ (7 * k) ≤ 9223372036854775808 := by
  have : (2 : Nat) ^ (7 * k) ≤ 2 ^ 63 := Nat.pow_le_pow_right (by decide) (by omega)
  exact this
theorem acc_lt {k a c : Nat} (ha : a < 2 ^ (7 * k)) : a + c % 128 * 2 ^ (7 * k) < 2 ^ (7 * (k + 1)) := by
  rw [pow_step]
  have h1 : c % 128 ≤ 127 := by omega
  have h2 := Nat.mul_le_mul_right (2 ^ (7 * k)) h1
  omega
theorem acc_lt64 {k a c : Nat} (hk : k ≤ 9) (ha : a < 2 ^ (7 * k)) (h9 : k = 9 → c ≤ 1) : a + c % 128 * 2 ^ (7 * k) < 18446744073709551616 := by
  by_cases h : k = 9
  · subst h
    have h1 : c % 128 ≤ 1 := by have := h9 rfl; omega
    have h2 := Nat.mul_le_mul_right (2 ^ (7 * 9)) h1
    have h3 : (2 : Nat) ^ (7 * 9) = 9223372036854775808 := by decide
    rw [h3] at ha h2 ⊢
    omega
  · have h1 := acc_lt (c := c) ha
    have h2 := pow_le63 (k := k + 1) (by omega)
    omega
/-- The group that is read goes above the ones that were. -/
theorem acc_or {k a c : Nat} (hk : k ≤ 9) (ha : a < 2 ^ (7 * k)) (hc : c < 256) (h9 : k = 9 → c ≤ 1) :
    bits .or .u64 (a : Int) (IntKind.u64.wrap (IntKind.u64.wrap (bits .and .u8 (c : Int) 127) * 2 ^ (7 * k))) = ((a + c % 128 * 2 ^ (7 * k) : Nat) : Int) := by
  have h1 : bits .and .u8 (c : Int) 127 = ((c % 128 : Nat) : Int) := by rw [u8_and127 _ (by omega) (by omega)]; omega
  have h2 := acc_lt64 hk ha h9
  have h3 : IntKind.u64.wrap ((c % 128 : Nat) : Int) = ((c % 128 : Nat) : Int) := by rw [wrap_u64']; omega
  have hp : ((2 : Int) ^ (7 * k)) = ((2 ^ (7 * k) : Nat) : Int) := by rw [Int.natCast_pow]; rfl
  have h4 : IntKind.u64.wrap (((c % 128 : Nat) : Int) * 2 ^ (7 * k)) = ((c % 128 * 2 ^ (7 * k) : Nat) : Int) := by
    rw [hp, ← Int.natCast_mul, wrap_u64']
    generalize c % 128 * 2 ^ (7 * k) = x at h2
    omega
  rw [h1, h3, h4]
  have hj := bits_join_low .u64 64 (by decide) wraps_u64 (7 * k) (a : Int) ((c % 128 * 2 ^ (7 * k) : Nat) : Int) (by omega) (by rw [hp]; omega) (by omega) (by omega)
    (by rw [hp, ← Int.natCast_emod, Nat.mul_mod_left]; rfl) (by omega)
  rw [hj]
  omega
theorem and128_big {c : Nat} (h : 128 ≤ c) (hc : c < 256) : (bits .and .u8 (c : Int) 128 != 0) = true := by
  rw [and128 c hc]
  have : c / 128 = 1 := by omega
  rw [this]
  rfl
theorem and128_small {c : Nat} (h : c < 128) : (bits .and .u8 (c : Int) 128 != 0) = false := by
  rw [and128 c (by omega)]
  have : c / 128 = 0 := by omega
  rw [this]
  rfl
/-- The zigzag undone. -/
theorem unzz_bits {n : Nat} (h : n < 18446744073709551616) : bits .xor .i64 (((n / 2 : Nat) : Int)) (if n % 2 = 0 then 0 else -1) = unzz n := by
  unfold unzz
  by_cases h2 : n % 2 = 0
  · rw [if_pos h2, if_pos h2]
    show IntKind.i64.wrap ((BitVec.ofInt 64 ((n / 2 : Nat) : Int) ^^^ BitVec.ofInt 64 0).toNat : Int) = _
    have e1 : (BitVec.ofInt 64 (0 : Int)) = 0#64 := by decide
    rw [e1, BitVec.xor_zero, BitVec.ofInt_natCast, BitVec.toNat_ofNat, Nat.mod_eq_of_lt (by omega)]
    exact wrap_i64' (by omega)
  · rw [if_neg h2, if_neg h2]
    have hx := i64_not (n / 2) (by omega)
    show IntKind.i64.wrap ((BitVec.ofInt 64 ((n / 2 : Nat) : Int) ^^^ BitVec.ofInt 64 (-1)).toNat : Int) = _
    rw [BitVec.xor_comm]
    exact hx
theorem unzz_walk {A : Nat} (h : A < 18446744073709551616) : bits .xor .i64 (IntKind.i64.wrap ((A : Int) / 2)) (IntKind.i64.wrap (-IntKind.i64.wrap (bits .and .u64 (A : Int) 1))) = unzz A := by
  rw [← unzz_bits h, u64_and1 _ (by omega) (by omega)]
  have e1 : IntKind.i64.wrap ((A : Int) / 2) = ((A / 2 : Nat) : Int) := by rw [wrap_i64' (by omega)]; omega
  have e2 : IntKind.i64.wrap (-IntKind.i64.wrap ((A : Int) % 2)) = if A % 2 = 0 then 0 else -1 := by
    rw [wrap_i64' (n := (A : Int) % 2) (by omega), wrap_i64' (by omega)]
    split <;> omega
  rw [e1, e2]
theorem drop_cons {b : ByteArray} {i : Nat} (h : i < b.size) : b.data.toList.drop i = b[i] :: b.data.toList.drop (i + 1) := by
  have h2 : i < b.data.toList.length := by rw [Array.length_toList]; exact h
  rw [List.drop_eq_getElem_cons h2]
  rfl
theorem drop_end {b : ByteArray} {i : Nat} (h : i = b.size) : b.data.toList.drop i = [] := by
  apply List.drop_eq_nil_of_le
  rw [Array.length_toList, h]
  exact Nat.le_refl _
theorem rdN_ten (l : List UInt8) (a : Nat) : rdN l 10 a = (0, 0, 4) := by
  cases l <;> simp [rdN]
theorem rdN_nil {k a : Nat} (h : k ≠ 10) : rdN [] k a = (0, 0, 5) := by simp [rdN, h]
theorem rdN_nine {c : UInt8} {t : List UInt8} {a : Nat} (h : 1 < c.toNat) : rdN (c :: t) 9 a = (0, 0, 4) := by
  rw [rdN, if_neg (by decide), if_pos ⟨rfl, h⟩]
theorem rdN_next {c : UInt8} {t : List UInt8} {k a : Nat} (h : k < 9) (hc : 128 ≤ c.toNat) : rdN (c :: t) k a = rdN t (k + 1) (a + c.toNat % 128 * 2 ^ (7 * k)) := by
  rw [rdN, if_neg (by omega), if_neg (by omega), if_pos hc]
theorem rdN_zero {c : UInt8} {t : List UInt8} {k a : Nat} (h : k ≤ 9) (hc : c.toNat = 0) (hk : 0 < k) : rdN (c :: t) k a = (0, 0, 4) := by
  rw [rdN, if_neg (by omega), if_neg (by omega), if_neg (by omega), if_pos ⟨hc, hk⟩]
theorem rdN_done {c : UInt8} {t : List UInt8} {k a : Nat} (h : k ≤ 9) (h9 : k = 9 → c.toNat ≤ 1) (hc : c.toNat < 128) (hz : ¬ (c.toNat = 0 ∧ 0 < k)) : rdN (c :: t) k a = (unzz (a + c.toNat % 128 * 2 ^ (7 * k)), k + 1, 0) := by
  rw [rdN, if_neg (by omega), if_neg (by omega), if_neg (by omega), if_neg hz, Nat.mod_eq_of_lt hc]
end Go.Proofs.YthlpdficpmdebaaGreat.Wire
