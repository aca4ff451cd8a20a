/- Plain mathematics of the wire: numbers in groups of seven bits, texts behind their lengths; what was put is got, and what is got of a beginning is got of all. -/
import Derived.Below
import Derived.Lib.Zigzag
import Derived.Lib.VarintBits
import Derived.Laws.BitsAllLaws
import Derived.KernelRfl
import Derived.Test.YtgmbppfkkiobhaaGreatProg
import Derived.Lib.BufferWrite
import Derived.Lib.AppendStr
import Derived.Lib.Hide
import Derived.Maps.AppendAt
import Derived.Deep.AppendLies
import Derived.Laws.OwnMore
import Derived.Laws.BitsLemmas
import Derived.Laws.IdiomStrings
import Derived.OwnWalk
import Derived.IntWalk
import Derived.WalkKit
import Derived.LoopTactic
import Derived.Handy
import Derived.BigQuiet
namespace Go.Proofs.YtgmbppfkkiobhaaGreat.Wire

def zz (v : Int) : Nat := if 0 ≤ v then (2 * v).toNat else (-2 * v - 1).toNat
def unzz (n : Nat) : Int := if n % 2 = 0 then ((n / 2 : Nat) : Int) else -((n / 2 : Nat) : Int) - 1
theorem unzz_zz (v : Int) : unzz (zz v) = v := by
  unfold zz unzz
  by_cases h : 0 ≤ v
  · rw [if_pos h]; split <;> omega
  · rw [if_neg h]; split <;> omega
theorem zz_lt {v : Int} (h1 : -9223372036854775808 ≤ v) (h2 : v ≤ 9223372036854775807) : zz v < 18446744073709551616 := by
  unfold zz; split <;> omega
theorem unzz_rng {n : Nat} (h : n < 18446744073709551616) : -9223372036854775808 ≤ unzz n ∧ unzz n ≤ 9223372036854775807 := by
  unfold unzz; split <;> omega

/-- A number's bytes. -/
def vb (n : Nat) : List UInt8 := if n < 128 then [UInt8.ofNat n] else UInt8.ofNat (n % 128 + 128) :: vb (n / 128)
termination_by n
decreasing_by omega
theorem vb_small {n : Nat} (h : n < 128) : vb n = [UInt8.ofNat n] := by rw [vb, if_pos h]
theorem vb_big {n : Nat} (h : ¬ n < 128) : vb n = UInt8.ofNat (n % 128 + 128) :: vb (n / 128) := by rw [vb, if_neg h]
theorem vb_len : ∀ (k n : Nat), n < 128 ^ (k + 1) → (vb n).length ≤ k + 1
  | 0, n, h => by rw [vb_small (by simpa using h)]; simp
  | k + 1, n, h => by
    by_cases h1 : n < 128
    · rw [vb_small h1]; simp
    · rw [vb_big h1]
      have := vb_len k (n / 128) (by rw [Nat.pow_succ] at h; exact Nat.div_lt_of_lt_mul (by omega))
      simp only [List.length_cons]
      omega
theorem vb_len10 {n : Nat} (h : n < 18446744073709551616) : (vb n).length ≤ 10 := vb_len 9 n (by omega)
theorem vb_pos (n : Nat) : 0 < (vb n).length := by
  rw [vb]; split <;> simp

/-- A number read: its value, how many groups, the error. -/
def rdN : List UInt8 → Nat → Nat → Int × Nat × Int
  | [], i, _ => if i = 10 then (0, 0, 4) else (0, 0, 5)
  | c :: t, i, acc =>
    if i = 10 then (0, 0, 4)
    else if i = 9 ∧ 1 < c.toNat then (0, 0, 4)
    else if 128 ≤ c.toNat then rdN t (i + 1) (acc + c.toNat % 128 * 2 ^ (7 * i))
    else if c.toNat = 0 ∧ 0 < i then (0, 0, 4)
    else (unzz (acc + c.toNat * 2 ^ (7 * i)), i + 1, 0)
theorem pow_step (i : Nat) : 2 ^ (7 * (i + 1)) = 128 * 2 ^ (7 * i) := by
  rw [show 7 * (i + 1) = 7 * i + 7 from rfl, Nat.pow_add, Nat.mul_comm]
theorem byte_of {n : Nat} (h : n < 256) : (UInt8.ofNat n).toNat = n := by
  simp only [UInt8.toNat_ofNat']; omega
theorem rdN_vb (n : Nat) : ∀ (i acc : Nat) (t : List UInt8), n * 2 ^ (7 * i) < 18446744073709551616 → i ≤ 9 → (n = 0 → i = 0) →
    rdN (vb n ++ t) i acc = (unzz (acc + n * 2 ^ (7 * i)), i + (vb n).length, 0) := by
  induction n using Nat.strongRecOn with
  | ind n ih =>
    intro i acc t hn hi h0
    by_cases h1 : n < 128
    · rw [vb_small h1]
      simp only [List.singleton_append, rdN, byte_of (n := n) (by omega), List.length_singleton]
      rw [if_neg (by omega), if_neg, if_neg (by omega), if_neg (by omega)]
      rintro ⟨rfl, h2⟩
      have h3 : (2 : Nat) ^ (7 * 9) = 9223372036854775808 := by decide
      rw [h3] at hn
      omega
    · rw [vb_big h1]
      have hb : (UInt8.ofNat (n % 128 + 128)).toNat = n % 128 + 128 := byte_of (by omega)
      have hi9 : i ≠ 9 := by
        rintro rfl
        have h3 : (2 : Nat) ^ (7 * 9) = 9223372036854775808 := by decide
        rw [h3] at hn
        omega
      simp only [List.cons_append, rdN, hb, List.length_cons]
      rw [if_neg (by omega), if_neg (by omega), if_pos (by omega)]
      have hm : (n % 128 + 128) % 128 = n % 128 := by omega
      have hs := pow_step i
      have hle : n / 128 * 2 ^ (7 * (i + 1)) ≤ n * 2 ^ (7 * i) := by
        rw [hs, ← Nat.mul_assoc]
        exact Nat.mul_le_mul_right _ (by omega)
      rw [hm, ih (n / 128) (by omega) (i + 1) _ t (by omega) (by omega) (by omega)]
      have he : acc + n % 128 * 2 ^ (7 * i) + n / 128 * 2 ^ (7 * (i + 1)) = acc + n * 2 ^ (7 * i) := by
        rw [hs, ← Nat.mul_assoc, Nat.add_assoc, ← Nat.add_mul]
        congr 2
        omega
      rw [he]
      simp only [Prod.mk.injEq, true_and, and_true]
      omega
theorem rdN_more (m : List UInt8) : ∀ (l : List UInt8) (i acc : Nat) (v : Int) (k : Nat), rdN l i acc = (v, k, 0) → rdN (l ++ m) i acc = (v, k, 0) ∧ k ≤ i + l.length ∧ i < k
  | [], i, acc, v, k, h => by
    simp only [rdN] at h
    split at h <;> simp at h
  | c :: t, i, acc, v, k, h => by
    simp only [rdN, List.cons_append] at h ⊢
    by_cases h1 : i = 10
    · rw [if_pos h1] at h; simp at h
    by_cases h2 : i = 9 ∧ 1 < c.toNat
    · rw [if_neg h1, if_pos h2] at h; simp at h
    by_cases h3 : 128 ≤ c.toNat
    · rw [if_neg h1, if_neg h2, if_pos h3] at h
      rw [if_neg h1, if_neg h2, if_pos h3]
      obtain ⟨a, b, d⟩ := rdN_more m t (i + 1) _ v k h
      refine ⟨a, ?_, by omega⟩
      simp only [List.length_cons]
      omega
    by_cases h4 : c.toNat = 0 ∧ 0 < i
    · rw [if_neg h1, if_neg h2, if_neg h3, if_pos h4] at h; simp at h
    rw [if_neg h1, if_neg h2, if_neg h3, if_neg h4] at h
    rw [if_neg h1, if_neg h2, if_neg h3, if_neg h4]
    refine ⟨h, ?_⟩
    simp only [Prod.mk.injEq] at h
    simp only [List.length_cons]
    omega

/-- What a reader knows: its error, what is left. -/
structure RS where
  e : Int
  l : List UInt8
def rNum (s : RS) : Int × RS :=
  if s.e ≠ 0 then (0, s)
  else if (rdN s.l 0 0).2.2 ≠ 0 then (0, ⟨(rdN s.l 0 0).2.2, s.l⟩)
  else ((rdN s.l 0 0).1, ⟨0, s.l.drop (rdN s.l 0 0).2.1⟩)
def cErr (most : Int) (r : Int × Nat × Int) : Int := if r.2.2 ≠ 0 then r.2.2 else if r.1 > most then 2 else if r.1 < 0 then 4 else 0
def rCount (most : Int) (s : RS) : Int × RS :=
  if s.e ≠ 0 then (0, s)
  else if cErr most (rdN s.l 0 0) ≠ 0 then (0, ⟨cErr most (rdN s.l 0 0), s.l⟩)
  else ((rdN s.l 0 0).1, ⟨0, s.l.drop (rdN s.l 0 0).2.1⟩)
def tErr (n : Nat) (r : Int × Nat × Int) : Int := if r.2.2 ≠ 0 then r.2.2 else if r.1 > 1000 then 2 else if r.1 < 0 then 4 else if r.1 > (n : Int) - r.2.1 then 5 else 0
def rText (s : RS) : List UInt8 × RS :=
  if s.e ≠ 0 then ([], s)
  else if tErr s.l.length (rdN s.l 0 0) ≠ 0 then ([], ⟨tErr s.l.length (rdN s.l 0 0), s.l⟩)
  else ((s.l.drop (rdN s.l 0 0).2.1).take (rdN s.l 0 0).1.toNat, ⟨0, (s.l.drop (rdN s.l 0 0).2.1).drop (rdN s.l 0 0).1.toNat⟩)
def rMany {α : Type} (f : RS → α × RS) : Nat → RS → List α × RS
  | 0, s => ([], s)
  | n + 1, s => ((f s).1 :: (rMany f n (f s).2).1, (rMany f n (f s).2).2)
def rGet (mostN mostT : Int) (s : RS) : (List Int × List (List UInt8)) × RS :=
  let c := rCount mostN s
  let a := rMany rNum c.1.toNat c.2
  let d := rCount mostT a.2
  let b := rMany rText d.1.toNat d.2
  ((a.1, b.1), b.2)
def rEnd (s : RS) : Int := if s.e ≠ 0 then s.e else if s.l ≠ [] then 4 else 0

/-- Reading of a beginning that went well goes alike where more stands behind. -/
def Ext {α : Type} (f : RS → α × RS) : Prop := ∀ (s : RS) (m : List UInt8), (f s).2.e = 0 → s.e = 0 ∧ f ⟨0, s.l ++ m⟩ = ((f s).1, ⟨0, (f s).2.l ++ m⟩)
theorem rdN_eta {l : List UInt8} (h : (rdN l 0 0).2.2 = 0) : rdN l 0 0 = ((rdN l 0 0).1, (rdN l 0 0).2.1, 0) := by rw [← h]
theorem rdN_app {l : List UInt8} (m : List UInt8) (h : (rdN l 0 0).2.2 = 0) : rdN (l ++ m) 0 0 = rdN l 0 0 ∧ (rdN l 0 0).2.1 ≤ l.length := by
  obtain ⟨a, b, _⟩ := rdN_more m l 0 0 _ _ (rdN_eta h)
  exact ⟨by rw [a, ← rdN_eta h], by omega⟩
theorem ext_num : Ext rNum := by
  intro s m h
  unfold rNum at h ⊢
  by_cases h1 : s.e ≠ 0
  · rw [if_pos h1] at h; exact absurd h h1
  rw [if_neg h1] at h ⊢
  by_cases h2 : (rdN s.l 0 0).2.2 ≠ 0
  · rw [if_pos h2] at h; exact absurd h h2
  have h3 : (rdN s.l 0 0).2.2 = 0 := by omega
  obtain ⟨a, b⟩ := rdN_app m h3
  refine ⟨by omega, ?_⟩
  simp only [a]
  rw [if_neg (by simp), if_neg h2, List.drop_append_of_le_length b, if_neg h2]
theorem ext_count (most : Int) : Ext (rCount most) := by
  intro s m h
  unfold rCount at h ⊢
  by_cases h1 : s.e ≠ 0
  · rw [if_pos h1] at h; exact absurd h h1
  rw [if_neg h1] at h ⊢
  by_cases h2 : cErr most (rdN s.l 0 0) ≠ 0
  · rw [if_pos h2] at h; exact absurd h h2
  have h3 : (rdN s.l 0 0).2.2 = 0 := by
    unfold cErr at h2
    by_cases h4 : (rdN s.l 0 0).2.2 ≠ 0
    · rw [if_pos h4] at h2; exact absurd h4 h2
    · omega
  obtain ⟨a, b⟩ := rdN_app m h3
  refine ⟨by omega, ?_⟩
  simp only [a]
  rw [if_neg (by simp), if_neg h2, List.drop_append_of_le_length b, if_neg h2]
theorem ext_text : Ext rText := by
  intro s m h
  unfold rText at h ⊢
  by_cases h1 : s.e ≠ 0
  · rw [if_pos h1] at h; exact absurd h h1
  rw [if_neg h1] at h ⊢
  by_cases h2 : tErr s.l.length (rdN s.l 0 0) ≠ 0
  · rw [if_pos h2] at h; exact absurd h h2
  have hh := h2
  unfold tErr at hh
  by_cases h4 : (rdN s.l 0 0).2.2 ≠ 0
  · rw [if_pos h4] at hh; exact absurd h4 hh
  rw [if_neg h4] at hh
  by_cases h5 : (rdN s.l 0 0).1 > 1000
  · rw [if_pos h5] at hh; exact absurd (by decide) hh
  rw [if_neg h5] at hh
  by_cases h6 : (rdN s.l 0 0).1 < 0
  · rw [if_pos h6] at hh; exact absurd (by decide) hh
  rw [if_neg h6] at hh
  by_cases h7 : (rdN s.l 0 0).1 > (s.l.length : Int) - (rdN s.l 0 0).2.1
  · rw [if_pos h7] at hh; exact absurd (by decide) hh
  obtain ⟨a, b⟩ := rdN_app m (by omega : (rdN s.l 0 0).2.2 = 0)
  refine ⟨by omega, ?_⟩
  have hz : tErr (s.l ++ m).length (rdN s.l 0 0) = 0 := by
    unfold tErr
    rw [if_neg h4, if_neg h5, if_neg h6, if_neg (by simp only [List.length_append]; omega)]
  have hlen : (rdN s.l 0 0).1.toNat ≤ (s.l.drop (rdN s.l 0 0).2.1).length := by simp only [List.length_drop]; omega
  simp only [a]
  rw [if_neg (by simp), if_neg (by rw [hz]; simp), if_neg h2, List.drop_append_of_le_length b, List.take_append_of_le_length hlen, List.drop_append_of_le_length hlen]
theorem ext_many {α : Type} {f : RS → α × RS} (hf : Ext f) : ∀ n, Ext (rMany f n)
  | 0 => fun s m h => ⟨h, rfl⟩
  | n + 1 => fun s m h => by
    obtain ⟨a, b⟩ := ext_many hf n (f s).2 m h
    obtain ⟨c, d⟩ := hf s m a
    refine ⟨c, ?_⟩
    simp only [rMany, d]
    rw [b]
theorem ext_get (mostN mostT : Int) : Ext (rGet mostN mostT) := by
  intro s m h
  obtain ⟨a4, b4⟩ := ext_many ext_text _ _ m h
  obtain ⟨a3, b3⟩ := ext_count mostT _ m a4
  obtain ⟨a2, b2⟩ := ext_many ext_num _ _ m a3
  obtain ⟨a1, b1⟩ := ext_count mostN _ m a2
  refine ⟨a1, ?_⟩
  simp only [rGet, b1, b2, b3, b4]

/-! What was put is got. -/
def numB (v : Int) : List UInt8 := vb (zz v)
def textB (t : List UInt8) : List UInt8 := numB t.length ++ t
def okI (v : Int) : Prop := -9223372036854775808 ≤ v ∧ v ≤ 9223372036854775807
theorem rdN_num {v : Int} (h : okI v) (t : List UInt8) : rdN (numB v ++ t) 0 0 = (v, (numB v).length, 0) := by
  have := rdN_vb (zz v) 0 0 t (by simpa using zz_lt h.1 h.2) (by omega) (fun _ => rfl)
  simpa [numB, unzz_zz] using this
theorem rNum_put {v : Int} (h : okI v) (t : List UInt8) : rNum ⟨0, numB v ++ t⟩ = (v, ⟨0, t⟩) := by
  simp [rNum, rdN_num h]
theorem rCount_put {most : Int} {n : Nat} (h : (n : Int) ≤ most) (h2 : (n : Int) ≤ 9223372036854775807) (t : List UInt8) : rCount most ⟨0, numB n ++ t⟩ = ((n : Int), ⟨0, t⟩) := by
  have e : cErr most ((n : Int), (numB n).length, 0) = 0 := by
    unfold cErr
    rw [if_neg (by simp), if_neg (by show ¬ (n : Int) > most; omega), if_neg (by show ¬ (n : Int) < 0; omega)]
  simp [rCount, rdN_num (v := n) ⟨by omega, h2⟩, e]
theorem rText_put {x : List UInt8} (h : x.length ≤ 1000) (t : List UInt8) : rText ⟨0, textB x ++ t⟩ = (x, ⟨0, t⟩) := by
  have e : tErr (textB x ++ t).length ((x.length : Int), (numB x.length).length, 0) = 0 := by
    unfold tErr
    rw [if_neg (by simp), if_neg (by show ¬ (x.length : Int) > 1000; omega), if_neg (by show ¬ (x.length : Int) < 0; omega), if_neg]
    simp only [textB, List.length_append]
    omega
  have hr : rdN (textB x ++ t) 0 0 = ((x.length : Int), (numB x.length).length, 0) := by
    rw [textB, List.append_assoc]
    exact rdN_num ⟨by omega, by omega⟩ _
  unfold rText
  rw [if_neg (by simp)]
  simp only [hr, e]
  simp [textB]
theorem rNums_put : ∀ (l : List Int), (∀ v ∈ l, okI v) → ∀ t, rMany rNum l.length ⟨0, (l.map numB).flatten ++ t⟩ = (l, ⟨0, t⟩)
  | [], _, t => rfl
  | v :: l, h, t => by
    have h1 := rNum_put (h v (by simp)) ((l.map numB).flatten ++ t)
    have h2 := rNums_put l (fun u hu => h u (by simp [hu])) t
    simp only [List.length_cons, List.map_cons, List.flatten_cons, List.append_assoc, rMany, h1, h2]
theorem rTexts_put : ∀ (l : List (List UInt8)), (∀ v ∈ l, v.length ≤ 1000) → ∀ t, rMany rText l.length ⟨0, (l.map textB).flatten ++ t⟩ = (l, ⟨0, t⟩)
  | [], _, t => rfl
  | v :: l, h, t => by
    have h1 := rText_put (h v (by simp)) ((l.map textB).flatten ++ t)
    have h2 := rTexts_put l (fun u hu => h u (by simp [hu])) t
    simp only [List.length_cons, List.map_cons, List.flatten_cons, List.append_assoc, rMany, h1, h2]
/-- Numbers and texts, each behind how many there are. -/
def putB (nums : List Int) (texts : List (List UInt8)) : List UInt8 := numB nums.length ++ ((nums.map numB).flatten ++ (numB texts.length ++ (texts.map textB).flatten))
theorem rGet_put {nums : List Int} {texts : List (List UInt8)} {a b : Int} (ha : (nums.length : Int) ≤ a) (hb : (texts.length : Int) ≤ b) (hn : ∀ v ∈ nums, okI v) (ht : ∀ t ∈ texts, t.length ≤ 1000)
    (h1 : nums.length ≤ 9223372036854775807) (h2 : texts.length ≤ 9223372036854775807) (t : List UInt8) : rGet a b ⟨0, putB nums texts ++ t⟩ = ((nums, texts), ⟨0, t⟩) := by
  have e1 := rCount_put ha (by omega) ((nums.map numB).flatten ++ (numB texts.length ++ ((texts.map textB).flatten ++ t)))
  have e2 := rNums_put nums hn (numB texts.length ++ ((texts.map textB).flatten ++ t))
  have e3 := rCount_put hb (by omega) ((texts.map textB).flatten ++ t)
  have e4 := rTexts_put texts ht t
  simp only [rGet, putB, List.append_assoc, e1, e2, e3, e4, Int.toNat_natCast]

/-- A command's bytes; a command read. -/
def cmdB (kind : Int) (party : List UInt8) (nums : List Int) (texts : List (List UInt8)) : List UInt8 := numB kind ++ (textB party ++ putB nums texts)
def cmdR (l : List UInt8) : ((Int × List UInt8) × (List Int × List (List UInt8))) × RS :=
  let k := rNum ⟨0, l⟩
  let p := rText k.2
  let g := rGet 70 10 p.2
  (((k.1, p.1), g.1), g.2)
theorem cmdR_put {kind : Int} {party : List UInt8} {nums : List Int} {texts : List (List UInt8)} (hk : okI kind) (hp : party.length ≤ 1000) (ha : nums.length ≤ 70) (hb : texts.length ≤ 10)
    (hn : ∀ v ∈ nums, okI v) (ht : ∀ t ∈ texts, t.length ≤ 1000) (t : List UInt8) : cmdR (cmdB kind party nums texts ++ t) = (((kind, party), (nums, texts)), ⟨0, t⟩) := by
  have e1 := rNum_put hk (textB party ++ (putB nums texts ++ t))
  have e2 := rText_put hp (putB nums texts ++ t)
  have e3 := rGet_put (a := 70) (b := 10) (nums := nums) (texts := texts) (by omega) (by omega) hn ht (by omega) (by omega) t
  simp only [cmdR, cmdB, List.append_assoc, e1, e2, e3]
theorem cmdR_ext {l : List UInt8} (m : List UInt8) (h : (cmdR l).2.e = 0) : cmdR (l ++ m) = ((cmdR l).1, ⟨0, (cmdR l).2.l ++ m⟩) := by
  obtain ⟨a3, b3⟩ := ext_get 70 10 _ m h
  obtain ⟨a2, b2⟩ := ext_text _ m a3
  obtain ⟨_, b1⟩ := ext_num ⟨0, l⟩ m a2
  simp only [cmdR, b1, b2, b3]
/-- With bytes more it is none. -/
theorem cmdR_more {kind : Int} {party : List UInt8} {nums : List Int} {texts : List (List UInt8)} (hk : okI kind) (hp : party.length ≤ 1000) (ha : nums.length ≤ 70) (hb : texts.length ≤ 10)
    (hn : ∀ v ∈ nums, okI v) (ht : ∀ t ∈ texts, t.length ≤ 1000) {t : List UInt8} (h : t ≠ []) : rEnd (cmdR (cmdB kind party nums texts ++ t)).2 = 4 := by
  rw [cmdR_put hk hp ha hb hn ht]
  simp [rEnd, h]
/-- With bytes fewer it is none. -/
theorem cmdR_less {kind : Int} {party : List UInt8} {nums : List Int} {texts : List (List UInt8)} (hk : okI kind) (hp : party.length ≤ 1000) (ha : nums.length ≤ 70) (hb : texts.length ≤ 10)
    (hn : ∀ v ∈ nums, okI v) (ht : ∀ t ∈ texts, t.length ≤ 1000) {l t : List UInt8} (hl : cmdB kind party nums texts = l ++ t) (h : t ≠ []) : rEnd (cmdR l).2 ≠ 0 := by
  intro h0
  unfold rEnd at h0
  by_cases h1 : (cmdR l).2.e ≠ 0
  · rw [if_pos h1] at h0; exact h1 h0
  have h1' : (cmdR l).2.e = 0 := by omega
  rw [if_neg h1] at h0
  have h3 := cmdR_ext t h1'
  have h4 := cmdR_put hk hp ha hb hn ht []
  rw [List.append_nil, hl, h3] at h4
  simp only [Prod.mk.injEq, RS.mk.injEq, true_and, List.append_eq_nil_iff] at h4
  exact h h4.2.2
/-- A reply's bytes; a reply read. -/
def repB (err : Int) (nums : List Int) (texts : List (List UInt8)) : List UInt8 := numB err ++ putB nums texts
def repR (l : List UInt8) : (Int × (List Int × List (List UInt8))) × RS :=
  let k := rNum ⟨0, l⟩
  let g := rGet 2000 100 k.2
  ((k.1, g.1), g.2)
theorem repR_put {err : Int} {nums : List Int} {texts : List (List UInt8)} (hk : okI err) (ha : nums.length ≤ 2000) (hb : texts.length ≤ 100)
    (hn : ∀ v ∈ nums, okI v) (ht : ∀ t ∈ texts, t.length ≤ 1000) : repR (repB err nums texts) = ((err, (nums, texts)), ⟨0, []⟩) := by
  have e1 := rNum_put hk (putB nums texts)
  have e3 := rGet_put (a := 2000) (b := 100) (nums := nums) (texts := texts) (by omega) (by omega) hn ht (by omega) (by omega) []
  rw [List.append_nil] at e3
  simp only [repR, repB, e1, e3]
end Go.Proofs.YtgmbppfkkiobhaaGreat.Wire
/- Bits that the wire's numbers want. -/
namespace Go.Proofs.YtgmbppfkkiobhaaGreat.Wire
open Go Go.Lib
theorem or128_all : (List.range 256).all (fun n => decide (bits .or .u8 ((n : Nat) : Int) 128 = ((n % 128 + 128 : Nat) : Int))) = true := by kernel_rfl
theorem and128_all : (List.range 256).all (fun n => decide (bits .and .u8 ((n : Nat) : Int) 128 = ((n / 128 * 128 : Nat) : Int))) = true := by kernel_rfl
theorem or128 (n : Nat) (h : n < 256) : bits .or .u8 (n : Int) 128 = ((n % 128 + 128 : Nat) : Int) := by
  have := List.all_eq_true.1 or128_all n (List.mem_range.2 h)
  exact of_decide_eq_true this
theorem and128 (n : Nat) (h : n < 256) : bits .and .u8 (n : Int) 128 = ((n / 128 * 128 : Nat) : Int) := by
  have := List.all_eq_true.1 and128_all n (List.mem_range.2 h)
  exact of_decide_eq_true this
theorem wrap_u8 (n : Int) : IntKind.u8.wrap n = n % 256 := by simp [IntKind.wrap, IntKind.bits, IntKind.signed]
/-- The byte that goes ahead of others. -/
theorem byte_more (k : Nat) : bits .or .u8 (IntKind.u8.wrap (k : Int)) 128 = ((UInt8.ofNat (k % 128 + 128)).toNat : Int) := by
  have e : IntKind.u8.wrap (k : Int) = ((k % 256 : Nat) : Int) := by rw [wrap_u8]; omega
  rw [e, or128 _ (Nat.mod_lt _ (by decide)), byte_of (by omega)]
  omega
theorem byte_last (k : Nat) (h : k < 128) : IntKind.u8.wrap (k : Int) = ((UInt8.ofNat k).toNat : Int) := by
  rw [wrap_u8, byte_of (by omega)]
  omega
/-- The zigzag as the writer reckons it. -/
theorem xor_zz {v : Int} (h : okI v) : bits .xor .u64 (IntKind.u64.wrap (IntKind.u64.wrap v * 2)) (IntKind.u64.wrap (v / 9223372036854775808)) = ((zz v : Nat) : Int) := by
  obtain ⟨h1, h2⟩ := h
  by_cases hv : 0 ≤ v
  · have e1 : IntKind.u64.wrap (IntKind.u64.wrap v * 2) = (((2 * v).toNat : Nat) : Int) := by
      rw [IntKind.wrap_u64, IntKind.wrap_u64]; omega
    have e2 : IntKind.u64.wrap (v / 9223372036854775808) = ((0 : Nat) : Int) := by
      rw [IntKind.wrap_u64, show v / 9223372036854775808 = 0 by omega]; rfl
    rw [e1, e2, bits_xor_u64_nat _ _ (by omega) (by decide), Nat.xor_zero]
    unfold zz
    rw [if_pos hv]
  · have e1 : IntKind.u64.wrap (IntKind.u64.wrap v * 2) = (((2 * v + 18446744073709551616).toNat : Nat) : Int) := by
      rw [IntKind.wrap_u64, IntKind.wrap_u64]; omega
    have e2 : IntKind.u64.wrap (v / 9223372036854775808) = ((2 ^ 64 - 1 : Nat) : Int) := by
      rw [IntKind.wrap_u64, show v / 9223372036854775808 = -1 by omega]; decide
    rw [e1, e2, bits_xor_u64_nat _ _ (by omega) (by decide), Nat.xor_comm, xor_ones64 _ (by omega)]
    unfold zz
    rw [if_neg hv]
    omega
end Go.Proofs.YtgmbppfkkiobhaaGreat.Wire
/- The wire's writer and reader in memory: what a writer has put, what a reader has read. -/
namespace Go.Proofs.YtgmbppfkkiobhaaGreat.Wire
open Go Go.RowKit Go.Lib

/-- A writer at block p: its error, its bytes, which lie in a row of its own. -/
def Wr (B p : Nat) (e : Int) (l : List UInt8) (w : World) : Prop :=
  B ≤ p ∧ ∃ v, w.heap[p]? = some (.cells #[.int .i64 e, v] 108 (0, 0)) ∧ w.ownsRow B 5 1 v l.length (byteCells l) ∧ v.ownBlock ≠ some p
theorem u8_info : (Tryz.prog.info? 5).map (fun i => (i.zero, i.size, i.bytes)) = some (some (.int .u8 0), 1, 1) := by kernel_rfl
theorem cell_p {w : World} {p i : Nat} {cs : Array Value} {t : TypeId} (h : w.heap[p]? = some (.cells cs t (0, 0))) : w.cell? ⟨p, i, none⟩ = cs[i]? := by
  simp [World.cell?, h]
theorem frozen_p {w : World} {p i : Nat} {cs : Array Value} {t : TypeId} (h : w.heap[p]? = some (.cells cs t (0, 0))) : w.frozen? ⟨p, i, none⟩ = false := by
  simp [World.frozen?, h]
theorem blk_lt {w : World} {p : Nat} {o : Obj} (h : w.heap[p]? = some o) : p < w.heap.size := by
  rcases Nat.lt_or_ge p w.heap.size with h1 | h1
  · exact h1
  · rw [Array.getElem?_eq_none h1] at h; cases h
/-- Rows and blocks of different types are apart. -/
theorem own_ne {w : World} {base : Nat} {e : TypeId} {size n : Nat} {v : Value} {xs : List Value} {p : Nat} {cs : Array Value} {t : TypeId} (h : w.ownsRow base e size v n xs) (hp : w.heap[p]? = some (.cells cs t (0, 0))) (hne : e ≠ t) : v.ownBlock ≠ some p := by
  rcases h.2 with ⟨rfl, _⟩ | ⟨g, cap, cur, rfl, _, hh, _⟩
  · simp [Value.ownBlock]
  · intro he
    have : g = p := by simpa [Value.ownBlock] using he
    subst this
    rw [hp] at hh
    injection hh with hh
    injection hh with _ h2
    exact hne h2.symm
theorem grown_size {w w' : World} {r : Option Nat} (h : w.grownBy w' r) : w.heap.size ≤ w'.heap.size := h.size
theorem below_grown {B : Nat} {a b c : World} {r : Option Nat} (h : Below B a b) (k : b.grownBy c r) (hB : B ≤ b.heap.size) (hr : ∀ g, r = some g → B ≤ g) : Below B a c :=
  ⟨k.os.trans h.os, k.tape.trans h.tape, k.output.trans h.output, Nat.le_trans h.size k.size, fun i hi => (k.block i (by omega) (fun e => by have := hr i e.symm; omega)).trans (h.block i hi)⟩
theorem own_ge {w : World} {base : Nat} {e : TypeId} {size n : Nat} {v : Value} {xs : List Value} (h : w.ownsRow base e size v n xs) : ∀ g, v.ownBlock = some g → base ≤ g := fun g hg => (h.lt g hg).1
/-- The bytes grow: what append leaves, stored. -/
theorem Wr.step {B p : Nat} {e : Int} {l : List UInt8} {n : Nat} {xs : List Value} (m : List UInt8) {w w1 : World} {v v' : Value} (hB : B ≤ p) (hp : w.heap[p]? = some (.cells #[.int .i64 e, v] 108 (0, 0))) (h0 : w.ownsRow B 5 1 v l.length (byteCells l))
    (hown : w1.ownsRow B 5 1 v' n xs) (hn : n = l.length + m.length) (hxs : xs = byteCells l ++ byteCells m) (hg : w.grownBy w1 v.ownBlock) :
    Wr B p e (l ++ m) (w1.setCell ⟨p, 1, none⟩ v') := by
  subst hn
  subst hxs
  have hp1 : w1.heap[p]? = some (.cells #[.int .i64 e, v] 108 (0, 0)) := (hg.block p (blk_lt hp) (fun h => own_ne h0 hp (by decide) h.symm)).trans hp
  have hne1 := own_ne hown hp1 (by decide)
  refine ⟨hB, v', ?_, ?_, hne1⟩
  · exact Go.Lib.heap_setCell_same (i := 1) hp1 v'
  · have := hown.kept (grownBy_setCell w1 p 1 v') (Or.inr hne1)
    simpa [byteCells, List.length_append] using this
end Go.Proofs.YtgmbppfkkiobhaaGreat.Wire
/- (*wire.Writer).num puts a number's bytes. -/
namespace Go.Proofs.YtgmbppfkkiobhaaGreat.Wire
open Go Go.RowKit Go.Lib
set_option maxRecDepth 20000 in
theorem wnum_any (B p : Nat) (e v : Int) (l : List UInt8) (w : World) (h : Wr B p e l w) (hv : okI v) (hl : l.length ≤ 10000000) :
    Calls Tryz.prog 121 #[.pointer (some ⟨p, 0, none⟩), .int .i64 v] w fun en w' => (∃ u, en = .returned u) ∧ Wr B p e (l ++ numB v) w' ∧ Below B w w' := by
  obtain ⟨i0, hi0, hz0, hz1, hz2⟩ := info_parts u8_info
  obtain ⟨hB, vv, hp, hown, hne⟩ := h
  have c0 : w.cell? ⟨p, 0, none⟩ = some (.int .i64 e) := by rw [cell_p hp]; rfl
  have c1 : w.cell? ⟨p, 1, none⟩ = some vv := by rw [cell_p hp]; rfl
  have f1 : w.frozen? ⟨p, 1, none⟩ = false := frozen_p hp
  have HP := Lib.hid hp
  have HV := Lib.hid hv
  have HLL := Lib.hid hl
  clear hp hv hl
  go_enter Tryz.func121, Tryz.ntmps121
  go_wp2_with fail
  rw [xor_zz HV.out]
  have HZ := Lib.hid (zz_lt HV.out.1 HV.out.2)
  go_loopw [4] (fun n wr => ∃ (k : Nat) (l' : List UInt8), n = .int .u64 k ∧ k < 18446744073709551616 ∧ l' ++ vb k = l ++ numB v ∧ l'.length + (vb k).length ≤ 10000010 ∧ Wr B p e l' wr ∧ Below B w wr) (fun n _ => (intOf n).toNat)
  case atStart => exact ⟨zz v, l, rfl, HZ.out, rfl, by have := vb_len10 HZ.out; have := HLL.out; omega, ⟨hB, vv, HP.out, hown, hne⟩, Below.refl _ _⟩
  case round =>
    obtain ⟨k, l', rfl, hk, hl', hlen, ⟨_, v1, hp1, hown1, hne1⟩, hb⟩ := hrel
    have d0 : wr.cell? ⟨p, 0, none⟩ = some (.int .i64 e) := by rw [cell_p hp1]; rfl
    have d1 : wr.cell? ⟨p, 1, none⟩ = some v1 := by rw [cell_p hp1]; rfl
    have g1 : wr.frozen? ⟨p, 1, none⟩ = false := frozen_p hp1
    have HP1 := Lib.hid hp1
    have HL := Lib.hid hl'
    have HK := Lib.hid hk
    have HN := Lib.hid hlen
    clear hp1 hl' hk hlen
    have hbs : B ≤ wr.heap.size := by have := blk_lt HP1.out; omega
    by_cases h7 : k < 128
    · go_wp2_with ((at_builtin
                    refine wpList_append_own_at _ rfl (.tmp 32) (.tmp 35) _ rfl B 5 i0 _ 1 1 Tryz.underlying28 hi0 hz0 hz1 hz2 rfl (by omega) v1 l'.length (byteCells l') rfl (hown1.alloc _) ⟨wr.heap.size, 0, none⟩ 1 1 [.int .u8 k] rfl rfl (cell_one_new _ _ _) (by simp [Value.oneCell']) (by have := HN.out; unfold maxLen; omega) (by have := HN.out; omega) (by simp; omega) ?_
                    intro v2 w2 hown2 hg2 _ hat2
                    obtain ⟨g2, cap2, rfl, hf2, hf3⟩ := hown2.form (by omega)
                    clear hat2
                    have hpa := (Below.heap_alloc wr (.cells #[.int .u8 (k : Int)] 5) p (blk_lt HP1.out)).trans HP1.out
                    have hp2 := (hg2.block p (blk_lt hpa) (fun hh => own_ne (hown1.alloc _) hpa (by decide) hh.symm)).trans hpa
                    have e1 : w2.cell? ⟨p, 1, none⟩ = some v1 := by rw [cell_p hp2]; rfl
                    have e2 : w2.frozen? ⟨p, 1, none⟩ = false := frozen_p hp2
                    have HP2 := Lib.hid hpa
                    clear hpa hp2))
      go_end0
      have hl2 : l' ++ [UInt8.ofNat k] = l ++ numB v := by rw [← HL.out, vb_small h7]
      refine ⟨⟨_, rfl⟩, ?_, (below_grown (hb.alloc hbs _) hg2 (by simp; omega) (own_ge hown1)).setCell (p := ⟨p, 1, none⟩) hB _⟩
      rw [← hl2]
      exact Wr.step [UInt8.ofNat k] hB HP2.out (hown1.alloc _) hown2 rfl (by simp [byteCells, byte_of (show k < 256 by omega)]) hg2
    · have h8 : 128 ≤ k := by omega
      go_wp2_with ((at_builtin
                    refine wpList_append_own_at _ rfl (.tmp 20) (.tmp 24) _ rfl B 5 i0 _ 1 1 Tryz.underlying28 hi0 hz0 hz1 hz2 rfl (by omega) v1 l'.length (byteCells l') rfl (hown1.alloc _) ⟨wr.heap.size, 0, none⟩ 1 1 [.int .u8 (bits .or .u8 ((k : Int) % 256) 128)] rfl rfl (cell_one_new _ _ _) (by simp [Value.oneCell']) (by have := HN.out; unfold maxLen; omega) (by have := HN.out; omega) (by simp; omega) ?_
                    intro v2 w2 hown2 hg2 _ hat2
                    obtain ⟨g2, cap2, rfl, hf2, hf3⟩ := hown2.form (by omega)
                    clear hat2
                    have hpa := (Below.heap_alloc wr (.cells #[.int .u8 (bits .or .u8 ((k : Int) % 256) 128)] 5) p (blk_lt HP1.out)).trans HP1.out
                    have hp2 := (hg2.block p (blk_lt hpa) (fun hh => own_ne (hown1.alloc _) hpa (by decide) hh.symm)).trans hpa
                    have e1 : w2.cell? ⟨p, 1, none⟩ = some v1 := by rw [cell_p hp2]; rfl
                    have e2 : w2.frozen? ⟨p, 1, none⟩ = false := frozen_p hp2
                    have HP2 := Lib.hid hpa
                    clear hpa hp2))
      go_roundw
      case rel =>
        have hvb := vb_big h7
        refine ⟨k / 128, l' ++ [UInt8.ofNat (k % 128 + 128)], by simp, by have := HK.out; omega, ?_, ?_, ?_, (below_grown (hb.alloc hbs _) hg2 (by simp; omega) (own_ge hown1)).setCell (p := ⟨p, 1, none⟩) hB _⟩
        · rw [← HL.out, hvb]; simp
        · have := HN.out; rw [hvb] at this; simp only [List.length_cons, List.length_append, List.length_nil] at this ⊢; omega
        · refine Wr.step [UInt8.ofNat (k % 128 + 128)] hB HP2.out (hown1.alloc _) hown2 rfl ?_ hg2
          have := byte_more k
          rw [wrap_u8] at this
          simp [byteCells, this]
      case measure => simp [intOf]; omega
end Go.Proofs.YtgmbppfkkiobhaaGreat.Wire
/- (*wire.Err).Wrong, Fail; (*wire.Writer).Num: numbers put. -/
namespace Go.Proofs.YtgmbppfkkiobhaaGreat.Wire
open Go Go.RowKit Go.Lib
theorem wrong_any (p : Nat) (e : Int) (w : World) (h : w.cell? ⟨p, 0, none⟩ = some (.int .i64 e)) :
    Calls Tryz.prog 17 #[.pointer (some ⟨p, 0, none⟩)] w fun en w' => en = .returned (.int .i64 e) ∧ w = w' := by
  go_enter Tryz.func17, Tryz.ntmps17
  go_wp2
  go_ret
  exact ⟨rfl, rfl⟩
theorem fail_any (p : Nat) (x : Int) (w : World) (h : w.cell? ⟨p, 0, none⟩ = some (.int .i64 0)) (hf : w.frozen? ⟨p, 0, none⟩ = false) :
    Calls Tryz.prog 122 #[.pointer (some ⟨p, 0, none⟩), .int .i64 x] w fun en w' => (∃ u, en = .returned u) ∧ w.setCell ⟨p, 0, none⟩ (.int .i64 x) = w' := by
  go_enter Tryz.func122, Tryz.ntmps122
  go_wp2
  go_end0
  exact ⟨⟨_, rfl⟩, rfl⟩
/-- Numbers in memory, one behind the other. -/
def IntsAt (w : World) (A : Option Addr) (xs : List Int) : Prop := xs ≠ [] → ∃ ad, A = some ad ∧ ∀ j x, xs[j]? = some x → w.cell? (ad.add j) = some (.int .i64 x)
theorem Wr.cells {B p : Nat} {e : Int} {l : List UInt8} {w : World} (h : Wr B p e l w) : w.cell? ⟨p, 0, none⟩ = some (.int .i64 e) ∧ w.frozen? ⟨p, 0, none⟩ = false ∧ B ≤ w.heap.size := by
  obtain ⟨hB, v, hp, _⟩ := h
  exact ⟨by rw [cell_p hp]; rfl, frozen_p hp, by have := blk_lt hp; omega⟩
theorem flat_snoc {α : Type} (f : α → List UInt8) (xs : List α) (k : Nat) (x : α) (h : xs[k]? = some x) : ((xs.take (k + 1)).map f).flatten = ((xs.take k).map f).flatten ++ f x := by
  obtain ⟨hk, rfl⟩ := List.getElem?_eq_some_iff.1 h
  rw [List.take_succ_eq_append_getElem hk]
  simp only [List.map_append, List.flatten_append, List.map_cons, List.map_nil, List.flatten_cons, List.flatten_nil, List.append_nil]
theorem flat_len (xs : List Int) (h : ∀ x ∈ xs, okI x) : ((xs.map numB).flatten).length ≤ 10 * xs.length := by
  induction xs with
  | nil => simp
  | cons x xs ih =>
    have h1 := vb_len10 (zz_lt (h x (by simp)).1 (h x (by simp)).2)
    have h2 := ih (fun u hu => h u (by simp [hu]))
    simp only [List.map_cons, List.flatten_cons, List.length_append, List.length_cons, numB] at h2 ⊢
    omega
set_option maxRecDepth 20000 in
theorem wnums_any (B p : Nat) (l : List UInt8) (A : Option Addr) (n c : Nat) (xs : List Int) (w : World) (h : Wr B p 0 l w) (hx : IntsAt w A xs) (hn : xs.length = n) (hs : n ≤ 1 ∨ ∀ ad, A = some ad → ad.block < B)
    (hok : ∀ x ∈ xs, okI x) (hl : l.length + 10 * n ≤ 10000000) (hn2 : n ≤ 1000000) :
    Calls Tryz.prog 33 #[.pointer (some ⟨p, 0, none⟩), .slice A n c] w fun en w' => (∃ u, en = .returned u) ∧ Wr B p 0 (l ++ (xs.map numB).flatten) w' ∧ Below B w w' := by
  have HW := Lib.hid h
  have HX := Lib.hid hx
  have HNN := Lib.hid hn
  have HS := Lib.hid hs
  have HOK := Lib.hid hok
  have HL := Lib.hid hl
  clear h hx hn hs hok hl
  go_enter Tryz.func33, Tryz.ntmps33
  go_wp2_with fail
  go_loopw [8] (fun i wr => ∃ k : Nat, i = .int .i64 k ∧ k ≤ n ∧ (k = 0 → wr = w) ∧ Wr B p 0 (l ++ ((xs.take k).map numB).flatten) wr ∧ Below B w wr) (fun i _ => n - (intOf i).toNat)
  case atStart => exact ⟨0, rfl, Nat.zero_le _, fun _ => rfl, by simpa using HW.out, Below.refl _ _⟩
  case round =>
    obtain ⟨k, rfl, hk, hk0, hW, hb⟩ := hrel
    obtain ⟨d0, d1, d2⟩ := hW.cells
    have HK0 := Lib.hid hk0
    have HW1 := Lib.hid hW
    clear hk0 hW
    by_cases hlt : k < n
    · have hxl : k < xs.length := by have := HNN.out; omega
      obtain ⟨ad, hA, hcs⟩ := HX.out (by intro e0; rw [e0] at hxl; simp at hxl)
      subst hA
      have hxk : xs[k]? = some xs[k] := List.getElem?_eq_getElem hxl
      have hcell : wr.cell? (ad.add k) = some (.int .i64 xs[k]) := by
        by_cases hk1 : k = 0
        · rw [HK0.out hk1]; exact hcs _ _ hxk
        · rcases HS.out with hs | hs
          · omega
          · rw [hb.cell (p := ad.add k) (by unfold Addr.add; split <;> exact hs ad rfl)]
            exact hcs _ _ hxk
      have HC := Lib.hid hcs
      have HXK := Lib.hid hxk
      have HOKk := Lib.hid (HOK.out _ (List.getElem_mem hxl))
      generalize xs[k] = x at hcell HXK HOKk
      clear hcs hxk
      go_wp2_with (first
        | (go_at_call 17; refine (wrong_any _ _ _ d0).mono ?_; rintro e w1 ⟨rfl, rfl⟩)
        | (go_at_call 121; refine (wnum_any B p 0 x _ _ HW1.out HOKk.out (by have h1 := HL.out; have h2 := flat_len (xs.take k) (fun y hy => HOK.out y (List.mem_of_mem_take hy)); simp only [List.length_append, List.length_take] at h2 ⊢; omega)).mono ?_; rintro e w1 ⟨⟨u, rfl⟩, hW1, hb1⟩))
      go_roundw
      case rel => exact ⟨k + 1, by go_num, by omega, fun h => absurd h (by omega), by rw [flat_snoc numB xs k x HXK.out, ← List.append_assoc]; exact hW1, hb.trans hb1⟩
      case measure => simp [intOf]; omega
    · go_wp2
      go_end0
      have h3 := HW1.out
      rw [List.take_of_length_le (by have := HNN.out; omega)] at h3
      exact ⟨⟨_, rfl⟩, h3, hb⟩
set_option maxRecDepth 20000 in
/-- Behind an error nothing is put. -/
theorem wnums_bad (B p : Nat) (e : Int) (he : e ≠ 0) (l : List UInt8) (A : Option Addr) (n c : Nat) (xs : List Int) (w : World) (h : Wr B p e l w) (hx : IntsAt w A xs) (hn : xs.length = n) (hn2 : n ≤ 1000000) :
    Calls Tryz.prog 33 #[.pointer (some ⟨p, 0, none⟩), .slice A n c] w fun en w' => (∃ u, en = .returned u) ∧ w = w' := by
  obtain ⟨d0, d1, d2⟩ := h.cells
  clear h
  have HX := Lib.hid hx
  have HNN := Lib.hid hn
  clear hx hn
  by_cases h0 : 0 < n
  · have hxl : 0 < xs.length := by have := HNN.out; omega
    obtain ⟨ad, hA, hcs⟩ := HX.out (by intro e0; rw [e0] at hxl; simp at hxl)
    subst hA
    have hcell : w.cell? ad = some (.int .i64 xs[0]) := by
      have := hcs 0 _ (List.getElem?_eq_getElem hxl)
      simpa [Addr.add] using this
    generalize xs[0] = x at hcell
    clear hcs
    have hb1 : (e == 0) = false := by simpa using he
    have hb2 : (e != 0) = true := by simpa using he
    go_enter Tryz.func33, Tryz.ntmps33
    go_wp2_with fail
    refine wp_loop_rounds 1 ?_
    rw [rounds_succ]
    go_wp2_with (go_at_call 17; refine (wrong_any _ _ _ d0).mono ?_; rintro e w1 ⟨rfl, rfl⟩)
    refine bodyPost_ret (results_none rfl _ _ _) rfl ?_
    exact ⟨⟨_, rfl⟩, rfl⟩
  · go_enter Tryz.func33, Tryz.ntmps33
    go_wp2_with fail
    refine wp_loop_rounds 1 ?_
    rw [rounds_succ]
    go_wp2
    go_end0
    exact ⟨⟨_, rfl⟩, rfl⟩
end Go.Proofs.YtgmbppfkkiobhaaGreat.Wire
/- (*wire.Writer).Text: texts put. -/
namespace Go.Proofs.YtgmbppfkkiobhaaGreat.Wire
open Go Go.RowKit Go.Lib
/-- Texts in memory, one behind the other. -/
def TextsAt (w : World) (A : Option Addr) (xs : List ByteArray) : Prop := xs ≠ [] → ∃ ad, A = some ad ∧ ∀ j x, xs[j]? = some x → w.cell? (ad.add j) = some (.string x)
def tb (s : ByteArray) : List UInt8 := textB s.data.toList
theorem sz (s : ByteArray) : s.data.toList.length = s.size := by rw [Array.length_toList]; rfl
theorem tb_len (s : ByteArray) (h : s.size ≤ 1000) : (tb s).length ≤ 1010 := by
  have h0 := sz s
  have h1 := vb_len10 (zz_lt (v := (s.data.toList.length : Int)) (by omega) (by omega))
  simp only [tb, textB, numB, List.length_append] at h1 ⊢
  omega
theorem flat_tlen (xs : List ByteArray) (h : ∀ x ∈ xs, x.size ≤ 1000) : ((xs.map tb).flatten).length ≤ 1010 * xs.length := by
  induction xs with
  | nil => simp
  | cons x xs ih =>
    have h1 := tb_len x (h x (by simp))
    have h2 := ih (fun u hu => h u (by simp [hu]))
    simp only [List.map_cons, List.flatten_cons, List.length_append, List.length_cons] at h2 ⊢
    omega
/-- A writer's error is set. -/
theorem Wr.fail {B p : Nat} {l : List UInt8} {w : World} (h : Wr B p 0 l w) (x : Int) : Wr B p x l (w.setCell ⟨p, 0, none⟩ (.int .i64 x)) := by
  obtain ⟨hB, v, hp, hown, hne⟩ := h
  exact ⟨hB, v, Go.Lib.heap_setCell_same (i := 0) hp _, hown.kept (grownBy_setCell w p 0 _) (Or.inr hne), hne⟩
theorem strB (x : ByteArray) (l : List Value) : l ++ strCells x = l ++ byteCells x.data.toList := rfl
/-- Text's end: all is put, or one is too long. -/
def TextPost (B p : Nat) (l : List UInt8) (xs : List ByteArray) (w : World) (en : Ending) (w' : World) : Prop :=
  (∃ u, en = .returned u) ∧ Below B w w' ∧ (((∀ x ∈ xs, x.size ≤ 1000) ∧ Wr B p 0 (l ++ (xs.map tb).flatten) w') ∨ ((∃ x ∈ xs, 1000 < x.size) ∧ ∃ l', Wr B p 2 l' w'))
set_option maxRecDepth 20000 in
theorem wtexts_any (B p : Nat) (l : List UInt8) (A : Option Addr) (n c : Nat) (xs : List ByteArray) (w : World) (h : Wr B p 0 l w) (hx : TextsAt w A xs) (hn : xs.length = n) (hs : n ≤ 1 ∨ ∀ ad, A = some ad → ad.block < B)
    (hmax : ∀ x ∈ xs, x.size ≤ maxLen) (hl : l.length + 1010 * n ≤ 1000000) (hn2 : n ≤ 1000000) :
    Calls Tryz.prog 34 #[.pointer (some ⟨p, 0, none⟩), .slice A n c] w (TextPost B p l xs w) := by
  obtain ⟨i0, hi0, hz0, hz1, hz2⟩ := info_parts u8_info
  have HW := Lib.hid h
  have HX := Lib.hid hx
  have HNN := Lib.hid hn
  have HS := Lib.hid hs
  have HM := Lib.hid hmax
  have HL := Lib.hid hl
  clear h hx hn hs hmax hl
  go_enter Tryz.func34, Tryz.ntmps34
  go_wp2_with fail
  go_loopw [8] (fun i wr => ∃ k : Nat, i = .int .i64 k ∧ k ≤ n ∧ (k = 0 → wr = w) ∧ (∀ x ∈ xs.take k, x.size ≤ 1000) ∧ Wr B p 0 (l ++ ((xs.take k).map tb).flatten) wr ∧ Below B w wr) (fun i _ => n - (intOf i).toNat)
  case atStart => exact ⟨0, rfl, Nat.zero_le _, fun _ => rfl, by simp, by simpa using HW.out, Below.refl _ _⟩
  case round =>
    obtain ⟨k, rfl, hk, hk0, hfit, hW, hb⟩ := hrel
    obtain ⟨d0, d1, d2⟩ := hW.cells
    have HK0 := Lib.hid hk0
    have HF := Lib.hid hfit
    have HW1 := Lib.hid hW
    clear hk0 hW hfit
    by_cases hlt : k < n
    · have hxl : k < xs.length := by have := HNN.out; omega
      obtain ⟨ad, hA, hcs⟩ := HX.out (by intro e0; rw [e0] at hxl; simp at hxl)
      subst hA
      have hxk : xs[k]? = some xs[k] := List.getElem?_eq_getElem hxl
      have hcell : wr.cell? (ad.add k) = some (.string xs[k]) := by
        by_cases hk1 : k = 0
        · rw [HK0.out hk1]; exact hcs _ _ hxk
        · rcases HS.out with hs | hs
          · omega
          · rw [hb.cell (p := ad.add k) (by unfold Addr.add; split <;> exact hs ad rfl)]
            exact hcs _ _ hxk
      have HC := Lib.hid hcs
      have HXK := Lib.hid hxk
      have HMk := Lib.hid (HM.out _ (List.getElem_mem hxl))
      have HIn := Lib.hid (List.getElem_mem hxl)
      generalize xs[k] = x at hcell HXK HMk HIn
      clear hcs hxk
      have HFL := Lib.hid (flat_tlen (xs.take k) HF.out)
      have HNB : Hid ((numB (x.size : Int)).length ≤ 10 ∨ 1000 < x.size) := by
        by_cases h9 : 1000 < x.size
        · exact .inr h9
        · exact .inl (vb_len10 (zz_lt (by omega) (by omega)))
      by_cases hlong : 1000 < x.size
      · go_wp2_with (first
          | (go_at_call 17; refine (wrong_any _ _ _ d0).mono ?_; rintro e w1 ⟨rfl, rfl⟩)
          | (go_at_call 122; refine (fail_any _ _ _ d0 d1).mono ?_; rintro e w1 ⟨⟨u, rfl⟩, rfl⟩))
        refine bodyPost_ret (results_none rfl _ _ _) rfl ?_
        exact ⟨⟨_, rfl⟩, hb.setCell (p := ⟨p, 0, none⟩) HW1.out.1 _, .inr ⟨⟨x, HIn.out, hlong⟩, _, HW1.out.fail 2⟩⟩
      · go_wp2_with (first
          | (go_at_call 17; refine (wrong_any _ _ _ d0).mono ?_; rintro e w1 ⟨rfl, rfl⟩)
          | (go_at_call 121
             refine (wnum_any B p 0 (x.size : Int) _ _ HW1.out ⟨by omega, by omega⟩ (by have h1 := HL.out; have h2 := HFL.out; simp only [List.length_append, List.length_take] at h2 ⊢; omega)).mono ?_
             rintro e w1 ⟨⟨u, rfl⟩, ⟨_, v1, hp1, hown1, hne1⟩, hb1⟩
             obtain ⟨N1, hN1⟩ : ∃ N, (l ++ (List.map tb (List.take k xs)).flatten ++ numB (x.size : Int)).length = N := ⟨_, rfl⟩
             rw [hN1] at hown1
             have HN1 := Lib.hid hN1
             clear hN1
             have e0 : w1.cell? ⟨p, 1, none⟩ = some v1 := (by rw [cell_p hp1]; rfl)
             have HP1 := Lib.hid hp1
             have hbs1 : B ≤ w1.heap.size := (by have := hb1.size; omega)
             clear hp1)
          | (at_builtin
             refine wpList_append_own_string _ rfl (.tmp 38) (.tmp 39) _ _ rfl B 5 i0 Tryz.underlying28 Tryz.underlying9 hi0 hz0 hz1 hz2 v1 _ _ rfl hown1 x rfl (by have h1 := HL.out; have h2 := HFL.out; have h3 := HNB.out; have h4 := HN1.out; simp only [List.length_append, List.length_take] at h2 h3 h4 ⊢; unfold maxLen; omega) (by have h1 := HL.out; have h2 := HFL.out; have h3 := HNB.out; have h4 := HN1.out; simp only [List.length_append, List.length_take] at h2 h3 h4 ⊢; omega) hbs1 ?_
             intro v2 w2 hown2 hg2 _
             obtain ⟨g2, cap2, rfl, hf2, hf3⟩ := hown2.form (by have := vb_pos (zz (x.size : Int)); have h4 := HN1.out; simp only [List.length_append, numB] at h4; omega)
             have hp2 := (hg2.block p (blk_lt HP1.out) (fun hh => own_ne hown1 HP1.out (by decide) hh.symm)).trans HP1.out
             have e1 : w2.cell? ⟨p, 1, none⟩ = some v1 := (by rw [cell_p hp2]; rfl)
             have e2 : w2.frozen? ⟨p, 1, none⟩ = false := frozen_p hp2
             clear hp2))
        go_roundw
        case rel =>
          have hst := Wr.step x.data.toList HW1.out.1 HP1.out (by rw [HN1.out]; exact hown1) hown2 (by rw [HN1.out, sz]) (by rw [strB]) hg2
          refine ⟨k + 1, by go_num, by omega, fun h => absurd h (by omega), ?_, ?_, (below_grown (hb.trans hb1) hg2 hbs1 (own_ge hown1)).setCell (p := ⟨p, 1, none⟩) HW1.out.1 _⟩
          · intro y hy
            rw [List.take_succ_eq_append_getElem hxl, List.mem_append] at hy
            rcases hy with hy | hy
            · exact HF.out y hy
            · have hxx : xs[k] = x := by have := HXK.out; rw [List.getElem?_eq_getElem hxl] at this; injection this
              rw [hxx, List.mem_singleton] at hy
              rw [hy]; omega
          · rw [flat_snoc tb xs k x HXK.out, ← List.append_assoc]
            rw [List.append_assoc] at hst
            have he : tb x = numB (x.size : Int) ++ x.data.toList := by rw [tb, textB, sz]
            rw [he]
            exact hst
        case measure => simp [intOf]; omega
    · go_wp2
      go_end0
      have h3 := HW1.out
      have h4 := HF.out
      rw [List.take_of_length_le (by have := HNN.out; omega)] at h3 h4
      exact ⟨⟨_, rfl⟩, hb, .inl ⟨h4, h3⟩⟩
end Go.Proofs.YtgmbppfkkiobhaaGreat.Wire
/- Text behind an error; (*wire.Writer).Bytes; wire.NewWriter. -/
namespace Go.Proofs.YtgmbppfkkiobhaaGreat.Wire
open Go Go.RowKit Go.Lib
set_option maxRecDepth 20000 in
/-- Behind an error no text is put. -/
theorem wtexts_bad (B p : Nat) (e : Int) (he : e ≠ 0) (l : List UInt8) (A : Option Addr) (n c : Nat) (xs : List ByteArray) (w : World) (h : Wr B p e l w) (hx : TextsAt w A xs) (hn : xs.length = n) (hn2 : n ≤ 1000000) :
    Calls Tryz.prog 34 #[.pointer (some ⟨p, 0, none⟩), .slice A n c] w fun en w' => (∃ u, en = .returned u) ∧ w = w' := by
  obtain ⟨d0, d1, d2⟩ := h.cells
  clear h
  have HX := Lib.hid hx
  have HNN := Lib.hid hn
  clear hx hn
  by_cases h0 : 0 < n
  · have hxl : 0 < xs.length := by have := HNN.out; omega
    obtain ⟨ad, hA, hcs⟩ := HX.out (by intro e0; rw [e0] at hxl; simp at hxl)
    subst hA
    have hcell : w.cell? ad = some (.string xs[0]) := by
      have := hcs 0 _ (List.getElem?_eq_getElem hxl)
      simpa [Addr.add] using this
    generalize xs[0] = x at hcell
    clear hcs
    have hb1 : (e == 0) = false := by simpa using he
    have hb2 : (e != 0) = true := by simpa using he
    go_enter Tryz.func34, Tryz.ntmps34
    go_wp2_with fail
    refine wp_loop_rounds 1 ?_
    rw [rounds_succ]
    go_wp2_with (go_at_call 17; refine (wrong_any _ _ _ d0).mono ?_; rintro e w1 ⟨rfl, rfl⟩)
    refine bodyPost_ret (results_none rfl _ _ _) rfl ?_
    exact ⟨⟨_, rfl⟩, rfl⟩
  · go_enter Tryz.func34, Tryz.ntmps34
    go_wp2_with fail
    refine wp_loop_rounds 1 ?_
    rw [rounds_succ]
    go_wp2
    go_end0
    exact ⟨⟨_, rfl⟩, rfl⟩
theorem conv_nil (w : World) (c : Nat) : (convert 28 9 (.slice none 0 c)).run Tryz.prog w = .ok (.string ⟨#[]⟩) w := by
  rw [run_convert_bytes_string w 28 9 5 none 0 c Tryz.underlying28 Tryz.underlying5 Tryz.underlying9]
  simp [Conv.bytesToString]
  rfl
/-- A row's bytes as a string. -/
theorem conv_row {B : Nat} {w : World} {v : Value} {l : List UInt8} (h : w.ownsRow B 5 1 v l.length (byteCells l)) : (convert 28 9 v).run Tryz.prog w = .ok (.string ⟨l.toArray⟩) w := by
  rcases h.2 with ⟨rfl, h0⟩ | ⟨g, cap, cur, rfl, _, hh, _, _, _, htk⟩
  · have : l = [] := List.eq_nil_of_length_eq_zero h0
    subst this
    exact conv_nil w 0
  · refine run_convert_bytes_back w _ _ 5 ⟨g, 0, none⟩ cap l Tryz.underlying28 Tryz.underlying5 Tryz.underlying9 ?_
    intro j hj
    refine h.cells (g := g) rfl j _ ?_
    simp [byteCells, hj]
/-- What was put, as a string. -/
theorem wbytes_any (B p : Nat) (l : List UInt8) (w : World) (h : Wr B p 0 l w) :
    Calls Tryz.prog 11 #[.pointer (some ⟨p, 0, none⟩)] w fun en w' => en = .returned (.tuple #[.string ⟨l.toArray⟩, .int .i64 0]) ∧ w = w' := by
  obtain ⟨hB, v, hp, hown, hne⟩ := h
  have d0 : w.cell? ⟨p, 0, none⟩ = some (.int .i64 0) := by rw [cell_p hp]; rfl
  have d1 : w.cell? ⟨p, 1, none⟩ = some v := by rw [cell_p hp]; rfl
  have hcv := conv_row hown
  clear hp hown hne
  go_enter Tryz.func11, Tryz.ntmps11
  go_wp2_with (go_at_call 17; refine (wrong_any _ _ _ d0).mono ?_; rintro e w1 ⟨rfl, rfl⟩)
  go_ret2
  exact ⟨rfl, rfl⟩
theorem wbytes_bad (B p : Nat) (e : Int) (he : e ≠ 0) (l : List UInt8) (w : World) (h : Wr B p e l w) :
    Calls Tryz.prog 11 #[.pointer (some ⟨p, 0, none⟩)] w fun en w' => en = .returned (.tuple #[.string ⟨#[]⟩, .int .i64 e]) ∧ w = w' := by
  obtain ⟨d0, d1, d2⟩ := h.cells
  clear h
  have hb1 : (e == 0) = false := by simpa using he
  have hb2 : (e != 0) = true := by simpa using he
  go_enter Tryz.func11, Tryz.ntmps11
  go_wp2_with (go_at_call 17; refine (wrong_any _ _ _ d0).mono ?_; rintro e w1 ⟨rfl, rfl⟩)
  go_ret2
  exact ⟨rfl, rfl⟩
/-- A new writer. -/
theorem newW_any (w : World) : Calls Tryz.prog 7 #[] w fun en w' => en = .returned (.pointer (some ⟨w.heap.size, 0, none⟩)) ∧ Wr w.heap.size w.heap.size 0 [] w' ∧ Below w.heap.size w w' := by
  go_enter Tryz.func7, Tryz.ntmps7
  go_wp2
  go_ret
  refine ⟨rfl, ⟨Nat.le_refl _, .slice none 0 0, heap_alloc_new w _, World.ownsRow_nil _ _ _ _, by simp [Value.ownBlock]⟩, (Below.refl _ w).alloc (Nat.le_refl _) _⟩
end Go.Proofs.YtgmbppfkkiobhaaGreat.Wire
