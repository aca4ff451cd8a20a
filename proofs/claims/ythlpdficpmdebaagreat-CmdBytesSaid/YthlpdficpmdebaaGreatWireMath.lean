/- Plain mathematics of the wire: numbers in groups of seven bits, texts behind their lengths; what was put is got, and what is got of a beginning is got of all. -/
import Derived.Below
namespace Go.Proofs.YthlpdficpmdebaaGreat.Wire

def zz (v : Int) : Nat := if 0 ≤ v then (2 * v).toNat else (-2 * v - 1).toNat
def unzz (n : Nat) : Int := if n % 2 = 0 then ((n / 2 : Nat) : Int) else -((n / 2 : Nat) : Int) - 1
theorem unzz_zz (v : Int) : unzz (zz v) = v := by
  unfold zz unzz
  by_cases h : 0 ≤ v
  · rw [if_pos h]; split <;> omega
  · rw [if_neg h]; split <;> omega
theorem zz_lt {v : Int} (h1 : -9223372036854775808 ≤ v) (h2 : v ≤ 9223372036854775807) : zz v < 18446744073709551616 := by
  unfold zz; split <;> omega
theorem unzz_rng {n : Nat} (h : n < 18446744073709551616) : -9223372036854775808 ≤ unzz n ∧ unzz n ≤ 9223372036854775807 := by
  unfold unzz; split <;> omega

/-- A number's bytes. -/
def vb (n : Nat) : List UInt8 := if n < 128 then [UInt8.ofNat n] else UInt8.ofNat (n % 128 + 128) :: vb (n / 128)
termination_by n
decreasing_by omega
theorem vb_small {n : Nat} (h : n < 128) : vb n = [UInt8.ofNat n] := by rw [vb, if_pos h]
theorem vb_big {n : Nat} (h : ¬ n < 128) : vb n = UInt8.ofNat (n % 128 + 128) :: vb (n / 128) := by rw [vb, if_neg h]
theorem vb_len : ∀ (k n : Nat), n < 128 ^ (k + 1) → (vb n).length ≤ k + 1
  | 0, n, h => by rw [vb_small (by simpa using h)]; simp
  | k + 1, n, h => by
    by_cases h1 : n < 128
    · rw [vb_small h1]; simp
    · rw [vb_big h1]
      have := vb_len k (n / 128) (by rw [Nat.pow_succ] at h; exact Nat.div_lt_of_lt_mul (by omega))
      simp only [List.length_cons]
      omega
theorem vb_len10 {n : Nat} (h : n < 18446744073709551616) : (vb n).length ≤ 10 := vb_len 9 n (by omega)
theorem vb_pos (n : Nat) : 0 < (vb n).length := by
  rw [vb]; split <;> simp

/-- A number read: its value, how many groups, the error. -/
def rdN : List UInt8 → Nat → Nat → Int × Nat × Int
  | [], i, _ => if i = 10 then (0, 0, 4) else (0, 0, 5)
  | c :: t, i, acc =>
    if i = 10 then (0, 0, 4)
    else if i = 9 ∧ 1 < c.toNat then (0, 0, 4)
    else if 128 ≤ c.toNat then rdN t (i + 1) (acc + c.toNat % 128 * 2 ^ (7 * i))
    else if c.toNat = 0 ∧ 0 < i then (0, 0, 4)
    else (unzz (acc + c.toNat * 2 ^ (7 * i)), i + 1, 0)
theorem pow_step (i : Nat) : 2 ^ (7 * (i + 1)) = 128 * 2 ^ (7 * i) := by
  rw [show 7 * (i + 1) = 7 * i + 7 from rfl, Nat.pow_add, Nat.mul_comm]
theorem byte_of {n : Nat} (h : n < 256) : (UInt8.ofNat n).toNat = n := by
  simp only [UInt8.toNat_ofNat']; omega
theorem rdN_vb (n : Nat) : ∀ (i acc : Nat) (t : List UInt8), n * 2 ^ (7 * i) < 18446744073709551616 → i ≤ 9 → (n = 0 → i = 0) →
    rdN (vb n ++ t) i acc = (unzz (acc + n * 2 ^ (7 * i)), i + (vb n).length, 0) := by
  induction n using Nat.strongRecOn with
  | ind n ih =>
    intro i acc t hn hi h0
    by_cases h1 : n < 128
    · rw [vb_small h1]
      simp only [List.singleton_append, rdN, byte_of (n := n) (by omega), List.length_singleton]
      rw [if_neg (by omega), if_neg, if_neg (by omega), if_neg (by omega)]
      rintro ⟨rfl, h2⟩
      have h3 : (2 : Nat) ^ (7 * 9) = 9223372036854775808 := by decide
      rw [h3] at hn
      omega
    · rw [vb_big h1]
      have hb : (UInt8.ofNat (n % 128 + 128)).toNat = n % 128 + 128 := byte_of (by omega)
      have hi9 : i ≠ 9 := by
        rintro rfl
        have h3 : (2 : Nat) ^ (7 * 9) = 9223372036854775808 := by decide
        rw [h3] at hn
        omega
      simp only [List.cons_append, rdN, hb, List.length_cons]
      rw [if_neg (by omega), if_neg (by omega), if_pos (by omega)]
      have hm : (n % 128 + 128) % 128 = n % 128 := by omega
      have hs := pow_step i
      have hle : n / 128 * 2 ^ (7 * (i + 1)) ≤ n * 2 ^ (7 * i) := by
        rw [hs, ← Nat.mul_assoc]
        exact Nat.mul_le_mul_right _ (by omega)
      rw [hm, ih (n / 128) (by omega) (i + 1) _ t (by omega) (by omega) (by omega)]
      have he : acc + n % 128 * 2 ^ (7 * i) + n / 128 * 2 ^ (7 * (i + 1)) = acc + n * 2 ^ (7 * i) := by
        rw [hs, ← Nat.mul_assoc, Nat.add_assoc, ← Nat.add_mul]
        congr 2
        omega
      rw [he]
      simp only [Prod.mk.injEq, true_and, and_true]
      omega
theorem rdN_more (m : List UInt8) : ∀ (l : List UInt8) (i acc : Nat) (v : Int) (k : Nat), rdN l i acc = (v, k, 0) → rdN (l ++ m) i acc = (v, k, 0) ∧ k ≤ i + l.length ∧ i < k
  | [], i, acc, v, k, h => by
    simp only [rdN] at h
    split at h <;> simp at h
  | c :: t, i, acc, v, k, h => by
    simp only [rdN, List.cons_append] at h ⊢
    by_cases h1 : i = 10
    · rw [if_pos h1] at h; simp at h
    by_cases h2 : i = 9 ∧ 1 < c.toNat
    · rw [if_neg h1, if_pos h2] at h; simp at h
    by_cases h3 : 128 ≤ c.toNat
    · rw [if_neg h1, if_neg h2, if_pos h3] at h
      rw [if_neg h1, if_neg h2, if_pos h3]
      obtain ⟨a, b, d⟩ := rdN_more m t (i + 1) _ v k h
      refine ⟨a, ?_, by omega⟩
      simp only [List.length_cons]
      omega
    by_cases h4 : c.toNat = 0 ∧ 0 < i
    · rw [if_neg h1, if_neg h2, if_neg h3, if_pos h4] at h; simp at h
    rw [if_neg h1, if_neg h2, if_neg h3, if_neg h4] at h
    rw [if_neg h1, if_neg h2, if_neg h3, if_neg h4]
    refine ⟨h, ?_⟩
    simp only [Prod.mk.injEq] at h
    simp only [List.length_cons]
    omega

/-- What a reader knows: its error, what is left. -/
structure RS where
  e : Int
  l : List UInt8
def rNum (s : RS) : Int × RS :=
  if s.e ≠ 0 then (0, s)
  else if (rdN s.l 0 0).2.2 ≠ 0 then (0, ⟨(rdN s.l 0 0).2.2, s.l⟩)
  else ((rdN s.l 0 0).1, ⟨0, s.l.drop (rdN s.l 0 0).2.1⟩)
def cErr (most : Int) (r : Int × Nat × Int) : Int := if r.2.2 ≠ 0 then r.2.2 else if r.1 > most then 2 else if r.1 < 0 then 4 else 0
def rCount (most : Int) (s : RS) : Int × RS :=
  if s.e ≠ 0 then (0, s)
  else if cErr most (rdN s.l 0 0) ≠ 0 then (0, ⟨cErr most (rdN s.l 0 0), s.l⟩)
  else ((rdN s.l 0 0).1, ⟨0, s.l.drop (rdN s.l 0 0).2.1⟩)
def tErr (n : Nat) (r : Int × Nat × Int) : Int := if r.2.2 ≠ 0 then r.2.2 else if r.1 > 1000 then 2 else if r.1 < 0 then 4 else if r.1 > (n : Int) - r.2.1 then 5 else 0
def rText (s : RS) : List UInt8 × RS :=
  if s.e ≠ 0 then ([], s)
  else if tErr s.l.length (rdN s.l 0 0) ≠ 0 then ([], ⟨tErr s.l.length (rdN s.l 0 0), s.l⟩)
  else ((s.l.drop (rdN s.l 0 0).2.1).take (rdN s.l 0 0).1.toNat, ⟨0, (s.l.drop (rdN s.l 0 0).2.1).drop (rdN s.l 0 0).1.toNat⟩)
def rMany {α : Type} (f : RS → α × RS) : Nat → RS → List α × RS
  | 0, s => ([], s)
  | n + 1, s => ((f s).1 :: (rMany f n (f s).2).1, (rMany f n (f s).2).2)
def rGet (mostN mostT : Int) (s : RS) : (List Int × List (List UInt8)) × RS :=
  let c := rCount mostN s
  let a := rMany rNum c.1.toNat c.2
  let d := rCount mostT a.2
  let b := rMany rText d.1.toNat d.2
  ((a.1, b.1), b.2)
def rEnd (s : RS) : Int := if s.e ≠ 0 then s.e else if s.l ≠ [] then 4 else 0

/-- Reading of a beginning that went well goes alike where more stands behind. -/
def Ext {α : Type} (f : RS → α × RS) : Prop := ∀ (s : RS) (m : List UInt8), (f s).2.e = 0 → s.e = 0 ∧ f ⟨0, s.l ++ m⟩ = ((f s).1, ⟨0, (f s).2.l ++ m⟩)
theorem rdN_eta {l : List UInt8} (h : (rdN l 0 0).2.2 = 0) : rdN l 0 0 = ((rdN l 0 0).1, (rdN l 0 0).2.1, 0) := by rw [← h]
theorem rdN_app {l : List UInt8} (m : List UInt8) (h : (rdN l 0 0).2.2 = 0) : rdN (l ++ m) 0 0 = rdN l 0 0 ∧ (rdN l 0 0).2.1 ≤ l.length := by
  obtain ⟨a, b, _⟩ := rdN_more m l 0 0 _ _ (rdN_eta h)
  exact ⟨by rw [a, ← rdN_eta h], by omega⟩
theorem ext_num : Ext rNum := by
  intro s m h
  unfold rNum at h ⊢
  by_cases h1 : s.e ≠ 0
  · rw [if_pos h1] at h; exact absurd h h1
  rw [if_neg h1] at h ⊢
  by_cases h2 : (rdN s.l 0 0).2.2 ≠ 0
  · rw [if_pos h2] at h; exact absurd h h2
  have h3 : (rdN s.l 0 0).2.2 = 0 := by omega
  obtain ⟨a, b⟩ := rdN_app m h3
  refine ⟨by omega, ?_⟩
  simp only [a]
  rw [if_neg (by simp), if_neg h2, List.drop_append_of_le_length b, if_neg h2]
theorem ext_count (most : Int) : Ext (rCount most) := by
  intro s m h
  unfold rCount at h ⊢
  by_cases h1 : s.e ≠ 0
  · rw [if_pos h1] at h; exact absurd h h1
  rw [if_neg h1] at h ⊢
  by_cases h2 : cErr most (rdN s.l 0 0) ≠ 0
  · rw [if_pos h2] at h; exact absurd h h2
  have h3 : (rdN s.l 0 0).2.2 = 0 := by
    unfold cErr at h2
    by_cases h4 : (rdN s.l 0 0).2.2 ≠ 0
    · rw [if_pos h4] at h2; exact absurd h4 h2
    · omega
  obtain ⟨a, b⟩ := rdN_app m h3
  refine ⟨by omega, ?_⟩
  simp only [a]
  rw [if_neg (by simp), if_neg h2, List.drop_append_of_le_length b, if_neg h2]
theorem ext_text : Ext rText := by
  intro s m h
  unfold rText at h ⊢
  by_cases h1 : s.e ≠ 0
  · rw [if_pos h1] at h; exact absurd h h1
  rw [if_neg h1] at h ⊢
  by_cases h2 : tErr s.l.length (rdN s.l 0 0) ≠ 0
  · rw [if_pos h2] at h; exact absurd h h2
  have hh := h2
  unfold tErr at hh
  by_cases h4 : (rdN s.l 0 0).2.2 ≠ 0
  · rw [if_pos h4] at hh; exact absurd h4 hh
  rw [if_neg h4] at hh
  by_cases h5 : (rdN s.l 0 0).1 > 1000
  · rw [if_pos h5] at hh; exact absurd (by decide) hh
  rw [if_neg h5] at hh
  by_cases h6 : (rdN s.l 0 0).1 < 0
  · rw [if_pos h6] at hh; exact absurd (by decide) hh
  rw [if_neg h6] at hh
  by_cases h7 : (rdN s.l 0 0).1 > (s.l.length : Int) - (rdN s.l 0 0).2.1
  · rw [if_pos h7] at hh; exact absurd (by decide) hh
  obtain ⟨a, b⟩ := rdN_app m (by omega : (rdN s.l 0 0).2.2 = 0)
  refine ⟨by omega, ?_⟩
  have hz : tErr (s.l ++ m).length (rdN s.l 0 0) = 0 := by
    unfold tErr
    rw [if_neg h4, if_neg h5, if_neg h6, if_neg (by simp only [List.length_append]; omega)]
  have hlen : (rdN s.l 0 0).1.toNat ≤ (s.l.drop (rdN s.l 0 0).2.1).length := by simp only [List.length_drop]; omega
  simp only [a]
  rw [if_neg (by simp), if_neg (by rw [hz]; simp), if_neg h2, List.drop_append_of_le_length b, List.take_append_of_le_length hlen, List.drop_append_of_le_length hlen]
theorem ext_many {α : Type} {f : RS → α × RS} (hf : Ext f) : ∀ n, Ext (rMany f n)
  | 0 => fun s m h => ⟨h, rfl⟩
  | n + 1 => fun s m h => by
    obtain ⟨a, b⟩ := ext_many hf n (f s).2 m h
    obtain ⟨c, d⟩ := hf s m a
    refine ⟨c, ?_⟩
    simp only [rMany, d]
    rw [b]
theorem ext_get (mostN mostT : Int) : Ext (rGet mostN mostT) := by
  intro s m h
  obtain ⟨a4, b4⟩ := ext_many ext_text _ _ m h
  obtain ⟨a3, b3⟩ := ext_count mostT _ m a4
  obtain ⟨a2, b2⟩ := ext_many ext_num _ _ m a3
  obtain ⟨a1, b1⟩ := ext_count mostN _ m a2
  refine ⟨a1, ?_⟩
  simp only [rGet, b1, b2, b3, b4]

/-! What was put is got. -/
def numB (v : Int) : List UInt8 := vb (zz v)
def textB (t : List UInt8) : List UInt8 := numB t.length ++ t
def okI (v : Int) : Prop := -9223372036854775808 ≤ v ∧ v ≤ 9223372036854775807
theorem rdN_num {v : Int} (h : okI v) (t : List UInt8) : rdN (numB v ++ t) 0 0 = (v, (numB v).length, 0) := by
  have := rdN_vb (zz v) 0 0 t (by simpa using zz_lt h.1 h.2) (by omega) (fun _ => rfl)
  simpa [numB, unzz_zz] using this
theorem rNum_put {v : Int} (h : okI v) (t : List UInt8) : rNum ⟨0, numB v ++ t⟩ = (v, ⟨0, t⟩) := by
  simp [rNum, rdN_num h]
theorem rCount_put {most : Int} {n : Nat} (h : (n : Int) ≤ most) (h2 : (n : Int) ≤ 9223372036854775807) (t : List UInt8) : rCount most ⟨0, numB n ++ t⟩ = ((n : Int), ⟨0, t⟩) := by
  have e : cErr most ((n : Int), (numB n).length, 0) = 0 := by
    unfold cErr
    rw [if_neg (by simp), if_neg (by show ¬ (n : Int) > most; omega), if_neg (by show ¬ (n : Int) < 0; omega)]
  simp [rCount, rdN_num (v := n) ⟨by omega, h2⟩, e]
theorem rText_put {x : List UInt8} (h : x.length ≤ 1000) (t : List UInt8) : rText ⟨0, textB x ++ t⟩ = (x, ⟨0, t⟩) := by
  have e : tErr (textB x ++ t).length ((x.length : Int), (numB x.length).length, 0) = 0 := by
    unfold tErr
    rw [if_neg (by simp), if_neg (by show ¬ (x.length : Int) > 1000; omega), if_neg (by show ¬ (x.length : Int) < 0; omega), if_neg]
    simp only [textB, List.length_append]
    omega
  have hr : rdN (textB x ++ t) 0 0 = ((x.length : Int), (numB x.length).length, 0) := by
    rw [textB, List.append_assoc]
    exact rdN_num ⟨by omega, by omega⟩ _
  unfold rText
  rw [if_neg (by simp)]
  simp only [hr, e]
  simp [textB]
theorem rNums_put : ∀ (l : List Int), (∀ v ∈ l, okI v) → ∀ t, rMany rNum l.length ⟨0, (l.map numB).flatten ++ t⟩ = (l, ⟨0, t⟩)
  | [], _, t => rfl
  | v :: l, h, t => by
    have h1 := rNum_put (h v (by simp)) ((l.map numB).flatten ++ t)
    have h2 := rNums_put l (fun u hu => h u (by simp [hu])) t
    simp only [List.length_cons, List.map_cons, List.flatten_cons, List.append_assoc, rMany, h1, h2]
theorem rTexts_put : ∀ (l : List (List UInt8)), (∀ v ∈ l, v.length ≤ 1000) → ∀ t, rMany rText l.length ⟨0, (l.map textB).flatten ++ t⟩ = (l, ⟨0, t⟩)
  | [], _, t => rfl
  | v :: l, h, t => by
    have h1 := rText_put (h v (by simp)) ((l.map textB).flatten ++ t)
    have h2 := rTexts_put l (fun u hu => h u (by simp [hu])) t
    simp only [List.length_cons, List.map_cons, List.flatten_cons, List.append_assoc, rMany, h1, h2]
/-- Numbers and texts, each behind how many there are. -/
def putB (nums : List Int) (texts : List (List UInt8)) : List UInt8 := numB nums.length ++ ((nums.map numB).flatten ++ (numB texts.length ++ (texts.map textB).flatten))
theorem rGet_put {nums : List Int} {texts : List (List UInt8)} {a b : Int} (ha : (nums.length : Int) ≤ a) (hb : (texts.length : Int) ≤ b) (hn : ∀ v ∈ nums, okI v) (ht : ∀ t ∈ texts, t.length ≤ 1000)
    (h1 : nums.length ≤ 9223372036854775807) (h2 : texts.length ≤ 9223372036854775807) (t : List UInt8) : rGet a b ⟨0, putB nums texts ++ t⟩ = ((nums, texts), ⟨0, t⟩) := by
  have e1 := rCount_put ha (by omega) ((nums.map numB).flatten ++ (numB texts.length ++ ((texts.map textB).flatten ++ t)))
  have e2 := rNums_put nums hn (numB texts.length ++ ((texts.map textB).flatten ++ t))
  have e3 := rCount_put hb (by omega) ((texts.map textB).flatten ++ t)
  have e4 := rTexts_put texts ht t
  simp only [rGet, putB, List.append_assoc, e1, e2, e3, e4, Int.toNat_natCast]

/-- A command's bytes; a command read. -/
def cmdB (kind : Int) (party : List UInt8) (nums : List Int) (texts : List (List UInt8)) : List UInt8 := numB kind ++ (textB party ++ putB nums texts)
def cmdR (l : List UInt8) : ((Int × List UInt8) × (List Int × List (List UInt8))) × RS :=
  let k := rNum ⟨0, l⟩
  let p := rText k.2
  let g := rGet 70 10 p.2
  (((k.1, p.1), g.1), g.2)
theorem cmdR_put {kind : Int} {party : List UInt8} {nums : List Int} {texts : List (List UInt8)} (hk : okI kind) (hp : party.length ≤ 1000) (ha : nums.length ≤ 70) (hb : texts.length ≤ 10)
    (hn : ∀ v ∈ nums, okI v) (ht : ∀ t ∈ texts, t.length ≤ 1000) (t : List UInt8) : cmdR (cmdB kind party nums texts ++ t) = (((kind, party), (nums, texts)), ⟨0, t⟩) := by
  have e1 := rNum_put hk (textB party ++ (putB nums texts ++ t))
  have e2 := rText_put hp (putB nums texts ++ t)
  have e3 := rGet_put (a := 70) (b := 10) (nums := nums) (texts := texts) (by omega) (by omega) hn ht (by omega) (by omega) t
  simp only [cmdR, cmdB, List.append_assoc, e1, e2, e3]
theorem cmdR_ext {l : List UInt8} (m : List UInt8) (h : (cmdR l).2.e = 0) : cmdR (l ++ m) = ((cmdR l).1, ⟨0, (cmdR l).2.l ++ m⟩) := by
  obtain ⟨a3, b3⟩ := ext_get 70 10 _ m h
  obtain ⟨a2, b2⟩ := ext_text _ m a3
  obtain ⟨_, b1⟩ := ext_num ⟨0, l⟩ m a2
  simp only [cmdR, b1, b2, b3]
/-- With bytes more it is none. -/
theorem cmdR_more {kind : Int} {party : List UInt8} {nums : List Int} {texts : List (List UInt8)} (hk : okI kind) (hp : party.length ≤ 1000) (ha : nums.length ≤ 70) (hb : texts.length ≤ 10)
    (hn : ∀ v ∈ nums, okI v) (ht : ∀ t ∈ texts, t.length ≤ 1000) {t : List UInt8} (h : t ≠ []) : rEnd (cmdR (cmdB kind party nums texts ++ t)).2 = 4 := by
  rw [cmdR_put hk hp ha hb hn ht]
  simp [rEnd, h]
/-- With bytes fewer it is none. -/
theorem cmdR_less {kind : Int} {party : List UInt8} {nums : List Int} {texts : List (List UInt8)} (hk : okI kind) (hp : party.length ≤ 1000) (ha : nums.length ≤ 70) (hb : texts.length ≤ 10)
    (hn : ∀ v ∈ nums, okI v) (ht : ∀ t ∈ texts, t.length ≤ 1000) {l t : List UInt8} (hl : cmdB kind party nums texts = l ++ t) (h : t ≠ []) : rEnd (cmdR l).2 ≠ 0 := by
  intro h0
  unfold rEnd at h0
  by_cases h1 : (cmdR l).2.e ≠ 0
  · rw [if_pos h1] at h0; exact h1 h0
  have h1' : (cmdR l).2.e = 0 := by omega
  rw [if_neg h1] at h0
  have h3 := cmdR_ext t h1'
  have h4 := cmdR_put hk hp ha hb hn ht []
  rw [List.append_nil, hl, h3] at h4
  simp only [Prod.mk.injEq, RS.mk.injEq, true_and, List.append_eq_nil_iff] at h4
  exact h h4.2.2
/-- A reply's bytes; a reply read. -/
def repB (err : Int) (nums : List Int) (texts : List (List UInt8)) : List UInt8 := numB err ++ putB nums texts
def repR (l : List UInt8) : (Int × (List Int × List (List UInt8))) × RS :=
  let k := rNum ⟨0, l⟩
  let g := rGet 2000 100 k.2
  ((k.1, g.1), g.2)
theorem repR_put {err : Int} {nums : List Int} {texts : List (List UInt8)} (hk : okI err) (ha : nums.length ≤ 2000) (hb : texts.length ≤ 100)
    (hn : ∀ v ∈ nums, okI v) (ht : ∀ t ∈ texts, t.length ≤ 1000) : repR (repB err nums texts) = ((err, (nums, texts)), ⟨0, []⟩) := by
  have e1 := rNum_put hk (putB nums texts)
  have e3 := rGet_put (a := 2000) (b := 100) (nums := nums) (texts := texts) (by omega) (by omega) hn ht (by omega) (by omega) []
  rw [List.append_nil] at e3
  simp only [repR, repB, e1, e3]
end Go.Proofs.YthlpdficpmdebaaGreat.Wire
