/- What was put is got: the calls of cmd.Get and cmd.GetReply on what was put. -/
import Derived.Test.YtfpaofeonlfnfaaGreatWireLight
namespace Go.Proofs.YtfpaofeonlfnfaaGreat.Wire
open Go Go.RowKit Go.Lib
theorem bas_bl (texts : List ByteArray) : bas (texts.map bl) = texts := by
  simp only [bas, List.map_map]
  conv => rhs; rw [← List.map_id texts]
  apply List.map_congr_left
  intro x _
  simp [bl]
theorem ba_bl (x : ByteArray) : (⟨(bl x).toArray⟩ : ByteArray) = x := by simp [bl]
theorem bl_mk (l : List UInt8) : bl ⟨l.toArray⟩ = l := by simp [bl]
theorem bl_app (a b : ByteArray) : bl (a ++ b) = bl a ++ bl b := by simp [bl]
theorem size_mk (l : List UInt8) : (⟨l.toArray⟩ : ByteArray).size = l.length := by simp [ByteArray.size]
theorem bl_size (b : ByteArray) : (bl b).length = b.size := by rw [bl, Array.length_toList]; rfl
structure Fit (kind : Int) (party : ByteArray) (nums : List Int) (texts : List ByteArray) : Prop where
  k : okI kind
  p : party.size ≤ 1000
  n : nums.length ≤ 70
  m : texts.length ≤ 10
  ok : ∀ x ∈ nums, okI x
  t : ∀ x ∈ texts, x.size ≤ 1000
theorem texts_le {texts : List ByteArray} (h : ∀ x ∈ texts, x.size ≤ 1000) : ∀ t ∈ texts.map bl, t.length ≤ 1000 := by
  intro t ht
  obtain ⟨x, hx, rfl⟩ := List.mem_map.1 ht
  rw [bl_size]
  exact h x hx
theorem Fit.got {kind : Int} {party : ByteArray} {nums : List Int} {texts : List ByteArray} (h : Fit kind party nums texts) (t : List UInt8) :
    cmdR (cmdB kind (bl party) nums (texts.map bl) ++ t) = (((kind, bl party), (nums, texts.map bl)), ⟨0, t⟩) :=
  cmdR_put h.k (by rw [bl_size]; exact h.p) h.n (by simpa using h.m) h.ok (texts_le h.t) t
theorem putB_len {nums : List Int} {texts : List ByteArray} (hn : nums.length ≤ 2000) (hm : texts.length ≤ 100) (hok : ∀ x ∈ nums, okI x) (ht : ∀ x ∈ texts, x.size ≤ 1000) : (putB nums (texts.map bl)).length ≤ 130000 := by
  have h1 := flat_len nums hok
  have h2 := flat_tlen texts ht
  have h3 := vb_len10 (zz_lt (v := (nums.length : Int)) (by omega) (by omega))
  have h4 := vb_len10 (zz_lt (v := ((texts.map bl).length : Int)) (by omega) (by simp only [List.length_map]; omega))
  rw [map_tb] at h2
  simp only [putB, List.length_append, numB] at h3 h4 ⊢
  omega
theorem Fit.len {kind : Int} {party : ByteArray} {nums : List Int} {texts : List ByteArray} (h : Fit kind party nums texts) : (cmdB kind (bl party) nums (texts.map bl)).length ≤ 140000 := by
  have h1 := putB_len (nums := nums) (texts := texts) (by have := h.n; omega) (by have := h.m; omega) h.ok h.t
  have h2 := tb_len party h.p
  have h3 := vb_len10 (zz_lt h.k.1 h.k.2)
  simp only [cmdB, List.length_append, numB] at h3 ⊢
  have e : (tb party).length = (textB (bl party)).length := rfl
  omega
theorem cmdB_pos (kind : Int) (party : List UInt8) (nums : List Int) (texts : List (List UInt8)) : 0 < (cmdB kind party nums texts).length := by
  have := vb_pos (zz kind)
  simp only [cmdB, List.length_append, numB]
  omega
theorem getC_put (kind : Int) (party : ByteArray) (nums : List Int) (texts : List ByteArray) (h : Fit kind party nums texts) (w : World) :
    Calls Tryz.prog 21 #[.string ⟨(cmdB kind (bl party) nums (texts.map bl)).toArray⟩] w fun en w' => Below w.heap.size w w' ∧ ∃ B1 d1 B2 d2,
      en = .returned (.tuple #[.agg #[.int .i64 kind, .string party, .slice B1 nums.length d1, .slice B2 texts.length d2], .int .i64 0]) ∧ IntsAt w' B1 nums ∧ TextsAt w' B2 texts := by
  refine (getC_any _ w (by rw [size_mk]; have := h.len; omega)).mono ?_
  have hg := h.got []
  rw [List.append_nil] at hg
  rintro en w' ⟨hb, hh⟩
  rw [bl_mk, hg] at hh
  refine ⟨hb, ?_⟩
  rcases hh with ⟨_, v1, v2, n1, n2, he, hn1, ho1, hn2, ho2⟩ | ⟨hne, _⟩
  · obtain ⟨B1, d1, rfl⟩ := own_form ho1
    obtain ⟨B2, d2, rfl⟩ := own_form ho2
    have e1 : n1 = nums.length := hn1.symm
    have e2 : n2 = texts.length := by
      have h2 : (texts.map bl).length = n2 := hn2
      simpa using h2.symm
    subst e1
    subst e2
    refine ⟨B1, d1, B2, d2, ?_, IntsAt.own ho1, ?_⟩
    · rw [he, ba_bl]
    · have := TextsAt.own ho2
      rw [bas_bl] at this
      exact this
  · exact absurd (by simp [rEnd]) hne
theorem getC_more (kind : Int) (party : ByteArray) (nums : List Int) (texts : List ByteArray) (h : Fit kind party nums texts) (mo : ByteArray) (hm : mo.size ≤ 300) (h0 : 0 < mo.size) (w : World) :
    Calls Tryz.prog 21 #[.string (⟨(cmdB kind (bl party) nums (texts.map bl)).toArray⟩ ++ mo)] w fun en w' => Below w.heap.size w w' ∧ en = .returned (.tuple #[.agg cmd0, .int .i64 4]) := by
  refine (getC_any _ w (by rw [ByteArray.size_append, size_mk]; have := h.len; omega)).mono ?_
  have hg := h.got (bl mo)
  have hne : bl mo ≠ [] := by intro e; have := bl_size mo; rw [e] at this; simp at this; omega
  rintro en w' ⟨hb, hh⟩
  rw [bl_app, bl_mk, hg] at hh
  have hr : rEnd (⟨0, bl mo⟩ : RS) = 4 := by simp [rEnd, hne]
  refine ⟨hb, ?_⟩
  rcases hh with ⟨he, _⟩ | ⟨_, he⟩
  · rw [hr] at he; exact absurd he (by decide)
  · rw [he, hr]
theorem getC_less (kind : Int) (party : ByteArray) (nums : List Int) (texts : List ByteArray) (h : Fit kind party nums texts) (b : ByteArray) (t : List UInt8) (ht : t ≠ []) (hb0 : cmdB kind (bl party) nums (texts.map bl) = bl b ++ t) (w : World) :
    Calls Tryz.prog 21 #[.string b] w fun en w' => Below w.heap.size w w' ∧ ∃ E : Int, E ≠ 0 ∧ en = .returned (.tuple #[.agg cmd0, .int .i64 E]) := by
  refine (getC_any _ w (by have := h.len; rw [hb0, List.length_append, bl_size] at this; omega)).mono ?_
  have hg : rEnd (cmdR (bl b)).2 ≠ 0 := cmdR_less h.k (by rw [bl_size]; exact h.p) h.n (by simpa using h.m) h.ok (texts_le h.t) hb0 ht
  rintro en w' ⟨hb, hh⟩
  refine ⟨hb, ?_⟩
  rcases hh with ⟨he, _⟩ | ⟨_, he⟩
  · exact absurd he hg
  · exact ⟨_, hg, he⟩
theorem getR_put (err : Int) (nums : List Int) (texts : List ByteArray) (hk : okI err) (hn : nums.length ≤ 2000) (hm : texts.length ≤ 100) (hok : ∀ x ∈ nums, okI x) (ht : ∀ x ∈ texts, x.size ≤ 1000) (w : World) :
    Calls Tryz.prog 25 #[.string ⟨(repB err nums (texts.map bl)).toArray⟩] w fun en w' => Below w.heap.size w w' ∧ ∃ B1 d1 B2 d2,
      en = .returned (.tuple #[.agg #[.int .i64 err, .slice B1 nums.length d1, .slice B2 texts.length d2], .int .i64 0]) ∧ IntsAt w' B1 nums ∧ TextsAt w' B2 texts := by
  refine (getR_any _ w (by
    rw [size_mk]
    have h1 := putB_len hn hm hok ht
    have h3 := vb_len10 (zz_lt hk.1 hk.2)
    simp only [repB, List.length_append, numB] at h3 ⊢
    omega)).mono ?_
  have hg := repR_put hk hn (texts := texts.map bl) (by simpa using hm) hok (texts_le ht)
  rintro en w' ⟨hb, hh⟩
  rw [bl_mk, hg] at hh
  refine ⟨hb, ?_⟩
  rcases hh with ⟨_, v1, v2, n1, n2, he, hn1, ho1, hn2, ho2⟩ | ⟨hne, _⟩
  · obtain ⟨B1, d1, rfl⟩ := own_form ho1
    obtain ⟨B2, d2, rfl⟩ := own_form ho2
    have e1 : n1 = nums.length := hn1.symm
    have e2 : n2 = texts.length := by
      have h2 : (texts.map bl).length = n2 := hn2
      simpa using h2.symm
    subst e1
    subst e2
    refine ⟨B1, d1, B2, d2, he, IntsAt.own ho1, ?_⟩
    have := TextsAt.own ho2
    rw [bas_bl] at this
    exact this
  · exact absurd (by simp [rEnd]) hne
end Go.Proofs.YtfpaofeonlfnfaaGreat.Wire
