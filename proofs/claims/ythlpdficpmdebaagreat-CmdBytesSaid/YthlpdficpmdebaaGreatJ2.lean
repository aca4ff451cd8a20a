/- Plain mathematics of sets as bytes: what is put, what is read, and that what was put is got. -/
import Derived.Test.YthlpdficpmdebaaGreatWireMath
import Derived.Test.YthlpdficpmdebaaGreatJ0
import Derived.Test.YthlpdficpmdebaaGreatJ1
namespace Go.Proofs.YthlpdficpmdebaaGreat.Wire

/-- What a writer has put: its error, its bytes. -/
structure WS where
  e : Int
  l : List UInt8
def wNum (v : Int) (s : WS) : WS := if s.e ≠ 0 then s else ⟨0, s.l ++ numB v⟩
def wText (t : List UInt8) (s : WS) : WS := if s.e ≠ 0 then s else if 1000 < t.length then ⟨2, s.l⟩ else ⟨0, s.l ++ textB t⟩
structure LegD where
  id : Int
  qty : Int
structure PlD where
  asset : List UInt8
  qty : Int
structure TakeD where
  acc : List UInt8
  ccy : List UInt8
  amount : Int
  pl : List PlD
structure SetD where
  legs : List LegD
  takes : List TakeD
def wLeg (s : WS) (x : LegD) : WS := wNum x.qty (wNum x.id s)
def wPl (s : WS) (x : PlD) : WS := wNum x.qty (wText x.asset s)
def wTake (s : WS) (t : TakeD) : WS := t.pl.foldl wPl (wNum t.pl.length (wNum t.amount (wText t.ccy (wText t.acc s))))
def wSet (s : WS) (x : SetD) : WS := x.takes.foldl wTake (wNum x.takes.length (x.legs.foldl wLeg (wNum x.legs.length s)))
def wSets (s : WS) (l : List SetD) : WS := l.foldl wSet s

def rLeg (s : RS) : LegD × RS := let a := rNum s; let b := rNum a.2; (⟨a.1, b.1⟩, b.2)
def rPl (s : RS) : PlD × RS := let a := rText s; let b := rNum a.2; (⟨a.1, b.1⟩, b.2)
def rTake (s : RS) : TakeD × RS := let a := rText s; let b := rText a.2; let c := rNum b.2; let d := rCount 12 c.2; let p := rMany rPl d.1.toNat d.2; (⟨a.1, b.1, c.1, p.1⟩, p.2)
def rSet0 (s : RS) : SetD × RS := let a := rCount 120 s; let b := rMany rLeg a.1.toNat a.2; let c := rCount 20 b.2; let d := rMany rTake c.1.toNat c.2; (⟨b.1, d.1⟩, d.2)
def rSet (s : RS) : SetD × RS := (if (rSet0 s).2.e ≠ 0 then ⟨[], []⟩ else (rSet0 s).1, (rSet0 s).2)

/-! What was put without an error is got. -/
def legB (x : LegD) : List UInt8 := numB x.id ++ numB x.qty
def plB (x : PlD) : List UInt8 := textB x.asset ++ numB x.qty
def takeB (t : TakeD) : List UInt8 := textB t.acc ++ (textB t.ccy ++ (numB t.amount ++ (numB t.pl.length ++ (t.pl.map plB).flatten)))
def setB (x : SetD) : List UInt8 := numB x.legs.length ++ ((x.legs.map legB).flatten ++ (numB x.takes.length ++ (x.takes.map takeB).flatten))
def Good (f : WS → WS) (b : List UInt8) (c : Prop) : Prop := ∀ s, (f s).e = 0 → s.e = 0 ∧ c ∧ (f s).l = s.l ++ b
theorem good_num (v : Int) : Good (wNum v) (numB v) True := by
  intro s h
  unfold wNum at h ⊢
  by_cases h1 : s.e ≠ 0
  · rw [if_pos h1] at h; exact absurd h h1
  · rw [if_neg h1]; exact ⟨by omega, trivial, rfl⟩
theorem good_text (t : List UInt8) : Good (wText t) (textB t) (t.length ≤ 1000) := by
  intro s h
  unfold wText at h ⊢
  by_cases h1 : s.e ≠ 0
  · rw [if_pos h1] at h; exact absurd h h1
  · rw [if_neg h1] at h ⊢
    by_cases h2 : 1000 < t.length
    · rw [if_pos h2] at h; exact absurd h (by simp)
    · rw [if_neg h2]; exact ⟨by omega, by omega, rfl⟩
theorem Good.then {f g : WS → WS} {b d : List UInt8} {p q : Prop} (hf : Good f b p) (hg : Good g d q) : Good (fun s => g (f s)) (b ++ d) (p ∧ q) := by
  intro s h
  obtain ⟨h1, h2, h3⟩ := hg _ h
  obtain ⟨h4, h5, h6⟩ := hf _ h1
  exact ⟨h4, ⟨h5, h2⟩, by rw [h3, h6, List.append_assoc]⟩
theorem Good.fold {α : Type} {f : WS → α → WS} {b : α → List UInt8} {p : α → Prop} (h : ∀ x, Good (fun s => f s x) (b x) (p x)) : ∀ l : List α, Good (fun s => l.foldl f s) ((l.map b).flatten) (∀ x ∈ l, p x)
  | [] => fun s h => ⟨h, by simp, by simp⟩
  | x :: l => fun s hs => by
    obtain ⟨h1, h2, h3⟩ := Good.fold h l (f s x) hs
    obtain ⟨h4, h5, h6⟩ := h x s h1
    refine ⟨h4, fun y hy => ?_, ?_⟩
    · rcases List.mem_cons.1 hy with rfl | hy
      · exact h5
      · exact h2 y hy
    · have h6' : (f s x).l = s.l ++ b x := h6
      show ((l.foldl f (f s x))).l = _
      have h3' : (l.foldl f (f s x)).l = (f s x).l ++ (l.map b).flatten := h3
      rw [h3', h6', List.map_cons, List.flatten_cons, List.append_assoc]
theorem good_leg (x : LegD) : Good (fun s => wLeg s x) (legB x) (True ∧ True) := (good_num x.id).then (good_num x.qty)
theorem good_pl (x : PlD) : Good (fun s => wPl s x) (plB x) (x.asset.length ≤ 1000 ∧ True) := (good_text x.asset).then (good_num x.qty)
def TakeFit (t : TakeD) : Prop := t.acc.length ≤ 1000 ∧ t.ccy.length ≤ 1000 ∧ ∀ x ∈ t.pl, x.asset.length ≤ 1000
theorem good_take (t : TakeD) : Good (fun s => wTake s t) (takeB t) (TakeFit t) := by
  intro s h
  have h0 := ((((good_text t.acc).then (good_text t.ccy)).then (good_num t.amount)).then (good_num (t.pl.length : Int))).then (Good.fold good_pl t.pl) s h
  obtain ⟨h1, ⟨⟨⟨⟨h2, h3⟩, _⟩, _⟩, h4⟩, h5⟩ := h0
  refine ⟨h1, ⟨h2, h3, fun x hx => (h4 x hx).1⟩, ?_⟩
  have h5' : (wTake s t).l = s.l ++ (textB t.acc ++ textB t.ccy ++ numB t.amount ++ numB (t.pl.length : Int) ++ (t.pl.map plB).flatten) := h5
  show (wTake s t).l = _
  rw [h5', takeB]
  simp only [List.append_assoc]
theorem good_set (x : SetD) : Good (fun s => wSet s x) (setB x) (∀ t ∈ x.takes, TakeFit t) := by
  intro s h
  have h0 := (((good_num (x.legs.length : Int)).then (Good.fold good_leg x.legs)).then (good_num (x.takes.length : Int))).then (Good.fold good_take x.takes) s h
  obtain ⟨h1, ⟨_, h4⟩, h5⟩ := h0
  refine ⟨h1, h4, ?_⟩
  have h5' : (wSet s x).l = s.l ++ (numB (x.legs.length : Int) ++ (x.legs.map legB).flatten ++ numB (x.takes.length : Int) ++ (x.takes.map takeB).flatten) := h5
  show (wSet s x).l = _
  rw [h5', setB]
  simp only [List.append_assoc]
theorem good_sets (l : List SetD) : Good (fun s => wSets s l) ((l.map setB).flatten) (∀ x ∈ l, ∀ t ∈ x.takes, TakeFit t) := Good.fold good_set l

def LegOk (x : LegD) : Prop := okI x.id ∧ okI x.qty
def PlOk (x : PlD) : Prop := okI x.qty
def TakeOk (t : TakeD) : Prop := okI t.amount ∧ ∀ x ∈ t.pl, PlOk x
def SetOk (x : SetD) : Prop := (∀ y ∈ x.legs, LegOk y) ∧ ∀ t ∈ x.takes, TakeOk t
/-- Few enough to be read. -/
def SetFew (x : SetD) : Prop := x.legs.length ≤ 120 ∧ x.takes.length ≤ 20 ∧ ∀ t ∈ x.takes, t.pl.length ≤ 12
theorem rMany_put {α : Type} {f : RS → α × RS} {b : α → List UInt8} : ∀ (l : List α), (∀ x ∈ l, ∀ t, f ⟨0, b x ++ t⟩ = (x, ⟨0, t⟩)) → ∀ t, rMany f l.length ⟨0, (l.map b).flatten ++ t⟩ = (l, ⟨0, t⟩)
  | [], _, t => rfl
  | x :: l, h, t => by
    have h1 := h x (by simp) ((l.map b).flatten ++ t)
    have h2 := rMany_put l (fun u hu => h u (by simp [hu])) t
    simp only [List.length_cons, List.map_cons, List.flatten_cons, List.append_assoc, rMany, h1, h2]
theorem rLeg_put {x : LegD} (h : LegOk x) (t : List UInt8) : rLeg ⟨0, legB x ++ t⟩ = (x, ⟨0, t⟩) := by
  have e1 := rNum_put h.1 (numB x.qty ++ t)
  have e2 := rNum_put h.2 t
  simp only [rLeg, legB, List.append_assoc, e1, e2]
theorem rPl_put {x : PlD} (h : PlOk x) (h1 : x.asset.length ≤ 1000) (t : List UInt8) : rPl ⟨0, plB x ++ t⟩ = (x, ⟨0, t⟩) := by
  have e1 := rText_put h1 (numB x.qty ++ t)
  have e2 := rNum_put (v := x.qty) h t
  simp only [rPl, plB, List.append_assoc, e1, e2]
theorem rTake_put {x : TakeD} (h : TakeOk x) (h1 : TakeFit x) (h2 : x.pl.length ≤ 12) (t : List UInt8) : rTake ⟨0, takeB x ++ t⟩ = (x, ⟨0, t⟩) := by
  have e1 := rText_put h1.1 (textB x.ccy ++ (numB x.amount ++ (numB x.pl.length ++ ((x.pl.map plB).flatten ++ t))))
  have e2 := rText_put h1.2.1 (numB x.amount ++ (numB x.pl.length ++ ((x.pl.map plB).flatten ++ t)))
  have e3 := rNum_put h.1 (numB x.pl.length ++ ((x.pl.map plB).flatten ++ t))
  have e4 := rCount_put (most := 12) (n := x.pl.length) (by omega) (by omega) ((x.pl.map plB).flatten ++ t)
  have e5 := rMany_put (f := rPl) (b := plB) x.pl (fun y hy => rPl_put (h.2 y hy) (h1.2.2 y hy)) t
  simp only [rTake, takeB, List.append_assoc, e1, e2, e3, e4, Int.toNat_natCast, e5]
theorem rSet_put {x : SetD} (h : SetOk x) (h1 : ∀ t ∈ x.takes, TakeFit t) (h2 : SetFew x) (t : List UInt8) : rSet ⟨0, setB x ++ t⟩ = (x, ⟨0, t⟩) := by
  have e1 := rCount_put (most := 120) (n := x.legs.length) (by have := h2.1; omega) (by have := h2.1; omega) ((x.legs.map legB).flatten ++ (numB x.takes.length ++ ((x.takes.map takeB).flatten ++ t)))
  have e2 := rMany_put (f := rLeg) (b := legB) x.legs (fun y hy => rLeg_put (h.1 y hy)) (numB x.takes.length ++ ((x.takes.map takeB).flatten ++ t))
  have e3 := rCount_put (most := 20) (n := x.takes.length) (by have := h2.2.1; omega) (by have := h2.2.1; omega) ((x.takes.map takeB).flatten ++ t)
  have e4 := rMany_put (f := rTake) (b := takeB) x.takes (fun y hy => rTake_put (h.2 y hy) (h1 y hy) (h2.2.2 y hy)) t
  have e : rSet0 ⟨0, setB x ++ t⟩ = (x, ⟨0, t⟩) := by
    simp only [rSet0, setB, List.append_assoc, e1, e2, e3, e4, Int.toNat_natCast]
  simp only [rSet, e]
  rw [if_neg (by simp)]
/-! How many bytes there are. -/
theorem wNum_len {v : Int} (h : okI v) (s : WS) : (wNum v s).l.length ≤ s.l.length + 10 := by
  unfold wNum
  split
  · omega
  · have := vb_len10 (zz_lt h.1 h.2)
    simp only [List.length_append, numB]
    omega
theorem wText_len (t : List UInt8) (s : WS) : (wText t s).l.length ≤ s.l.length + 1010 := by
  unfold wText
  split
  · omega
  · split
    · show s.l.length ≤ _; omega
    · have := vb_len10 (zz_lt (v := (t.length : Int)) (by omega) (by omega))
      simp only [List.length_append, textB, numB]
      omega
theorem fold_len {α : Type} {f : WS → α → WS} {c : Nat} : ∀ (l : List α) (s : WS), (∀ x ∈ l, ∀ s, (f s x).l.length ≤ s.l.length + c) → (l.foldl f s).l.length ≤ s.l.length + c * l.length
  | [], s, _ => by simp
  | x :: l, s, h => by
    have h1 := h x (by simp) s
    have h2 := fold_len l (f s x) (fun y hy => h y (by simp [hy]))
    rw [List.length_cons, Nat.mul_add]
    show (l.foldl f (f s x)).l.length ≤ _
    omega
theorem wLeg_len {x : LegD} (h : LegOk x) (s : WS) : (wLeg s x).l.length ≤ s.l.length + 20 := by
  have h1 := wNum_len h.1 s
  have h2 := wNum_len h.2 (wNum x.id s)
  unfold wLeg
  omega
theorem wPl_len {x : PlD} (h : okI x.qty) (s : WS) : (wPl s x).l.length ≤ s.l.length + 1020 := by
  have h1 := wText_len x.asset s
  have h2 := wNum_len h (wText x.asset s)
  unfold wPl
  omega
theorem nat_ok {n : Nat} (h : n ≤ 1000000) : okI (n : Int) := ⟨by omega, by omega⟩
/-- A take, but for its pledges. -/
def wTake0 (t : TakeD) (s : WS) : WS := wNum t.pl.length (wNum t.amount (wText t.ccy (wText t.acc s)))
theorem wTake0_len {t : TakeD} (h : TakeOk t) (hn : t.pl.length ≤ 200) (s : WS) : (wTake0 t s).l.length ≤ s.l.length + 2040 := by
  have h1 := wText_len t.acc s
  have h2 := wText_len t.ccy (wText t.acc s)
  have h3 := wNum_len h.1 (wText t.ccy (wText t.acc s))
  have h4 := wNum_len (nat_ok (n := t.pl.length) (by omega)) (wNum t.amount (wText t.ccy (wText t.acc s)))
  unfold wTake0
  omega
theorem wTake_len {t : TakeD} (h : TakeOk t) (hn : t.pl.length ≤ 200) (s : WS) : (wTake s t).l.length ≤ s.l.length + 206040 := by
  have h1 := wTake0_len h hn s
  have h2 := fold_len (f := wPl) t.pl (wTake0 t s) (fun x hx => wPl_len (h.2 x hx))
  have e : wTake s t = t.pl.foldl wPl (wTake0 t s) := rfl
  rw [e]
  omega
theorem wSet_len {x : SetD} (h : SetOk x) (h1 : x.legs.length ≤ 200) (h2 : x.takes.length ≤ 200) (h3 : ∀ t ∈ x.takes, t.pl.length ≤ 200) (s : WS) : (wSet s x).l.length ≤ s.l.length + 50000000 := by
  have a1 := wNum_len (nat_ok (n := x.legs.length) (by omega)) s
  have a2 := fold_len (f := wLeg) x.legs (wNum x.legs.length s) (fun y hy => wLeg_len (h.1 y hy))
  have a3 := wNum_len (nat_ok (n := x.takes.length) (by omega)) (x.legs.foldl wLeg (wNum x.legs.length s))
  have a4 := fold_len (f := wTake) x.takes (wNum x.takes.length (x.legs.foldl wLeg (wNum x.legs.length s))) (fun t ht => wTake_len (h.2 t ht) (h3 t ht))
  unfold wSet
  omega
end Go.Proofs.YthlpdficpmdebaaGreat.Wire
/- (*wire.Writer).Num, as ChkNum. -/
namespace Go.Proofs.YthlpdficpmdebaaGreat.Wire
open Go Go.RowKit Go.Lib
/-- A row of its own type, or an old one. -/
def RowOk (B p n : Nat) (t : TypeId) (A : Option Addr) (w : World) : Prop := n ≤ 1 ∨ (∀ ad, A = some ad → ad.block < B) ∨ ∃ q cs, A = some ⟨q, 0, none⟩ ∧ q ≠ p ∧ w.heap[q]? = some (.cells cs t (0, 0))
set_option maxRecDepth 20000 in
theorem wnums_k (B p : Nat) (l : List UInt8) (A : Option Addr) (n c : Nat) (xs : List Int) (w : World) (h : Wr B p 0 l w) (hx : IntsAt w A xs) (hn : xs.length = n) (hs : RowOk B p n 3 A w)
    (hok : ∀ x ∈ xs, okI x) (hl : l.length + 10 * n ≤ 2000000000000) (hn2 : n ≤ 1000000000) :
    Calls Tryz.prog 32 #[.pointer (some ⟨p, 0, none⟩), .slice A n c] w fun en w' => (∃ u, en = .returned u) ∧ Wr B p 0 (l ++ (xs.map numB).flatten) w' ∧ Below B w w' ∧ Keeps p w w' := by
  have HW := Lib.hid h
  have HX := Lib.hid hx
  have HNN := Lib.hid hn
  have HS := Lib.hid hs
  have HOK := Lib.hid hok
  have HL := Lib.hid hl
  clear h hx hn hs hok hl
  go_enter Tryz.func32, Tryz.ntmps32
  go_wp2_with fail
  go_loopw [8] (fun i wr => ∃ k : Nat, i = .int .i64 k ∧ k ≤ n ∧ (k = 0 → wr = w) ∧ Wr B p 0 (l ++ ((xs.take k).map numB).flatten) wr ∧ Below B w wr ∧ Keeps p w wr) (fun i _ => n - (intOf i).toNat)
  case atStart => exact ⟨0, rfl, Nat.zero_le _, fun _ => rfl, by simpa using HW.out, Below.refl _ _, Keeps.refl _ _⟩
  case round =>
    obtain ⟨k, rfl, hk, hk0, hW, hb, hkp⟩ := hrel
    obtain ⟨d0, d1, d2⟩ := hW.cells
    have HK0 := Lib.hid hk0
    have HW1 := Lib.hid hW
    clear hk0 hW
    by_cases hlt : k < n
    · have hxl : k < xs.length := by have := HNN.out; omega
      obtain ⟨ad, hA, hcs⟩ := HX.out (by intro e0; rw [e0] at hxl; simp at hxl)
      subst hA
      have hxk : xs[k]? = some xs[k] := List.getElem?_eq_getElem hxl
      have hcell : wr.cell? (ad.add k) = some (.int .i64 xs[k]) := by
        by_cases hk1 : k = 0
        · rw [HK0.out hk1]; exact hcs _ _ hxk
        · rcases HS.out with hs | hs | ⟨q, cs, hq, hqp, hqh⟩
          · omega
          · rw [hb.cell (p := ad.add k) (by unfold Addr.add; split <;> exact hs ad rfl)]
            exact hcs _ _ hxk
          · cases hq
            have := hcs _ _ hxk
            rw [← this]
            exact cell_add_of_heap (hkp q cs _ hqh (by decide) hqp) _
      have HC := Lib.hid hcs
      have HXK := Lib.hid hxk
      have HOKk := Lib.hid (HOK.out _ (List.getElem_mem hxl))
      generalize xs[k] = x at hcell HXK HOKk
      clear hcs hxk
      go_wp2_with (first
        | (go_at_call 133; refine (wrong_any _ _ _ d0).mono ?_; rintro e w1 ⟨rfl, rfl⟩)
        | (go_at_call 134; refine (wnum_k B p 0 x _ _ HW1.out HOKk.out (by have h1 := HL.out; have h2 := flat_len (xs.take k) (fun y hy => HOK.out y (List.mem_of_mem_take hy)); simp only [List.length_append, List.length_take] at h2 ⊢; omega)).mono ?_; rintro e w1 ⟨⟨u, rfl⟩, hW1, hb1, hkp1⟩))
      go_roundw
      case rel => exact ⟨k + 1, by go_num, by omega, fun h => absurd h (by omega), by rw [flat_snoc numB xs k x HXK.out, ← List.append_assoc]; exact hW1, hb.trans hb1, hkp.trans hkp1⟩
      case measure => simp [intOf]; omega
    · go_wp2
      go_end0
      have h3 := HW1.out
      rw [List.take_of_length_le (by have := HNN.out; omega)] at h3
      exact ⟨⟨_, rfl⟩, h3, hb, hkp⟩
/-- A writer of which only a state without an error tells its bytes. -/
def WrS (B p : Nat) (s : WS) (w : World) : Prop := (s.e = 0 → Wr B p 0 s.l w) ∧ (s.e ≠ 0 → ∃ l, Wr B p s.e l w)
def wNums (xs : List Int) (s : WS) : WS := xs.foldl (fun s v => wNum v s) s
theorem wNums_bad {s : WS} (h : s.e ≠ 0) : ∀ xs, wNums xs s = s
  | [] => rfl
  | x :: xs => by
    have e : wNum x s = s := by rw [wNum, if_pos h]
    show wNums xs (wNum x s) = s
    rw [e]; exact wNums_bad h xs
theorem wNums_ok : ∀ (xs : List Int) (s : WS), s.e = 0 → wNums xs s = ⟨0, s.l ++ (xs.map numB).flatten⟩
  | [], s, h => by obtain ⟨e, l⟩ := s; have h' : e = 0 := h; subst h'; simp [wNums]
  | x :: xs, s, h => by
    have e : wNum x s = ⟨0, s.l ++ numB x⟩ := by rw [wNum, if_neg (by omega)]
    show wNums xs (wNum x s) = _
    rw [e, wNums_ok xs _ rfl]
    simp
theorem WrS.ok {B p : Nat} {s : WS} {w : World} (h : s.e = 0) (k : Wr B p 0 s.l w) : WrS B p s w := ⟨fun _ => k, fun h' => absurd h h'⟩
theorem WrS.bad {B p : Nat} {s : WS} {l : List UInt8} {w : World} (h : s.e ≠ 0) (k : Wr B p s.e l w) : WrS B p s w := ⟨fun h' => absurd h' h, fun _ => ⟨l, k⟩⟩
theorem wnums_s (B p : Nat) (s : WS) (A : Option Addr) (n c : Nat) (xs : List Int) (w : World) (h : WrS B p s w) (hx : IntsAt w A xs) (hn : xs.length = n) (hs : RowOk B p n 3 A w)
    (hok : ∀ x ∈ xs, okI x) (hl : s.e = 0 → s.l.length + 10 * n ≤ 2000000000000) (hn2 : n ≤ 1000000) :
    Calls Tryz.prog 32 #[.pointer (some ⟨p, 0, none⟩), .slice A n c] w fun en w' => (∃ u, en = .returned u) ∧ WrS B p (wNums xs s) w' ∧ Below B w w' ∧ Keeps p w w' := by
  by_cases he : s.e = 0
  · refine (wnums_k B p s.l A n c xs w (h.1 he) hx hn hs hok (hl he) (by omega)).mono ?_
    rintro e w' ⟨hu, hW, hb, hk⟩
    refine ⟨hu, ?_, hb, hk⟩
    rw [wNums_ok xs s he]
    exact .ok rfl hW
  · obtain ⟨l, hl⟩ := h.2 he
    refine (wnums_bad B p s.e he l A n c xs w hl hx hn hn2).mono ?_
    rintro e w' ⟨hu, rfl⟩
    refine ⟨hu, ?_, Below.refl _ _, Keeps.refl _ _⟩
    rw [wNums_bad he]
    exact h
end Go.Proofs.YthlpdficpmdebaaGreat.Wire
