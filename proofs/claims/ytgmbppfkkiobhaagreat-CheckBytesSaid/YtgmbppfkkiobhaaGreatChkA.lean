/- Plain mathematics of sets as bytes: what is put, what is read, and that what was put is got. -/
import Derived.Test.YtgmbppfkkiobhaaGreatWireA
namespace Go.Proofs.YtgmbppfkkiobhaaGreat.Wire

/-- What a writer has put: its error, its bytes. -/
structure WS where
  e : Int
  l : List UInt8
def wNum (v : Int) (s : WS) : WS := if s.e ≠ 0 then s else ⟨0, s.l ++ numB v⟩
def wText (t : List UInt8) (s : WS) : WS := if s.e ≠ 0 then s else if 1000 < t.length then ⟨2, s.l⟩ else ⟨0, s.l ++ textB t⟩
structure LegD where
  id : Int
  qty : Int
structure PlD where
  asset : List UInt8
  qty : Int
structure TakeD where
  acc : List UInt8
  ccy : List UInt8
  amount : Int
  pl : List PlD
structure SetD where
  legs : List LegD
  takes : List TakeD
def wLeg (s : WS) (x : LegD) : WS := wNum x.qty (wNum x.id s)
def wPl (s : WS) (x : PlD) : WS := wNum x.qty (wText x.asset s)
def wTake (s : WS) (t : TakeD) : WS := t.pl.foldl wPl (wNum t.pl.length (wNum t.amount (wText t.ccy (wText t.acc s))))
def wSet (s : WS) (x : SetD) : WS := x.takes.foldl wTake (wNum x.takes.length (x.legs.foldl wLeg (wNum x.legs.length s)))
def wSets (s : WS) (l : List SetD) : WS := l.foldl wSet s

def rLeg (s : RS) : LegD × RS := let a := rNum s; let b := rNum a.2; (⟨a.1, b.1⟩, b.2)
def rPl (s : RS) : PlD × RS := let a := rText s; let b := rNum a.2; (⟨a.1, b.1⟩, b.2)
def rTake (s : RS) : TakeD × RS := let a := rText s; let b := rText a.2; let c := rNum b.2; let d := rCount 12 c.2; let p := rMany rPl d.1.toNat d.2; (⟨a.1, b.1, c.1, p.1⟩, p.2)
def rSet0 (s : RS) : SetD × RS := let a := rCount 120 s; let b := rMany rLeg a.1.toNat a.2; let c := rCount 20 b.2; let d := rMany rTake c.1.toNat c.2; (⟨b.1, d.1⟩, d.2)
def rSet (s : RS) : SetD × RS := (if (rSet0 s).2.e ≠ 0 then ⟨[], []⟩ else (rSet0 s).1, (rSet0 s).2)

/-! What was put without an error is got. -/
def legB (x : LegD) : List UInt8 := numB x.id ++ numB x.qty
def plB (x : PlD) : List UInt8 := textB x.asset ++ numB x.qty
def takeB (t : TakeD) : List UInt8 := textB t.acc ++ (textB t.ccy ++ (numB t.amount ++ (numB t.pl.length ++ (t.pl.map plB).flatten)))
def setB (x : SetD) : List UInt8 := numB x.legs.length ++ ((x.legs.map legB).flatten ++ (numB x.takes.length ++ (x.takes.map takeB).flatten))
def Good (f : WS → WS) (b : List UInt8) (c : Prop) : Prop := ∀ s, (f s).e = 0 → s.e = 0 ∧ c ∧ (f s).l = s.l ++ b
theorem good_num (v : Int) : Good (wNum v) (numB v) True := by
  intro s h
  unfold wNum at h ⊢
  by_cases h1 : s.e ≠ 0
  · rw [if_pos h1] at h; exact absurd h h1
  · rw [if_neg h1]; exact ⟨by omega, trivial, rfl⟩
theorem good_text (t : List UInt8) : Good (wText t) (textB t) (t.length ≤ 1000) := by
  intro s h
  unfold wText at h ⊢
  by_cases h1 : s.e ≠ 0
  · rw [if_pos h1] at h; exact absurd h h1
  · rw [if_neg h1] at h ⊢
    by_cases h2 : 1000 < t.length
    · rw [if_pos h2] at h; exact absurd h (by simp)
    · rw [if_neg h2]; exact ⟨by omega, by omega, rfl⟩
theorem Good.then {f g : WS → WS} {b d : List UInt8} {p q : Prop} (hf : Good f b p) (hg : Good g d q) : Good (fun s => g (f s)) (b ++ d) (p ∧ q) := by
  intro s h
  obtain ⟨h1, h2, h3⟩ := hg _ h
  obtain ⟨h4, h5, h6⟩ := hf _ h1
  exact ⟨h4, ⟨h5, h2⟩, by rw [h3, h6, List.append_assoc]⟩
theorem Good.fold {α : Type} {f : WS → α → WS} {b : α → List UInt8} {p : α → Prop} (h : ∀ x, Good (fun s => f s x) (b x) (p x)) : ∀ l : List α, Good (fun s => l.foldl f s) ((l.map b).flatten) (∀ x ∈ l, p x)
  | [] => fun s h => ⟨h, by simp, by simp⟩
  | x :: l => fun s hs => by
    obtain ⟨h1, h2, h3⟩ := Good.fold h l (f s x) hs
    obtain ⟨h4, h5, h6⟩ := h x s h1
    refine ⟨h4, fun y hy => ?_, ?_⟩
    · rcases List.mem_cons.1 hy with rfl | hy
      · exact h5
      · exact h2 y hy
    · have h6' : (f s x).l = s.l ++ b x := h6
      show ((l.foldl f (f s x))).l = _
      have h3' : (l.foldl f (f s x)).l = (f s x).l ++ (l.map b).flatten := h3
      rw [h3', h6', List.map_cons, List.flatten_cons, List.append_assoc]
theorem good_leg (x : LegD) : Good (fun s => wLeg s x) (legB x) (True ∧ True) := (good_num x.id).then (good_num x.qty)
theorem good_pl (x : PlD) : Good (fun s => wPl s x) (plB x) (x.asset.length ≤ 1000 ∧ True) := (good_text x.asset).then (good_num x.qty)
def TakeFit (t : TakeD) : Prop := t.acc.length ≤ 1000 ∧ t.ccy.length ≤ 1000 ∧ ∀ x ∈ t.pl, x.asset.length ≤ 1000
theorem good_take (t : TakeD) : Good (fun s => wTake s t) (takeB t) (TakeFit t) := by
  intro s h
  have h0 := ((((good_text t.acc).then (good_text t.ccy)).then (good_num t.amount)).then (good_num (t.pl.length : Int))).then (Good.fold good_pl t.pl) s h
  obtain ⟨h1, ⟨⟨⟨⟨h2, h3⟩, _⟩, _⟩, h4⟩, h5⟩ := h0
  refine ⟨h1, ⟨h2, h3, fun x hx => (h4 x hx).1⟩, ?_⟩
  have h5' : (wTake s t).l = s.l ++ (textB t.acc ++ textB t.ccy ++ numB t.amount ++ numB (t.pl.length : Int) ++ (t.pl.map plB).flatten) := h5
  show (wTake s t).l = _
  rw [h5', takeB]
  simp only [List.append_assoc]
theorem good_set (x : SetD) : Good (fun s => wSet s x) (setB x) (∀ t ∈ x.takes, TakeFit t) := by
  intro s h
  have h0 := (((good_num (x.legs.length : Int)).then (Good.fold good_leg x.legs)).then (good_num (x.takes.length : Int))).then (Good.fold good_take x.takes) s h
  obtain ⟨h1, ⟨_, h4⟩, h5⟩ := h0
  refine ⟨h1, h4, ?_⟩
  have h5' : (wSet s x).l = s.l ++ (numB (x.legs.length : Int) ++ (x.legs.map legB).flatten ++ numB (x.takes.length : Int) ++ (x.takes.map takeB).flatten) := h5
  show (wSet s x).l = _
  rw [h5', setB]
  simp only [List.append_assoc]
theorem good_sets (l : List SetD) : Good (fun s => wSets s l) ((l.map setB).flatten) (∀ x ∈ l, ∀ t ∈ x.takes, TakeFit t) := Good.fold good_set l

def LegOk (x : LegD) : Prop := okI x.id ∧ okI x.qty
def PlOk (x : PlD) : Prop := okI x.qty
def TakeOk (t : TakeD) : Prop := okI t.amount ∧ ∀ x ∈ t.pl, PlOk x
def SetOk (x : SetD) : Prop := (∀ y ∈ x.legs, LegOk y) ∧ ∀ t ∈ x.takes, TakeOk t
/-- Few enough to be read. -/
def SetFew (x : SetD) : Prop := x.legs.length ≤ 120 ∧ x.takes.length ≤ 20 ∧ ∀ t ∈ x.takes, t.pl.length ≤ 12
theorem rMany_put {α : Type} {f : RS → α × RS} {b : α → List UInt8} : ∀ (l : List α), (∀ x ∈ l, ∀ t, f ⟨0, b x ++ t⟩ = (x, ⟨0, t⟩)) → ∀ t, rMany f l.length ⟨0, (l.map b).flatten ++ t⟩ = (l, ⟨0, t⟩)
  | [], _, t => rfl
  | x :: l, h, t => by
    have h1 := h x (by simp) ((l.map b).flatten ++ t)
    have h2 := rMany_put l (fun u hu => h u (by simp [hu])) t
    simp only [List.length_cons, List.map_cons, List.flatten_cons, List.append_assoc, rMany, h1, h2]
theorem rLeg_put {x : LegD} (h : LegOk x) (t : List UInt8) : rLeg ⟨0, legB x ++ t⟩ = (x, ⟨0, t⟩) := by
  have e1 := rNum_put h.1 (numB x.qty ++ t)
  have e2 := rNum_put h.2 t
  simp only [rLeg, legB, List.append_assoc, e1, e2]
theorem rPl_put {x : PlD} (h : PlOk x) (h1 : x.asset.length ≤ 1000) (t : List UInt8) : rPl ⟨0, plB x ++ t⟩ = (x, ⟨0, t⟩) := by
  have e1 := rText_put h1 (numB x.qty ++ t)
  have e2 := rNum_put (v := x.qty) h t
  simp only [rPl, plB, List.append_assoc, e1, e2]
theorem rTake_put {x : TakeD} (h : TakeOk x) (h1 : TakeFit x) (h2 : x.pl.length ≤ 12) (t : List UInt8) : rTake ⟨0, takeB x ++ t⟩ = (x, ⟨0, t⟩) := by
  have e1 := rText_put h1.1 (textB x.ccy ++ (numB x.amount ++ (numB x.pl.length ++ ((x.pl.map plB).flatten ++ t))))
  have e2 := rText_put h1.2.1 (numB x.amount ++ (numB x.pl.length ++ ((x.pl.map plB).flatten ++ t)))
  have e3 := rNum_put h.1 (numB x.pl.length ++ ((x.pl.map plB).flatten ++ t))
  have e4 := rCount_put (most := 12) (n := x.pl.length) (by omega) (by omega) ((x.pl.map plB).flatten ++ t)
  have e5 := rMany_put (f := rPl) (b := plB) x.pl (fun y hy => rPl_put (h.2 y hy) (h1.2.2 y hy)) t
  simp only [rTake, takeB, List.append_assoc, e1, e2, e3, e4, Int.toNat_natCast, e5]
theorem rSet_put {x : SetD} (h : SetOk x) (h1 : ∀ t ∈ x.takes, TakeFit t) (h2 : SetFew x) (t : List UInt8) : rSet ⟨0, setB x ++ t⟩ = (x, ⟨0, t⟩) := by
  have e1 := rCount_put (most := 120) (n := x.legs.length) (by have := h2.1; omega) (by have := h2.1; omega) ((x.legs.map legB).flatten ++ (numB x.takes.length ++ ((x.takes.map takeB).flatten ++ t)))
  have e2 := rMany_put (f := rLeg) (b := legB) x.legs (fun y hy => rLeg_put (h.1 y hy)) (numB x.takes.length ++ ((x.takes.map takeB).flatten ++ t))
  have e3 := rCount_put (most := 20) (n := x.takes.length) (by have := h2.2.1; omega) (by have := h2.2.1; omega) ((x.takes.map takeB).flatten ++ t)
  have e4 := rMany_put (f := rTake) (b := takeB) x.takes (fun y hy => rTake_put (h.2 y hy) (h1 y hy) (h2.2.2 y hy)) t
  have e : rSet0 ⟨0, setB x ++ t⟩ = (x, ⟨0, t⟩) := by
    simp only [rSet0, setB, List.append_assoc, e1, e2, e3, e4, Int.toNat_natCast]
  simp only [rSet, e]
  rw [if_neg (by simp)]
/-! How many bytes there are. -/
theorem wNum_len {v : Int} (h : okI v) (s : WS) : (wNum v s).l.length ≤ s.l.length + 10 := by
  unfold wNum
  split
  · omega
  · have := vb_len10 (zz_lt h.1 h.2)
    simp only [List.length_append, numB]
    omega
theorem wText_len (t : List UInt8) (s : WS) : (wText t s).l.length ≤ s.l.length + 1010 := by
  unfold wText
  split
  · omega
  · split
    · show s.l.length ≤ _; omega
    · have := vb_len10 (zz_lt (v := (t.length : Int)) (by omega) (by omega))
      simp only [List.length_append, textB, numB]
      omega
theorem fold_len {α : Type} {f : WS → α → WS} {c : Nat} : ∀ (l : List α) (s : WS), (∀ x ∈ l, ∀ s, (f s x).l.length ≤ s.l.length + c) → (l.foldl f s).l.length ≤ s.l.length + c * l.length
  | [], s, _ => by simp
  | x :: l, s, h => by
    have h1 := h x (by simp) s
    have h2 := fold_len l (f s x) (fun y hy => h y (by simp [hy]))
    rw [List.length_cons, Nat.mul_add]
    show (l.foldl f (f s x)).l.length ≤ _
    omega
theorem wLeg_len {x : LegD} (h : LegOk x) (s : WS) : (wLeg s x).l.length ≤ s.l.length + 20 := by
  have h1 := wNum_len h.1 s
  have h2 := wNum_len h.2 (wNum x.id s)
  unfold wLeg
  omega
theorem wPl_len {x : PlD} (h : okI x.qty) (s : WS) : (wPl s x).l.length ≤ s.l.length + 1020 := by
  have h1 := wText_len x.asset s
  have h2 := wNum_len h (wText x.asset s)
  unfold wPl
  omega
theorem nat_ok {n : Nat} (h : n ≤ 1000000) : okI (n : Int) := ⟨by omega, by omega⟩
/-- A take, but for its pledges. -/
def wTake0 (t : TakeD) (s : WS) : WS := wNum t.pl.length (wNum t.amount (wText t.ccy (wText t.acc s)))
theorem wTake0_len {t : TakeD} (h : TakeOk t) (hn : t.pl.length ≤ 200) (s : WS) : (wTake0 t s).l.length ≤ s.l.length + 2040 := by
  have h1 := wText_len t.acc s
  have h2 := wText_len t.ccy (wText t.acc s)
  have h3 := wNum_len h.1 (wText t.ccy (wText t.acc s))
  have h4 := wNum_len (nat_ok (n := t.pl.length) (by omega)) (wNum t.amount (wText t.ccy (wText t.acc s)))
  unfold wTake0
  omega
theorem wTake_len {t : TakeD} (h : TakeOk t) (hn : t.pl.length ≤ 200) (s : WS) : (wTake s t).l.length ≤ s.l.length + 206040 := by
  have h1 := wTake0_len h hn s
  have h2 := fold_len (f := wPl) t.pl (wTake0 t s) (fun x hx => wPl_len (h.2 x hx))
  have e : wTake s t = t.pl.foldl wPl (wTake0 t s) := rfl
  rw [e]
  omega
theorem wSet_len {x : SetD} (h : SetOk x) (h1 : x.legs.length ≤ 200) (h2 : x.takes.length ≤ 200) (h3 : ∀ t ∈ x.takes, t.pl.length ≤ 200) (s : WS) : (wSet s x).l.length ≤ s.l.length + 50000000 := by
  have a1 := wNum_len (nat_ok (n := x.legs.length) (by omega)) s
  have a2 := fold_len (f := wLeg) x.legs (wNum x.legs.length s) (fun y hy => wLeg_len (h.1 y hy))
  have a3 := wNum_len (nat_ok (n := x.takes.length) (by omega)) (x.legs.foldl wLeg (wNum x.legs.length s))
  have a4 := fold_len (f := wTake) x.takes (wNum x.takes.length (x.legs.foldl wLeg (wNum x.legs.length s))) (fun t ht => wTake_len (h.2 t ht) (h3 t ht))
  unfold wSet
  omega
end Go.Proofs.YtgmbppfkkiobhaaGreat.Wire
/- (*wire.Writer).num puts a number's bytes, and leaves every row that is none of bytes alone. -/
namespace Go.Proofs.YtgmbppfkkiobhaaGreat.Wire
open Go Go.RowKit Go.Lib
/-- All blocks of other types, but for the writer's, stay. -/
def Keeps (p : Nat) (w w' : World) : Prop := ∀ b cs t, w.heap[b]? = some (.cells cs t (0, 0)) → t ≠ 5 → b ≠ p → w'.heap[b]? = w.heap[b]?
theorem Keeps.refl (p : Nat) (w : World) : Keeps p w w := fun _ _ _ _ _ _ => rfl
theorem Keeps.trans {p : Nat} {a b c : World} (h : Keeps p a b) (k : Keeps p b c) : Keeps p a c := fun x cs t e n m => (k x cs t ((h x cs t e n m).trans e) n m).trans (h x cs t e n m)
theorem Keeps.put {p i : Nat} {w w1 : World} {o : Obj} {base size n : Nat} {v : Value} {xs : List Value} (hown : (w.alloc o).ownsRow base 5 size v n xs) (hg : (w.alloc o).grownBy w1 v.ownBlock) (u : Value) : Keeps p w (w1.setCell ⟨p, i, none⟩ u) := by
  intro b cs t hb hne hbp
  have h1 := (Below.heap_alloc w o b (blk_lt hb)).trans hb
  have h2 := (hg.block b (blk_lt h1) (fun hh => own_ne hown h1 (Ne.symm hne) hh.symm)).trans h1
  exact ((grownBy_setCell w1 p i u).block b (blk_lt h2) (fun e => hbp (Option.some.inj e))).trans (h2.trans hb.symm)
theorem Keeps.put0 {p i : Nat} {w w1 : World} {base size n : Nat} {v : Value} {xs : List Value} (hown : w.ownsRow base 5 size v n xs) (hg : w.grownBy w1 v.ownBlock) (u : Value) : Keeps p w (w1.setCell ⟨p, i, none⟩ u) := by
  intro b cs t hb hne hbp
  have h2 := (hg.block b (blk_lt hb) (fun hh => own_ne hown hb (Ne.symm hne) hh.symm)).trans hb
  exact ((grownBy_setCell w1 p i u).block b (blk_lt h2) (fun e => hbp (Option.some.inj e))).trans (h2.trans hb.symm)
theorem Keeps.set (p i : Nat) (w : World) (u : Value) : Keeps p w (w.setCell ⟨p, i, none⟩ u) := fun b _ _ hb _ hbp => (grownBy_setCell w p i u).block b (blk_lt hb) (fun e => hbp (Option.some.inj e))
theorem cell_of_heap {w w' : World} {b : Nat} (h : w'.heap[b]? = w.heap[b]?) (o : Nat) : w'.cell? ⟨b, o, none⟩ = w.cell? ⟨b, o, none⟩ := by simp only [World.cell?, h]
theorem cell_add_of_heap {w w' : World} {q : Nat} (h : w'.heap[q]? = w.heap[q]?) (k : Nat) : w'.cell? ((⟨q, 0, none⟩ : Addr).add k) = w.cell? ((⟨q, 0, none⟩ : Addr).add k) := by unfold Addr.add; split <;> exact cell_of_heap h _
set_option maxRecDepth 20000 in
theorem wnum_k (B p : Nat) (e v : Int) (l : List UInt8) (w : World) (h : Wr B p e l w) (hv : okI v) (hl : l.length ≤ 2000000000000) :
    Calls Tryz.prog 121 #[.pointer (some ⟨p, 0, none⟩), .int .i64 v] w fun en w' => (∃ u, en = .returned u) ∧ Wr B p e (l ++ numB v) w' ∧ Below B w w' ∧ Keeps p w w' := by
  obtain ⟨i0, hi0, hz0, hz1, hz2⟩ := info_parts u8_info
  obtain ⟨hB, vv, hp, hown, hne⟩ := h
  have c0 : w.cell? ⟨p, 0, none⟩ = some (.int .i64 e) := by rw [cell_p hp]; rfl
  have c1 : w.cell? ⟨p, 1, none⟩ = some vv := by rw [cell_p hp]; rfl
  have f1 : w.frozen? ⟨p, 1, none⟩ = false := frozen_p hp
  have HP := Lib.hid hp
  have HV := Lib.hid hv
  have HLL := Lib.hid hl
  clear hp hv hl
  go_enter Tryz.func121, Tryz.ntmps121
  go_wp2_with fail
  rw [xor_zz HV.out]
  have HZ := Lib.hid (zz_lt HV.out.1 HV.out.2)
  go_loopw [4] (fun n wr => ∃ (k : Nat) (l' : List UInt8), n = .int .u64 k ∧ k < 18446744073709551616 ∧ l' ++ vb k = l ++ numB v ∧ l'.length + (vb k).length ≤ 2000000000010 ∧ Wr B p e l' wr ∧ Below B w wr ∧ Keeps p w wr) (fun n _ => (intOf n).toNat)
  case atStart => exact ⟨zz v, l, rfl, HZ.out, rfl, by have := vb_len10 HZ.out; have := HLL.out; omega, ⟨hB, vv, HP.out, hown, hne⟩, Below.refl _ _, Keeps.refl _ _⟩
  case round =>
    obtain ⟨k, l', rfl, hk, hl', hlen, ⟨_, v1, hp1, hown1, hne1⟩, hb, hkp⟩ := hrel
    have d0 : wr.cell? ⟨p, 0, none⟩ = some (.int .i64 e) := by rw [cell_p hp1]; rfl
    have d1 : wr.cell? ⟨p, 1, none⟩ = some v1 := by rw [cell_p hp1]; rfl
    have g1 : wr.frozen? ⟨p, 1, none⟩ = false := frozen_p hp1
    have HP1 := Lib.hid hp1
    have HL := Lib.hid hl'
    have HK := Lib.hid hk
    have HN := Lib.hid hlen
    clear hp1 hl' hk hlen
    have hbs : B ≤ wr.heap.size := by have := blk_lt HP1.out; omega
    by_cases h7 : k < 128
    · go_wp2_with ((at_builtin
                    refine wpList_append_own_at _ rfl (.tmp 32) (.tmp 35) _ rfl B 5 i0 _ 1 1 Tryz.underlying28 hi0 hz0 hz1 hz2 rfl (by omega) v1 l'.length (byteCells l') rfl (hown1.alloc _) ⟨wr.heap.size, 0, none⟩ 1 1 [.int .u8 k] rfl rfl (cell_one_new _ _ _) (by simp [Value.oneCell']) (by have := HN.out; unfold maxLen; omega) (by have := HN.out; omega) (by simp; omega) ?_
                    intro v2 w2 hown2 hg2 _ hat2
                    obtain ⟨g2, cap2, rfl, hf2, hf3⟩ := hown2.form (by omega)
                    clear hat2
                    have hpa := (Below.heap_alloc wr (.cells #[.int .u8 (k : Int)] 5) p (blk_lt HP1.out)).trans HP1.out
                    have hp2 := (hg2.block p (blk_lt hpa) (fun hh => own_ne (hown1.alloc _) hpa (by decide) hh.symm)).trans hpa
                    have e1 : w2.cell? ⟨p, 1, none⟩ = some v1 := by rw [cell_p hp2]; rfl
                    have e2 : w2.frozen? ⟨p, 1, none⟩ = false := frozen_p hp2
                    have HP2 := Lib.hid hpa
                    clear hpa hp2))
      go_end0
      have hl2 : l' ++ [UInt8.ofNat k] = l ++ numB v := by rw [← HL.out, vb_small h7]
      refine ⟨⟨_, rfl⟩, ?_, (below_grown (hb.alloc hbs _) hg2 (by simp; omega) (own_ge hown1)).setCell (p := ⟨p, 1, none⟩) hB _, hkp.trans (Keeps.put (hown1.alloc _) hg2 _)⟩
      rw [← hl2]
      exact Wr.step [UInt8.ofNat k] hB HP2.out (hown1.alloc _) hown2 rfl (by simp [byteCells, byte_of (show k < 256 by omega)]) hg2
    · have h8 : 128 ≤ k := by omega
      go_wp2_with ((at_builtin
                    refine wpList_append_own_at _ rfl (.tmp 20) (.tmp 24) _ rfl B 5 i0 _ 1 1 Tryz.underlying28 hi0 hz0 hz1 hz2 rfl (by omega) v1 l'.length (byteCells l') rfl (hown1.alloc _) ⟨wr.heap.size, 0, none⟩ 1 1 [.int .u8 (bits .or .u8 ((k : Int) % 256) 128)] rfl rfl (cell_one_new _ _ _) (by simp [Value.oneCell']) (by have := HN.out; unfold maxLen; omega) (by have := HN.out; omega) (by simp; omega) ?_
                    intro v2 w2 hown2 hg2 _ hat2
                    obtain ⟨g2, cap2, rfl, hf2, hf3⟩ := hown2.form (by omega)
                    clear hat2
                    have hpa := (Below.heap_alloc wr (.cells #[.int .u8 (bits .or .u8 ((k : Int) % 256) 128)] 5) p (blk_lt HP1.out)).trans HP1.out
                    have hp2 := (hg2.block p (blk_lt hpa) (fun hh => own_ne (hown1.alloc _) hpa (by decide) hh.symm)).trans hpa
                    have e1 : w2.cell? ⟨p, 1, none⟩ = some v1 := by rw [cell_p hp2]; rfl
                    have e2 : w2.frozen? ⟨p, 1, none⟩ = false := frozen_p hp2
                    have HP2 := Lib.hid hpa
                    clear hpa hp2))
      go_roundw
      case rel =>
        have hvb := vb_big h7
        refine ⟨k / 128, l' ++ [UInt8.ofNat (k % 128 + 128)], by simp, by have := HK.out; omega, ?_, ?_, ?_, (below_grown (hb.alloc hbs _) hg2 (by simp; omega) (own_ge hown1)).setCell (p := ⟨p, 1, none⟩) hB _, hkp.trans (Keeps.put (hown1.alloc _) hg2 _)⟩
        · rw [← HL.out, hvb]; simp
        · have := HN.out; rw [hvb] at this; simp only [List.length_cons, List.length_append, List.length_nil] at this ⊢; omega
        · refine Wr.step [UInt8.ofNat (k % 128 + 128)] hB HP2.out (hown1.alloc _) hown2 rfl ?_ hg2
          have := byte_more k
          rw [wrap_u8] at this
          simp [byteCells, this]
      case measure => simp [intOf]; omega
end Go.Proofs.YtgmbppfkkiobhaaGreat.Wire
/- (*wire.Writer).Num, as ChkNum. -/
namespace Go.Proofs.YtgmbppfkkiobhaaGreat.Wire
open Go Go.RowKit Go.Lib
/-- A row of its own type, or an old one. -/
def RowOk (B p n : Nat) (t : TypeId) (A : Option Addr) (w : World) : Prop := n ≤ 1 ∨ (∀ ad, A = some ad → ad.block < B) ∨ ∃ q cs, A = some ⟨q, 0, none⟩ ∧ q ≠ p ∧ w.heap[q]? = some (.cells cs t (0, 0))
set_option maxRecDepth 20000 in
theorem wnums_k (B p : Nat) (l : List UInt8) (A : Option Addr) (n c : Nat) (xs : List Int) (w : World) (h : Wr B p 0 l w) (hx : IntsAt w A xs) (hn : xs.length = n) (hs : RowOk B p n 3 A w)
    (hok : ∀ x ∈ xs, okI x) (hl : l.length + 10 * n ≤ 2000000000000) (hn2 : n ≤ 1000000000) :
    Calls Tryz.prog 33 #[.pointer (some ⟨p, 0, none⟩), .slice A n c] w fun en w' => (∃ u, en = .returned u) ∧ Wr B p 0 (l ++ (xs.map numB).flatten) w' ∧ Below B w w' ∧ Keeps p w w' := by
  have HW := Lib.hid h
  have HX := Lib.hid hx
  have HNN := Lib.hid hn
  have HS := Lib.hid hs
  have HOK := Lib.hid hok
  have HL := Lib.hid hl
  clear h hx hn hs hok hl
  go_enter Tryz.func33, Tryz.ntmps33
  go_wp2_with fail
  go_loopw [8] (fun i wr => ∃ k : Nat, i = .int .i64 k ∧ k ≤ n ∧ (k = 0 → wr = w) ∧ Wr B p 0 (l ++ ((xs.take k).map numB).flatten) wr ∧ Below B w wr ∧ Keeps p w wr) (fun i _ => n - (intOf i).toNat)
  case atStart => exact ⟨0, rfl, Nat.zero_le _, fun _ => rfl, by simpa using HW.out, Below.refl _ _, Keeps.refl _ _⟩
  case round =>
    obtain ⟨k, rfl, hk, hk0, hW, hb, hkp⟩ := hrel
    obtain ⟨d0, d1, d2⟩ := hW.cells
    have HK0 := Lib.hid hk0
    have HW1 := Lib.hid hW
    clear hk0 hW
    by_cases hlt : k < n
    · have hxl : k < xs.length := by have := HNN.out; omega
      obtain ⟨ad, hA, hcs⟩ := HX.out (by intro e0; rw [e0] at hxl; simp at hxl)
      subst hA
      have hxk : xs[k]? = some xs[k] := List.getElem?_eq_getElem hxl
      have hcell : wr.cell? (ad.add k) = some (.int .i64 xs[k]) := by
        by_cases hk1 : k = 0
        · rw [HK0.out hk1]; exact hcs _ _ hxk
        · rcases HS.out with hs | hs | ⟨q, cs, hq, hqp, hqh⟩
          · omega
          · rw [hb.cell (p := ad.add k) (by unfold Addr.add; split <;> exact hs ad rfl)]
            exact hcs _ _ hxk
          · cases hq
            have := hcs _ _ hxk
            rw [← this]
            exact cell_add_of_heap (hkp q cs _ hqh (by decide) hqp) _
      have HC := Lib.hid hcs
      have HXK := Lib.hid hxk
      have HOKk := Lib.hid (HOK.out _ (List.getElem_mem hxl))
      generalize xs[k] = x at hcell HXK HOKk
      clear hcs hxk
      go_wp2_with (first
        | (go_at_call 17; refine (wrong_any _ _ _ d0).mono ?_; rintro e w1 ⟨rfl, rfl⟩)
        | (go_at_call 121; refine (wnum_k B p 0 x _ _ HW1.out HOKk.out (by have h1 := HL.out; have h2 := flat_len (xs.take k) (fun y hy => HOK.out y (List.mem_of_mem_take hy)); simp only [List.length_append, List.length_take] at h2 ⊢; omega)).mono ?_; rintro e w1 ⟨⟨u, rfl⟩, hW1, hb1, hkp1⟩))
      go_roundw
      case rel => exact ⟨k + 1, by go_num, by omega, fun h => absurd h (by omega), by rw [flat_snoc numB xs k x HXK.out, ← List.append_assoc]; exact hW1, hb.trans hb1, hkp.trans hkp1⟩
      case measure => simp [intOf]; omega
    · go_wp2
      go_end0
      have h3 := HW1.out
      rw [List.take_of_length_le (by have := HNN.out; omega)] at h3
      exact ⟨⟨_, rfl⟩, h3, hb, hkp⟩
/-- A writer of which only a state without an error tells its bytes. -/
def WrS (B p : Nat) (s : WS) (w : World) : Prop := (s.e = 0 → Wr B p 0 s.l w) ∧ (s.e ≠ 0 → ∃ l, Wr B p s.e l w)
def wNums (xs : List Int) (s : WS) : WS := xs.foldl (fun s v => wNum v s) s
theorem wNums_bad {s : WS} (h : s.e ≠ 0) : ∀ xs, wNums xs s = s
  | [] => rfl
  | x :: xs => by
    have e : wNum x s = s := by rw [wNum, if_pos h]
    show wNums xs (wNum x s) = s
    rw [e]; exact wNums_bad h xs
theorem wNums_ok : ∀ (xs : List Int) (s : WS), s.e = 0 → wNums xs s = ⟨0, s.l ++ (xs.map numB).flatten⟩
  | [], s, h => by obtain ⟨e, l⟩ := s; have h' : e = 0 := h; subst h'; simp [wNums]
  | x :: xs, s, h => by
    have e : wNum x s = ⟨0, s.l ++ numB x⟩ := by rw [wNum, if_neg (by omega)]
    show wNums xs (wNum x s) = _
    rw [e, wNums_ok xs _ rfl]
    simp
theorem WrS.ok {B p : Nat} {s : WS} {w : World} (h : s.e = 0) (k : Wr B p 0 s.l w) : WrS B p s w := ⟨fun _ => k, fun h' => absurd h h'⟩
theorem WrS.bad {B p : Nat} {s : WS} {l : List UInt8} {w : World} (h : s.e ≠ 0) (k : Wr B p s.e l w) : WrS B p s w := ⟨fun h' => absurd h' h, fun _ => ⟨l, k⟩⟩
theorem wnums_s (B p : Nat) (s : WS) (A : Option Addr) (n c : Nat) (xs : List Int) (w : World) (h : WrS B p s w) (hx : IntsAt w A xs) (hn : xs.length = n) (hs : RowOk B p n 3 A w)
    (hok : ∀ x ∈ xs, okI x) (hl : s.e = 0 → s.l.length + 10 * n ≤ 2000000000000) (hn2 : n ≤ 1000000) :
    Calls Tryz.prog 33 #[.pointer (some ⟨p, 0, none⟩), .slice A n c] w fun en w' => (∃ u, en = .returned u) ∧ WrS B p (wNums xs s) w' ∧ Below B w w' ∧ Keeps p w w' := by
  by_cases he : s.e = 0
  · refine (wnums_k B p s.l A n c xs w (h.1 he) hx hn hs hok (hl he) (by omega)).mono ?_
    rintro e w' ⟨hu, hW, hb, hk⟩
    refine ⟨hu, ?_, hb, hk⟩
    rw [wNums_ok xs s he]
    exact .ok rfl hW
  · obtain ⟨l, hl⟩ := h.2 he
    refine (wnums_bad B p s.e he l A n c xs w hl hx hn hn2).mono ?_
    rintro e w' ⟨hu, rfl⟩
    refine ⟨hu, ?_, Below.refl _ _, Keeps.refl _ _⟩
    rw [wNums_bad he]
    exact h
end Go.Proofs.YtgmbppfkkiobhaaGreat.Wire
/- (*wire.Writer).Text, as ChkNum. -/
namespace Go.Proofs.YtgmbppfkkiobhaaGreat.Wire
open Go Go.RowKit Go.Lib
/-- Text's end: all is put, or one is too long. -/
def TextK (B p : Nat) (l : List UInt8) (xs : List ByteArray) (w : World) (en : Ending) (w' : World) : Prop :=
  (∃ u, en = .returned u) ∧ Below B w w' ∧ Keeps p w w' ∧ (((∀ x ∈ xs, x.size ≤ 1000) ∧ Wr B p 0 (l ++ (xs.map tb).flatten) w') ∨ ((∃ x ∈ xs, 1000 < x.size) ∧ ∃ l', Wr B p 2 l' w'))
set_option maxRecDepth 20000 in
theorem wtexts_k (B p : Nat) (l : List UInt8) (A : Option Addr) (n c : Nat) (xs : List ByteArray) (w : World) (h : Wr B p 0 l w) (hx : TextsAt w A xs) (hn : xs.length = n) (hs : RowOk B p n 9 A w)
    (hmax : ∀ x ∈ xs, x.size ≤ maxLen) (hl : l.length + 1010 * n ≤ 1000000000000) (hn2 : n ≤ 1000000000) :
    Calls Tryz.prog 34 #[.pointer (some ⟨p, 0, none⟩), .slice A n c] w (TextK B p l xs w) := by
  obtain ⟨i0, hi0, hz0, hz1, hz2⟩ := info_parts u8_info
  have HW := Lib.hid h
  have HX := Lib.hid hx
  have HNN := Lib.hid hn
  have HS := Lib.hid hs
  have HM := Lib.hid hmax
  have HL := Lib.hid hl
  clear h hx hn hs hmax hl
  go_enter Tryz.func34, Tryz.ntmps34
  go_wp2_with fail
  go_loopw [8] (fun i wr => ∃ k : Nat, i = .int .i64 k ∧ k ≤ n ∧ (k = 0 → wr = w) ∧ (∀ x ∈ xs.take k, x.size ≤ 1000) ∧ Wr B p 0 (l ++ ((xs.take k).map tb).flatten) wr ∧ Below B w wr ∧ Keeps p w wr) (fun i _ => n - (intOf i).toNat)
  case atStart => exact ⟨0, rfl, Nat.zero_le _, fun _ => rfl, by simp, by simpa using HW.out, Below.refl _ _, Keeps.refl _ _⟩
  case round =>
    obtain ⟨k, rfl, hk, hk0, hfit, hW, hb, hkp⟩ := hrel
    obtain ⟨d0, d1, d2⟩ := hW.cells
    have HK0 := Lib.hid hk0
    have HF := Lib.hid hfit
    have HW1 := Lib.hid hW
    clear hk0 hW hfit
    by_cases hlt : k < n
    · have hxl : k < xs.length := by have := HNN.out; omega
      obtain ⟨ad, hA, hcs⟩ := HX.out (by intro e0; rw [e0] at hxl; simp at hxl)
      subst hA
      have hxk : xs[k]? = some xs[k] := List.getElem?_eq_getElem hxl
      have hcell : wr.cell? (ad.add k) = some (.string xs[k]) := by
        by_cases hk1 : k = 0
        · rw [HK0.out hk1]; exact hcs _ _ hxk
        · rcases HS.out with hs | hs | ⟨q, cs, hq, hqp, hqh⟩
          · omega
          · rw [hb.cell (p := ad.add k) (by unfold Addr.add; split <;> exact hs ad rfl)]
            exact hcs _ _ hxk
          · cases hq
            have := hcs _ _ hxk
            rw [← this]
            exact cell_add_of_heap (hkp q cs _ hqh (by decide) hqp) _
      have HC := Lib.hid hcs
      have HXK := Lib.hid hxk
      have HMk := Lib.hid (HM.out _ (List.getElem_mem hxl))
      have HIn := Lib.hid (List.getElem_mem hxl)
      generalize xs[k] = x at hcell HXK HMk HIn
      clear hcs hxk
      have HFL := Lib.hid (flat_tlen (xs.take k) HF.out)
      have HNB : Hid ((numB (x.size : Int)).length ≤ 10 ∨ 1000 < x.size) := by
        by_cases h9 : 1000 < x.size
        · exact .inr h9
        · exact .inl (vb_len10 (zz_lt (by omega) (by omega)))
      by_cases hlong : 1000 < x.size
      · go_wp2_with (first
          | (go_at_call 17; refine (wrong_any _ _ _ d0).mono ?_; rintro e w1 ⟨rfl, rfl⟩)
          | (go_at_call 122; refine (fail_any _ _ _ d0 d1).mono ?_; rintro e w1 ⟨⟨u, rfl⟩, rfl⟩))
        refine bodyPost_ret (results_none rfl _ _ _) rfl ?_
        exact ⟨⟨_, rfl⟩, hb.setCell (p := ⟨p, 0, none⟩) HW1.out.1 _, hkp.trans (Keeps.set p 0 wr _), .inr ⟨⟨x, HIn.out, hlong⟩, _, HW1.out.fail 2⟩⟩
      · go_wp2_with (first
          | (go_at_call 17; refine (wrong_any _ _ _ d0).mono ?_; rintro e w1 ⟨rfl, rfl⟩)
          | (go_at_call 121
             refine (wnum_k B p 0 (x.size : Int) _ _ HW1.out ⟨by omega, by omega⟩ (by have h1 := HL.out; have h2 := HFL.out; simp only [List.length_append, List.length_take] at h2 ⊢; omega)).mono ?_
             rintro e w1 ⟨⟨u, rfl⟩, ⟨_, v1, hp1, hown1, hne1⟩, hb1, hkp1⟩
             obtain ⟨N1, hN1⟩ : ∃ N, (l ++ (List.map tb (List.take k xs)).flatten ++ numB (x.size : Int)).length = N := ⟨_, rfl⟩
             rw [hN1] at hown1
             have HN1 := Lib.hid hN1
             clear hN1
             have e0 : w1.cell? ⟨p, 1, none⟩ = some v1 := (by rw [cell_p hp1]; rfl)
             have HP1 := Lib.hid hp1
             have hbs1 : B ≤ w1.heap.size := (by have := hb1.size; omega)
             clear hp1)
          | (at_builtin
             refine wpList_append_own_string _ rfl (.tmp 38) (.tmp 39) _ _ rfl B 5 i0 Tryz.underlying28 Tryz.underlying9 hi0 hz0 hz1 hz2 v1 _ _ rfl hown1 x rfl (by have h1 := HL.out; have h2 := HFL.out; have h3 := HNB.out; have h4 := HN1.out; simp only [List.length_append, List.length_take] at h2 h3 h4 ⊢; unfold maxLen; omega) (by have h1 := HL.out; have h2 := HFL.out; have h3 := HNB.out; have h4 := HN1.out; simp only [List.length_append, List.length_take] at h2 h3 h4 ⊢; omega) hbs1 ?_
             intro v2 w2 hown2 hg2 _
             obtain ⟨g2, cap2, rfl, hf2, hf3⟩ := hown2.form (by have := vb_pos (zz (x.size : Int)); have h4 := HN1.out; simp only [List.length_append, numB] at h4; omega)
             have hp2 := (hg2.block p (blk_lt HP1.out) (fun hh => own_ne hown1 HP1.out (by decide) hh.symm)).trans HP1.out
             have e1 : w2.cell? ⟨p, 1, none⟩ = some v1 := (by rw [cell_p hp2]; rfl)
             have e2 : w2.frozen? ⟨p, 1, none⟩ = false := frozen_p hp2
             clear hp2))
        go_roundw
        case rel =>
          have hst := Wr.step x.data.toList HW1.out.1 HP1.out (by rw [HN1.out]; exact hown1) hown2 (by rw [HN1.out, sz]) (by rw [strB]) hg2
          refine ⟨k + 1, by go_num, by omega, fun h => absurd h (by omega), ?_, ?_, (below_grown (hb.trans hb1) hg2 hbs1 (own_ge hown1)).setCell (p := ⟨p, 1, none⟩) HW1.out.1 _, (hkp.trans hkp1).trans (Keeps.put0 hown1 hg2 _)⟩
          · intro y hy
            rw [List.take_succ_eq_append_getElem hxl, List.mem_append] at hy
            rcases hy with hy | hy
            · exact HF.out y hy
            · have hxx : xs[k] = x := by have := HXK.out; rw [List.getElem?_eq_getElem hxl] at this; injection this
              rw [hxx, List.mem_singleton] at hy
              rw [hy]; omega
          · rw [flat_snoc tb xs k x HXK.out, ← List.append_assoc]
            rw [List.append_assoc] at hst
            have he : tb x = numB (x.size : Int) ++ x.data.toList := by rw [tb, textB, sz]
            rw [he]
            exact hst
        case measure => simp [intOf]; omega
    · go_wp2
      go_end0
      have h3 := HW1.out
      have h4 := HF.out
      rw [List.take_of_length_le (by have := HNN.out; omega)] at h3 h4
      exact ⟨⟨_, rfl⟩, hb, hkp, .inl ⟨h4, h3⟩⟩
def bl8 (s : ByteArray) : List UInt8 := s.data.toList
def wTexts (xs : List ByteArray) (s : WS) : WS := xs.foldl (fun s t => wText (bl8 t) s) s
theorem wTexts_bad {s : WS} (h : s.e ≠ 0) : ∀ xs, wTexts xs s = s
  | [] => rfl
  | x :: xs => by
    have e : wText (bl8 x) s = s := by rw [wText, if_pos h]
    show wTexts xs (wText (bl8 x) s) = s
    rw [e]; exact wTexts_bad h xs
theorem wTexts_ok : ∀ (xs : List ByteArray) (s : WS), s.e = 0 → (∀ x ∈ xs, x.size ≤ 1000) → wTexts xs s = ⟨0, s.l ++ (xs.map tb).flatten⟩
  | [], s, h, _ => by obtain ⟨e, l⟩ := s; have h' : e = 0 := h; subst h'; simp [wTexts]
  | x :: xs, s, h, hx => by
    have e : wText (bl8 x) s = ⟨0, s.l ++ tb x⟩ := by
      rw [wText, if_neg (by omega), if_neg (by have := hx x (by simp); have := sz x; unfold bl8; omega)]
      rfl
    show wTexts xs (wText (bl8 x) s) = _
    rw [e, wTexts_ok xs _ rfl (fun y hy => hx y (by simp [hy]))]
    simp
theorem wTexts_long : ∀ (xs : List ByteArray) (s : WS), s.e = 0 → (∃ x ∈ xs, 1000 < x.size) → (wTexts xs s).e = 2
  | [], _, _, ⟨x, hx, _⟩ => by simp at hx
  | x :: xs, s, h, hx => by
    show (wTexts xs (wText (bl8 x) s)).e = 2
    by_cases h1 : 1000 < x.size
    · have e : wText (bl8 x) s = ⟨2, s.l⟩ := by rw [wText, if_neg (by omega), if_pos (by have := sz x; unfold bl8; omega)]
      rw [e, wTexts_bad (by simp)]
    · have e : wText (bl8 x) s = ⟨0, s.l ++ textB (bl8 x)⟩ := by rw [wText, if_neg (by omega), if_neg (by have := sz x; unfold bl8; omega)]
      rw [e]
      refine wTexts_long xs _ rfl ?_
      obtain ⟨y, hy, hy2⟩ := hx
      rcases List.mem_cons.1 hy with rfl | hy
      · exact absurd hy2 h1
      · exact ⟨y, hy, hy2⟩
theorem wtexts_s (B p : Nat) (s : WS) (A : Option Addr) (n c : Nat) (xs : List ByteArray) (w : World) (h : WrS B p s w) (hx : TextsAt w A xs) (hn : xs.length = n) (hs : RowOk B p n 9 A w)
    (hmax : ∀ x ∈ xs, x.size ≤ maxLen) (hl : s.e = 0 → s.l.length + 1010 * n ≤ 1000000000000) (hn2 : n ≤ 1000000) :
    Calls Tryz.prog 34 #[.pointer (some ⟨p, 0, none⟩), .slice A n c] w fun en w' => (∃ u, en = .returned u) ∧ WrS B p (wTexts xs s) w' ∧ Below B w w' ∧ Keeps p w w' := by
  by_cases he : s.e = 0
  · refine (wtexts_k B p s.l A n c xs w (h.1 he) hx hn hs hmax (hl he) (by omega)).mono ?_
    rintro e w' ⟨hu, hb, hk, ⟨hfit, hW⟩ | ⟨hlong, l', hW⟩⟩
    · refine ⟨hu, ?_, hb, hk⟩
      rw [wTexts_ok xs s he hfit]
      exact .ok rfl hW
    · have h2 := wTexts_long xs s he hlong
      exact ⟨hu, .bad (l := l') (by rw [h2]; decide) (by rw [h2]; exact hW), hb, hk⟩
  · obtain ⟨l, hl⟩ := h.2 he
    refine (wtexts_bad B p s.e he l A n c xs w hl hx hn hn2).mono ?_
    rintro e w' ⟨hu, rfl⟩
    refine ⟨hu, ?_, Below.refl _ _, Keeps.refl _ _⟩
    rw [wTexts_bad he]
    exact h
end Go.Proofs.YtgmbppfkkiobhaaGreat.Wire
/- Sets in memory, and that they stay. -/
namespace Go.Proofs.YtgmbppfkkiobhaaGreat.Wire
open Go Go.RowKit Go.Lib
def str8 (l : List UInt8) : Value := .string ⟨l.toArray⟩
def LegsAt (w : World) (A : Option Addr) (xs : List LegD) : Prop := xs ≠ [] → ∃ ad, A = some ad ∧ ∀ j x, xs[j]? = some x → w.cell? (ad.add (j * 2)) = some (.int .i64 x.id) ∧ w.cell? (ad.add (j * 2 + 1)) = some (.int .i64 x.qty)
def PlsAt (w : World) (A : Option Addr) (xs : List PlD) : Prop := xs ≠ [] → ∃ ad, A = some ad ∧ ∀ j x, xs[j]? = some x → w.cell? (ad.add (j * 2)) = some (str8 x.asset) ∧ w.cell? (ad.add (j * 2 + 1)) = some (.int .i64 x.qty)
def TakeAt (w : World) (ad : Addr) (j : Nat) (x : TakeD) : Prop := ∃ Q n c, w.cell? (ad.add (j * 4)) = some (str8 x.acc) ∧ w.cell? (ad.add (j * 4 + 1)) = some (str8 x.ccy) ∧ w.cell? (ad.add (j * 4 + 2)) = some (.int .i64 x.amount) ∧ w.cell? (ad.add (j * 4 + 3)) = some (.slice Q n c) ∧ n = x.pl.length ∧ PlsAt w Q x.pl
def TakesAt (w : World) (A : Option Addr) (xs : List TakeD) : Prop := xs ≠ [] → ∃ ad, A = some ad ∧ ∀ j x, xs[j]? = some x → TakeAt w ad j x
def SetAt (w : World) (L : Option Addr) (n : Nat) (T : Option Addr) (m : Nat) (x : SetD) : Prop := n = x.legs.length ∧ LegsAt w L x.legs ∧ m = x.takes.length ∧ TakesAt w T x.takes
def SetsAt (w : World) (A : Option Addr) (xs : List SetD) : Prop := xs ≠ [] → ∃ ad, A = some ad ∧ ∀ j x, xs[j]? = some x → ∃ L n c T m d, w.cell? (ad.add (j * 2)) = some (.slice L n c) ∧ w.cell? (ad.add (j * 2 + 1)) = some (.slice T m d) ∧ SetAt w L n T m x
section
variable {w w' : World} (hb : Below w.heap.size w w')
include hb
theorem cell_below {p : Addr} {v : Value} (h : w.cell? p = some v) : w'.cell? p = some v := (hb.cell (World.block_lt_of_cell? w _ h)).trans h
theorem LegsAt.below {A : Option Addr} {xs : List LegD} (h : LegsAt w A xs) : LegsAt w' A xs := fun hne => by
  obtain ⟨ad, hA, hc⟩ := h hne
  exact ⟨ad, hA, fun j x hx => ⟨cell_below hb (hc j x hx).1, cell_below hb (hc j x hx).2⟩⟩
theorem PlsAt.below {A : Option Addr} {xs : List PlD} (h : PlsAt w A xs) : PlsAt w' A xs := fun hne => by
  obtain ⟨ad, hA, hc⟩ := h hne
  exact ⟨ad, hA, fun j x hx => ⟨cell_below hb (hc j x hx).1, cell_below hb (hc j x hx).2⟩⟩
theorem TakeAt.below {ad : Addr} {j : Nat} {x : TakeD} (h : TakeAt w ad j x) : TakeAt w' ad j x := by
  obtain ⟨Q, n, c, h0, h1, h2, h3, h4, h5⟩ := h
  exact ⟨Q, n, c, cell_below hb h0, cell_below hb h1, cell_below hb h2, cell_below hb h3, h4, PlsAt.below hb h5⟩
theorem TakesAt.below {A : Option Addr} {xs : List TakeD} (h : TakesAt w A xs) : TakesAt w' A xs := fun hne => by
  obtain ⟨ad, hA, hc⟩ := h hne
  exact ⟨ad, hA, fun j x hx => TakeAt.below hb (hc j x hx)⟩
theorem SetAt.below {L T : Option Addr} {n m : Nat} {x : SetD} (h : SetAt w L n T m x) : SetAt w' L n T m x := ⟨h.1, LegsAt.below hb h.2.1, h.2.2.1, TakesAt.below hb h.2.2.2⟩
theorem SetsAt.below {A : Option Addr} {xs : List SetD} (h : SetsAt w A xs) : SetsAt w' A xs := fun hne => by
  obtain ⟨ad, hA, hc⟩ := h hne
  refine ⟨ad, hA, fun j x hx => ?_⟩
  obtain ⟨L, n, c, T, m, d, h0, h1, h2⟩ := hc j x hx
  exact ⟨L, n, c, T, m, d, cell_below hb h0, cell_below hb h1, SetAt.below hb h2⟩
end
/-- Few enough, and of fit numbers and texts, to be put. -/
def PlIn (x : PlD) : Prop := okI x.qty ∧ x.asset.length ≤ maxLen
def TakeIn (t : TakeD) : Prop := okI t.amount ∧ t.acc.length ≤ maxLen ∧ t.ccy.length ≤ maxLen ∧ t.pl.length ≤ 200 ∧ ∀ x ∈ t.pl, PlIn x
def SetIn (x : SetD) : Prop := x.legs.length ≤ 200 ∧ x.takes.length ≤ 200 ∧ (∀ y ∈ x.legs, LegOk y) ∧ ∀ t ∈ x.takes, TakeIn t
end Go.Proofs.YtgmbppfkkiobhaaGreat.Wire
