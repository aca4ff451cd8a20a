/- CmdBytes: the law is walked. -/
import Derived.Test.YthlpdficpmdebaaGreatJ8
import Derived.Test.YthlpdficpmdebaaGreatByApart
import Derived.Test.YthlpdficpmdebaaGreatJ11
import Derived.Test.YthlpdficpmdebaaGreatByGet
import Derived.Test.YthlpdficpmdebaaGreatJ13
import Derived.Test.YthlpdficpmdebaaGreatJ15
import Derived.Deep.RegionHeld3
import Derived.Deep.DeepCutAuto
namespace Go.Proofs.YthlpdficpmdebaaGreat.Wire
open Go Go.RowKit Go.Lib
theorem sb_drew {a w : World} (h : Below a.heap.size a w) : Below a.heap.size a w.drew := ⟨h.os, h.tape, h.output, h.size, h.block⟩
theorem sb_step {a s d : World} (h : Below a.heap.size a s) (hb : Below s.heap.size s d) : Below a.heap.size a d := h.trans (hb.mono h.size)
theorem below_none {a b : World} (h : a.grownBy b none) : Below a.heap.size a b := below_grown (Below.refl _ a) h (Nat.le_refl _) (fun g e => by cases e)
theorem set_2 {w : World} {p : Nat} {kind : Int} {party : ByteArray} {A : Option Addr} {n c : Nat} {A' : Option Addr} {m c' : Nat} (h : w.heap[p]? = some (cmdBox kind party A n c A' m c')) (B : Option Addr) {d : Nat} :
    (w.setCell ⟨p, 2, none⟩ (.slice B n d)).heap[p]? = some (cmdBox kind party B n d A' m c') := Go.Lib.heap_setCell_same (i := 2) h _
theorem set_3 {w : World} {p : Nat} {kind : Int} {party : ByteArray} {A : Option Addr} {n c : Nat} {A' : Option Addr} {m c' : Nat} (h : w.heap[p]? = some (cmdBox kind party A n c A' m c')) (B : Option Addr) {d : Nat} :
    (w.setCell ⟨p, 3, none⟩ (.slice B m d)).heap[p]? = some (cmdBox kind party A n c B m d) := Go.Lib.heap_setCell_same (i := 3) h _
/-- The command that is lent: its lists are copies behind which a mark stands. -/
structure LawM (w wx : World) (bq p : Nat) (kind : Int) (party : ByteArray) (A : Option Addr) (n c : Nat) (nums : List Int) (A' : Option Addr) (m c' : Nat) (texts : List ByteArray) (err : Int) (R : Option Addr) (rn rc : Nat) (R' : Option Addr) (rm rc' : Nat) : Prop where
  b : Below w.heap.size w wx
  c : wx.heap[bq]? = some (cmdBox kind party A n c A' m c')
  r : wx.heap[bq + 1]? = some (repBox err R rn rc R' rm rc')
  ex : ∃ g3 c3 g4 c4, wx.heap[p]? = some (cmdBox kind party (some ⟨g3, 0, none⟩) n c3 (some ⟨g4, 0, none⟩) m c4) ∧ wx.ownsRow w.heap.size 3 1 (.slice (some ⟨g3, 0, none⟩) (n + 1) c3) (n + 1) (ints nums ++ [.int .i64 (-77)]) ∧ wx.ownsRow w.heap.size 9 1 (.slice (some ⟨g4, 0, none⟩) (m + 1) c4) (m + 1) (strV texts ++ [.string ⟨#[109, 97, 114, 107]⟩])
/-- The rows of a book in which nothing lies yet. -/
def bk4 : List Row := [noRow 22, noRow 22, noRow 23, noRow 23]
theorem mem4 (B : Nat) (w : World) : Mem B bk4 [] w := by
  have key : ∀ (i : Nat) (a : Row), bk4[i]? = some a → a.v = .slice none 0 0 ∧ a.n = 0 ∧ a.xs = [] := by
    intro i a e
    have hm := List.mem_of_getElem? e
    simp only [bk4, List.mem_cons, List.not_mem_nil, or_false] at hm
    rcases hm with rfl | rfl | rfl | rfl <;> exact ⟨rfl, rfl, rfl⟩
  refine ⟨fun i a e => ?_, fun i j a b _ e _ => ?_, fun b h => (by cases h), fun i a e b h => (by cases h)⟩
  · obtain ⟨h1, h2, h3⟩ := key i a e
    unfold Row.at
    rw [h1, h2, h3]
    exact World.ownsRow_nil _ _ _ _
  · obtain ⟨h1, _⟩ := key i a e
    exact .inl (by rw [h1]; rfl)
theorem Mem.rd1 {B : Nat} {l r : List Row} {w : World} (h : Mem B l r w) {b : Row} (hb : b.at B w) (ho : ∀ (i : Nat) (a : Row), l[i]? = some a → a.off b) : Mem B l (b :: r) w := by
  refine ⟨h.own, h.off, fun d hd => ?_, fun i a e d hd => ?_⟩
  · rcases List.mem_cons.1 hd with rfl | h1
    · exact hb
    · exact h.rd d h1
  · rcases List.mem_cons.1 hd with rfl | h1
    · exact ho i a e
    · exact h.far i a e d h1
/-- A box told as a row. -/
def boxRow (t : TypeId) (g : Nat) (xs : List Value) : Row := ⟨t, .slice (some ⟨g, 0, none⟩) xs.length xs.length, xs.length, xs⟩
theorem box_row {B g : Nat} {w : World} {t : TypeId} {xs : List Value} (h : w.heap[g]? = some (.cells xs.toArray t (0, 0))) (hB : B ≤ g) (hx : xs.length ≤ maxLen) : (boxRow t g xs).at B w :=
  ⟨by simp [boxRow], .inr ⟨g, xs.length, xs.toArray, rfl, hB, h, Nat.le_refl _, hx, by simp, by simp [boxRow]⟩⟩
theorem row_box {B g : Nat} {w : World} {t : TypeId} {xs : List Value} (h : (boxRow t g xs).at B w) : w.heap[g]? = some (.cells xs.toArray t (0, 0)) := by
  rcases h.2 with ⟨h1, _⟩ | ⟨g1, cap, cur, e1, _, e3, e4, _, e6, e7⟩
  · cases h1
  · simp only [boxRow] at e1 e3 e4 e6 e7
    cases e1
    have hc : cur.toList = xs := by
      rw [← e7, List.take_of_length_le (by simp; omega)]
    rw [e3, ← hc]
theorem Mem.rdBox {B g : Nat} {l r : List Row} {w : World} (h : Mem B l r w) {t : TypeId} {xs : List Value} (hg : w.heap[g]? = some (.cells xs.toArray t (0, 0))) (hB : B ≤ g) (hx : xs.length ≤ maxLen) (hl : l.all (fun a => a.t != t) = true) : Mem B l (boxRow t g xs :: r) w := by
  have hb := box_row (B := B) hg hB hx
  refine h.rd1 hb (fun i a e => (off_of_type hb (h.own i a e) ?_).symm)
  have := List.all_eq_true.1 hl a (List.mem_of_getElem? e)
  intro e2
  rw [← e2] at this
  simp [boxRow] at this
theorem noBk_all {l r : List Row} (h1 : l.all (fun a => a.t != 76) = true) (h2 : r.all (fun a => a.t != 76) = true) : NoBk l r := by
  refine ⟨fun i a e => ?_, fun b hb => ?_⟩
  · have := List.all_eq_true.1 h1 a (List.mem_of_getElem? e)
    simpa using this
  · have := List.all_eq_true.1 h2 b hb
    simpa using this
theorem Mem.nord {B : Nat} {l r : List Row} {w : World} (h : Mem B l r w) : Mem B l [] w := ⟨h.own, h.off, fun b hb => (by cases hb), fun i a e b hb => (by cases hb)⟩
theorem own_old {w w' : World} {B n : Nat} {e : TypeId} {v : Value} {us : List Value} (h : w.ownsRow B e 1 v n us) (hg : w.grownBy w' none) : w'.ownsRow B e 1 v n us :=
  h.kept hg (by cases v.ownBlock <;> simp)
theorem lent_rows {w w0 : World} {B B0 : Nat} {g3 c3 g4 c4 : Nat} {A : Option Addr} {n : Nat} {nums : List Int} {A' : Option Addr} {m : Nat} {texts : List ByteArray} (h0 : Rows2 w0 B0 A n nums A' m texts)
    (o3 : w.ownsRow B 3 1 (.slice (some ⟨g3, 0, none⟩) (n + 1) c3) (n + 1) (ints nums ++ [.int .i64 (-77)])) (o4 : w.ownsRow B 9 1 (.slice (some ⟨g4, 0, none⟩) (m + 1) c4) (m + 1) (strV texts ++ [.string ⟨#[109, 97, 114, 107]⟩])) :
    Rows2 w w.heap.size (some ⟨g3, 0, none⟩) n nums (some ⟨g4, 0, none⟩) m texts := by
  have b3 := (o3.lt g3 rfl).2
  have b4 := (o4.lt g4 rfl).2
  have s3 := (SlAt.own o3).2
  have s4 := (SlAt.own o4).2
  refine ⟨fun _ => ⟨_, rfl, fun j x e => ?_⟩, h0.n_, fun _ ad e => by cases e; exact b3, h0.ok, fun _ => ⟨_, rfl, fun j x e => ?_⟩, h0.m_, fun _ ad e => by cases e; exact b4, h0.max⟩
  · rcases s3 with ⟨h, _⟩ | ⟨ad, e1, hc⟩
    · cases h
    · cases e1
      refine hc j _ ?_
      rw [List.getElem?_append_left (by simp [ints]; exact (List.getElem?_eq_some_iff.1 e).1)]
      simp [ints, e]
  · rcases s4 with ⟨h, _⟩ | ⟨ad, e1, hc⟩
    · cases h
    · cases e1
      refine hc j _ ?_
      rw [List.getElem?_append_left (by simp [strV]; exact (List.getElem?_eq_some_iff.1 e).1)]
      simp [strV, e]
theorem lawM_of {w W w3 w4 : World} {bq p : Nat} {kind : Int} {party : ByteArray} {A : Option Addr} {n c : Nat} {nums : List Int} {A' : Option Addr} {m c' : Nat} {texts : List ByteArray} {err : Int} {R : Option Addr} {rn rc : Nat} {R' : Option Addr} {rm rc' : Nat} {g3 c3 g4 c4 : Nat}
    (hb : Below w.heap.size w W) (hc : W.heap[bq]? = some (cmdBox kind party A n c A' m c')) (hr : W.heap[bq + 1]? = some (repBox err R rn rc R' rm rc')) (hm : W.heap[p]? = some (cmdBox kind party A n c A' m c')) (hp : bq + 1 < p ∧ p < W.heap.size ∧ w.heap.size ≤ bq)
    (ho3 : w3.ownsRow W.drew.heap.size 3 1 (.slice (some ⟨g3, 0, none⟩) (n + 1) c3) (n + 1) (ints nums ++ [.int .i64 (-77)])) (hg3 : W.drew.grownBy w3 none)
    (ho4 : w4.ownsRow w3.heap.size 9 1 (.slice (some ⟨g4, 0, none⟩) (m + 1) c4) (m + 1) (strV texts ++ [.string ⟨#[109, 97, 114, 107]⟩])) (hg4 : w3.grownBy w4 none) :
    LawM w ((w4.setCell ⟨p, 2, none⟩ (.slice (some ⟨g3, 0, none⟩) n c3)).setCell ⟨p, 3, none⟩ (.slice (some ⟨g4, 0, none⟩) m c4)) bq p kind party A n c nums A' m c' texts err R rn rc R' rm rc' := by
  have hg : W.grownBy w4 none := ((grown_drew W none).trans hg3).trans hg4
  have e1 := (hg.block bq (blk_lt hc) (by simp)).trans hc
  have e2 := (hg.block (bq + 1) (blk_lt hr) (by simp)).trans hr
  have e3 := (hg.block p (blk_lt hm) (by simp)).trans hm
  have hs := hg.size
  have hs3 := hg3.size
  have hs0 := hb.size
  obtain ⟨p1, p2, p3⟩ := hp
  have f3 := set_2 e3 (some ⟨g3, 0, none⟩) (d := c3)
  obtain ⟨U, hU⟩ : ∃ U, w4.setCell ⟨p, 2, none⟩ (.slice (some ⟨g3, 0, none⟩) n c3) = U := ⟨_, rfl⟩
  have k1 : w4.grownBy U (some p) := by rw [← hU]; exact grownBy_setCell w4 p 2 _
  rw [hU] at f3 ⊢
  have f4 := set_3 f3 (some ⟨g4, 0, none⟩) (d := c4)
  have k2 := grownBy_setCell U p 3 (.slice (some ⟨g4, 0, none⟩) m c4)
  have o3 : w4.ownsRow w.heap.size 3 1 (.slice (some ⟨g3, 0, none⟩) (n + 1) c3) (n + 1) (ints nums ++ [.int .i64 (-77)]) := own_base (ho3.kept hg4 (.inr (by simp [Value.ownBlock]))) (by simpa using hs0)
  have o4 : w4.ownsRow w.heap.size 9 1 (.slice (some ⟨g4, 0, none⟩) (m + 1) c4) (m + 1) (strV texts ++ [.string ⟨#[109, 97, 114, 107]⟩]) := own_base ho4 (by simp at hs3; omega)
  have ne3 := own_ne o3 e3 (by decide)
  have ne4 := own_ne o4 e3 (by decide)
  have o3' := o3.kept k1 (.inr (fun e => ne3 e))
  have o4' := o4.kept k1 (.inr (fun e => ne4 e))
  refine ⟨below_grown (below_grown (below_grown hb hg hs0 (by simp)) k1 (by omega) (by rintro g ⟨rfl⟩; omega)) k2 (by have := k1.size; omega) (by rintro g ⟨rfl⟩; omega), ?_, ?_, g3, c3, g4, c4, f4, o3'.kept k2 (.inr (fun e => ne3 e)), o4'.kept k2 (.inr (fun e => ne4 e))⟩
  · exact (k2.block bq (by have := k1.size; have := blk_lt e1; omega) (by intro e; cases e; omega)).trans ((k1.block bq (blk_lt e1) (by intro e; cases e; omega)).trans e1)
  · exact (k2.block (bq + 1) (by have := k1.size; have := blk_lt e2; omega) (by intro e; cases e; omega)).trans ((k1.block (bq + 1) (blk_lt e2) (by intro e; cases e; omega)).trans e2)
set_option maxRecDepth 20000 in
set_option maxHeartbeats 4000000 in
theorem bytesLaw (kind : Int) (party : ByteArray) (A : Option Addr) (n c : Nat) (nums : List Int) (A' : Option Addr) (m c' : Nat) (texts : List ByteArray)
    (err : Int) (R : Option Addr) (rn rc : Nat) (rnums : List Int) (R' : Option Addr) (rm rc' : Nat) (rtexts : List ByteArray) (mo : ByteArray) (w : World)
    (hk : okI kind) (hp : party.size ≤ maxLen) (hn : n ≤ maxLen) (hm : m ≤ maxLen) (ha : A = none → n = 0 ∧ c = 0) (ha' : A' = none → m = 0 ∧ c' = 0) (h1 : Rows2 w w.heap.size A n nums A' m texts) (hk2 : okI err) (h2 : Rows2 w w.heap.size R rn rnums R' rm rtexts)
    (hal : ∀ W : World, Calls Tryz.prog 5 #[] W fun en W' => en = .returned (.bool true) ∧ Below W.heap.size W W') :
    Calls Tryz.prog 3 #[.agg #[.int .i64 kind, .string party, .slice A n c, .slice A' m c'], .agg #[.int .i64 err, .slice R rn rc, .slice R' rm rc'], .string mo] w (fun en w' => en = .returned (.bool true) ∧ Below w.heap.size w w') := by
  have HK := Lib.hid hk
  have HP := Lib.hid hp
  have HN := Lib.hid hn
  have HM := Lib.hid hm
  have HA := Lib.hid (And.intro ha ha')
  have H1 := Lib.hid h1
  have HK2 := Lib.hid hk2
  have H2 := Lib.hid h2
  have HAL := Lib.hid hal
  clear hk hp hn hm ha ha' h1 hk2 h2 hal
  go_enter Tryz.func3, Tryz.ntmps3
  go_wp2_with fail
  refine (light_q (w.heap.size + 2) kind party A n c A' m c' texts _ HP.out HN.out HM.out (by
    have := heap_alloc_new ((w.alloc (cmdBox kind party A n c A' m c')).alloc (repBox err R rn rc R' rm rc')) (.cells #[.int .i64 kind, .string party, .slice A n c, .slice A' m c'] 25 (0, 0))
    have e2 : ((w.alloc (cmdBox kind party A n c A' m c')).alloc (repBox err R rn rc R' rm rc')).heap.size = w.heap.size + 2 := by simp
    rw [e2] at this
    exact this) (((H1.out.tat.grown (World.grownBy_alloc w _ none)).grown (World.grownBy_alloc _ _ none)).grown (World.grownBy_alloc _ _ none)) H1.out.m_ H1.out.max).mono ?_
  rintro e w1 ⟨⟨b, rfl, hq⟩, hb1⟩
  have HQ := Lib.hid hq
  obtain ⟨W0, hW0⟩ : ∃ W0, ((w.alloc (cmdBox kind party A n c A' m c')).alloc (repBox err R rn rc R' rm rc')) = W0 := ⟨_, rfl⟩
  have hb0 : Below w.heap.size w W0 := by rw [← hW0]; exact ((Below.refl _ w).alloc (Nat.le_refl _) _).alloc (by simp) _
  have hs0 : W0.heap.size = w.heap.size + 2 := by rw [← hW0]; simp
  have hcb0 : W0.heap[w.heap.size]? = some (cmdBox kind party A n c A' m c') := by
    rw [← hW0]
    exact (Below.heap_alloc _ _ _ (by simp)).trans (heap_alloc_new w _)
  have hrb0 : W0.heap[w.heap.size + 1]? = some (repBox err R rn rc R' rm rc') := by
    rw [← hW0]
    have := heap_alloc_new (w.alloc (cmdBox kind party A n c A' m c')) (repBox err R rn rc R' rm rc')
    simpa using this
  have hb01 : Below (w.heap.size + 2) W0 w1 := by
    have hx : Below (w.heap.size + 2) W0 (W0.alloc (.cells #[.int .i64 kind, .string party, .slice A n c, .slice A' m c'] 25 (0, 0))) := (Below.refl _ W0).alloc (by omega) _
    refine hx.trans (Below.mono ?_ (show w.heap.size + 2 ≤ w.heap.size + 3 by omega))
    rw [← hW0]
    have e3 : (((w.alloc (cmdBox kind party A n c A' m c')).alloc (repBox err R rn rc R' rm rc')).alloc (.cells #[.int .i64 kind, .string party, .slice A n c, .slice A' m c'] 25)).heap.size = w.heap.size + 3 := by simp
    rw [← e3]
    exact hb1
  have HB1 : Hid (Below w.heap.size w w1) := Lib.hid (hb0.trans (hb01.mono (by omega)))
  have HCB1 : Hid (w1.heap[w.heap.size]? = some (cmdBox kind party A n c A' m c')) := Lib.hid ((hb01.block _ (by omega)).trans hcb0)
  have HRB1 : Hid (w1.heap[w.heap.size + 1]? = some (repBox err R rn rc R' rm rc')) := Lib.hid ((hb01.block _ (by omega)).trans hrb0)
  clear hb0 hs0 hcb0 hrb0 hb01 hb1 hW0 hq
  obtain ⟨k0, k1, k2, k3⟩ := cmdBox_cells HCB1.out
  obtain ⟨r0, r1, r2⟩ := repBox_cells HRB1.out
  obtain ⟨bq, hbq⟩ : ∃ bq : Nat, w.heap.size = bq := ⟨_, rfl⟩
  rw [hbq] at k0 k1 k2 k3 r0 r1 r2 HCB1 HRB1
  rw [hbq]
  by_cases hgo : b = true ∧ (mo.size : Int) ≤ 6000 ∧ (rn : Int) ≤ 2100 ∧ (rm : Int) ≤ 120
  case neg =>
    clear hbq
    go_wp2_with fail
    all_goals first
      | (go_at_call 5
         refine (HAL.out _).mono ?_
         rintro e w2 ⟨rfl, hb2⟩
         go_wp2_with fail
         refine bodyPost_ret (results_tmp rfl _ _ _) rfl ?_
         exact ⟨rfl, HB1.out.trans (hb2.mono HB1.out.size)⟩)
      | (exfalso; apply hgo; refine ⟨?_, ?_, ?_, ?_⟩ <;> first | assumption | omega)
  obtain ⟨hg1, hg2, hg3, hg4⟩ := hgo
  subst hg1
  have HRN : Hid (rn ≤ 2100 ∧ rm ≤ 120) := Lib.hid (by omega)
  have HMO : Hid (mo.size ≤ 6000) := Lib.hid (by omega)
  have HNM := Lib.hid (HQ.out rfl)
  clear HQ
  go_upto_region 4 with fail
  obtain ⟨p, hp⟩ : ∃ p : Nat, w1.heap.size = p := ⟨_, rfl⟩
  obtain ⟨W, hW⟩ : ∃ W, w1.alloc (.cells #[.int .i64 kind, .string party, .slice A n c, .slice A' m c'] 25 (0, 0)) = W := ⟨_, rfl⟩
  have HBW : Hid (Below w.heap.size w W) := Lib.hid (by rw [← hW]; exact HB1.out.alloc HB1.out.size _)
  have HCW : Hid (W.heap[bq]? = some (cmdBox kind party A n c A' m c')) := Lib.hid (by rw [← hW]; exact (Below.heap_alloc _ _ _ (blk_lt HCB1.out)).trans HCB1.out)
  have HRW : Hid (W.heap[bq + 1]? = some (repBox err R rn rc R' rm rc')) := Lib.hid (by rw [← hW]; exact (Below.heap_alloc _ _ _ (blk_lt HRB1.out)).trans HRB1.out)
  have HMW : Hid (W.heap[p]? = some (cmdBox kind party A n c A' m c')) := Lib.hid (by rw [← hW, ← hp]; exact heap_alloc_new w1 _)
  have HPQ : Hid (bq + 1 < p ∧ p < W.heap.size ∧ w.heap.size ≤ bq) := Lib.hid (by rw [← hp]; exact ⟨blk_lt HRB1.out, by rw [← hW]; simp, by omega⟩)
  rw [hp, hW]
  clear hp hW k0 k1 k2 k3 r0 r1 r2 HCB1 HRB1 HB1
  have HS1 : Hid (SlAt W A n c (ints nums)) := Lib.hid (slat_ints (H1.out.iat.below H1.out.ib HBW.out) H1.out.n_ HA.out.1)
  have HS2 : Hid (SlAt W A' m c' (strV texts)) := Lib.hid (slat_texts (H1.out.tat.below H1.out.tb HBW.out) H1.out.m_ HA.out.2)
  go_cut [6] (fun s6 wx => s6 = .bool false ∧ LawM w wx bq p kind party A n c nums A' m c' texts err R rn rc R' rm rc')
  case first =>
    have HL1 := Lib.hid (lentInts_any A n c (ints nums) W.drew (HS1.out.old (grown_drew W none)) (one_ints nums) (by have := HNM.out; omega))
    have HL2 : Hid (∀ u, W.drew.grownBy u none → Calls Tryz.prog 7 #[.slice A' m c'] u fun en w' => ∃ v, en = .returned v ∧ LentTexts u w' m (strV texts) v ∧ u.grownBy w' none) := Lib.hid (fun u hu => lentTexts_any A' m c' (strV texts) u (HS2.out.old ((grown_drew W none).trans hu)) (one_strs texts) (by have := HNM.out; omega))
    have hcl : ∀ u, W.drew.grownBy u none → u.cell? ⟨bq, 2, none⟩ = some (.slice A n c) ∧ u.cell? ⟨bq, 3, none⟩ = some (.slice A' m c') ∧ u.cell? ⟨p, 2, none⟩ = some (.slice A n c) ∧ u.cell? ⟨p, 3, none⟩ = some (.slice A' m c') ∧ u.frozen? ⟨p, 2, none⟩ = false ∧ u.frozen? ⟨p, 3, none⟩ = false := fun u hu => by
      have a1 := (((grown_drew W none).trans hu).block bq (blk_lt HCW.out) (by simp)).trans HCW.out
      have a2 := (((grown_drew W none).trans hu).block p (blk_lt HMW.out) (by simp)).trans HMW.out
      obtain ⟨_, _, k2, k3⟩ := cmdBox_cells a1
      obtain ⟨_, _, l2, l3⟩ := cmdBox_cells a2
      exact ⟨k2, k3, l2, l3, frozen_p a2, frozen_p a2⟩
    have HCL := Lib.hid hcl
    have HCL2 : Hid (∀ u, W.drew.grownBy u none → u.heap[bq]? = some (cmdBox kind party A n c A' m c') ∧ u.heap[p]? = some (cmdBox kind party A n c A' m c')) := Lib.hid (fun u hu => ⟨(((grown_drew W none).trans hu).block bq (blk_lt HCW.out) (by simp)).trans HCW.out, (((grown_drew W none).trans hu).block p (blk_lt HMW.out) (by simp)).trans HMW.out⟩)
    obtain ⟨k2, k3, l2, l3, z2, z3⟩ := hcl W.drew (World.grownBy.refl _ _)
    clear hcl
    go_region_law ((first
      | (go_simp; go_at_call 6; refine Calls.mono HL1.out ?_; rintro e w3 ⟨v3, rfl, ⟨g3, c3, rfl, ho3⟩, hg3⟩; obtain ⟨m2, m3, n2, n3, y2, y3⟩ := HCL.out w3 hg3)
      | (go_simp; go_at_call 7; refine Calls.mono (HL2.out w3 hg3) ?_; rintro e w4 ⟨v4, rfl, ⟨g4, c4, rfl, ho4⟩, hg4⟩; obtain ⟨q2, q3, s2, s3, t2, t3⟩ := HCL.out w4 (hg3.trans hg4); have hbx := (HCL2.out w4 (hg3.trans hg4)).2; have u3 : (w4.setCell ⟨p, 2, none⟩ (.slice (some ⟨g3, 0, none⟩) n c3)).cell? ⟨p, 3, none⟩ = some (.slice A' m c') := (cmdBox_cells (set_2 hbx _)).2.2.2; have z3' : (w4.setCell ⟨p, 2, none⟩ (.slice (some ⟨g3, 0, none⟩) n c3)).frozen? ⟨p, 3, none⟩ = false := frozen_p (set_2 hbx _))))
    all_goals
      have hL := lawM_of HBW.out HCW.out HRW.out HMW.out HPQ.out ho3 hg3 ho4 hg4
      clear HL1 HL2 HCL HCL2 HS1 HS2
      go_wp2_with fail
      go_meet
      exact ⟨rfl, hL⟩
  case rest =>
    obtain ⟨rfl, hM⟩ := hcut
    obtain ⟨hbM, hcM, hrM, g3, c3, g4, c4, hmM, hoM, htM⟩ := hM
    have HRM : Hid (Rows2 wc wc.heap.size (some ⟨g3, 0, none⟩) n nums (some ⟨g4, 0, none⟩) m texts) := Lib.hid (lent_rows H1.out hoM htM)
    have HBM := Lib.hid hbM
    have HCM := Lib.hid hcM
    have HRBM := Lib.hid hrM
    have HMM := Lib.hid hmM
    have HOM := Lib.hid hoM
    have HTM := Lib.hid htM
    obtain ⟨S, eS, hV⟩ := cmdV_form kind party nums texts
    have HV := Lib.hid hV
    clear hbM hcM hrM hmM hoM htM hV HS1 HS2 HBW HCW HRW HMW
    obtain ⟨k0, k1, k2, k3⟩ := cmdBox_cells HMM.out
    go_wp2_with fail
    refine (putC_v kind party (some ⟨g3, 0, none⟩) n c3 nums (some ⟨g4, 0, none⟩) m c4 texts _ HK.out HP.out HRM.out).mono ?_
    rintro e w5 ⟨he, hb5⟩
    rw [HV.out] at he
    subst he
    have HB5 := Lib.hid hb5
    clear hb5 k0 k1 k2 k3
    obtain ⟨k0, k1, k2, k3⟩ := cmdBox_cells ((HB5.out.block bq (blk_lt HCM.out)).trans HCM.out)
    go_wp2_with fail
    refine (plain_any kind party A n c A' m c' _).mono ?_
    rintro e w6 ⟨rfl, hb6⟩
    have HB6 : Hid (Below wc.heap.size wc w6) := Lib.hid (sb_step HB5.out hb6)
    have HBA6 : Hid (Below w.heap.size w w6) := Lib.hid (HBM.out.trans (HB6.out.mono HBM.out.size))
    clear hb6 k0 k1 k2 k3
    go_wp2_with fail
    refine (putDC_any kind party A n c nums A' m c' texts _ HK.out (H1.out.to HBA6.out HBA6.out.size)).mono ?_
    rintro e w7 ⟨he, hb7⟩
    rw [HV.out] at he
    subst he
    have HB7 : Hid (Below wc.heap.size wc w7) := Lib.hid (sb_step HB6.out hb7)
    clear hb7 HB5 HB6 HBA6
    go_wp2_with fail
    refine Calls.mono (getC_any mo _ (by have := HMO.out; omega)) ?_
    rintro e w8 hg8
    obtain ⟨B1, e1, B2, e2, rfl, hgot⟩ := gotC _ _ _ _ hg8
    have HG8 := Lib.hid hgot
    have HB8 : Hid (Below wc.heap.size wc w8) := Lib.hid (sb_step HB7.out hgot.b)
    have HQ8 : Hid (Mem w.heap.size (bk4 ++ [⟨3, .slice B1 (gNums mo).length e1, (gNums mo).length, ints (gNums mo)⟩] ++ [⟨9, .slice B2 (gTexts mo).length e2, (gTexts mo).length, strs (gTexts mo)⟩]) [] w8) := Lib.hid ((mem4 w.heap.size w7).add2 (Nat.le_trans HBM.out.size HB7.out.size) (only_of_below hgot.b none) (a := ⟨3, .slice B1 (gNums mo).length e1, (gNums mo).length, ints (gNums mo)⟩) (b := ⟨9, .slice B2 (gTexts mo).length e2, (gTexts mo).length, strs (gTexts mo)⟩) hgot.o1 hgot.o2 (show (3 : Nat) ≠ 9 by decide))
    have HB7s : Hid (wc.heap.size ≤ w7.heap.size) := Lib.hid HB7.out.size
    clear hg8 hgot HB7
    go_upto_region 8 with fail
    obtain ⟨x, hx⟩ : ∃ x : Nat, w8.heap.size = x := ⟨_, rfl⟩
    obtain ⟨W8, hW8⟩ : ∃ W, w8.alloc (.cells #[.int .i64 (gKind mo), .string (gParty mo), .slice B1 (gNums mo).length e1, .slice B2 (gTexts mo).length e2] 25 (0, 0)) = W := ⟨_, rfl⟩
    have HX8 : Hid (W8.heap[x]? = some (cmdBox (gKind mo) (gParty mo) B1 (gNums mo).length e1 B2 (gTexts mo).length e2)) := Lib.hid (by rw [← hW8, ← hx]; exact heap_alloc_new w8 _)
    have HBW8 : Hid (Below wc.heap.size wc W8) := Lib.hid (by rw [← hW8]; exact HB8.out.alloc HB8.out.size _)
    have HO8 : Hid (W8.ownsRow wc.heap.size 3 1 (.slice B1 (gNums mo).length e1) (gNums mo).length (ints (gNums mo)) ∧ W8.ownsRow wc.heap.size 9 1 (.slice B2 (gTexts mo).length e2) (gTexts mo).length (strs (gTexts mo))) := Lib.hid (by
      have h := HG8.out
      rw [← hW8]
      exact ⟨own_base (own_old h.o1 (World.grownBy_alloc w8 _ none)) HB7s.out, own_base (own_old h.o2 (World.grownBy_alloc w8 _ none)) HB7s.out⟩)
    have HWX : Hid (wc.heap.size ≤ x) := Lib.hid (by rw [← hx]; exact HB8.out.size)
    have HQW : Hid (Mem w.heap.size (bk4 ++ [⟨3, .slice B1 (gNums mo).length e1, (gNums mo).length, ints (gNums mo)⟩] ++ [⟨9, .slice B2 (gTexts mo).length e2, (gTexts mo).length, strs (gTexts mo)⟩]) [] W8) := Lib.hid (by rw [← hW8]; exact HQ8.out.old (World.grownBy_alloc w8 _ none))
    rw [hx, hW8]
    clear hx hW8 HB8 HG8 HQ8
    go_wp2_with fail
    refine (getDC_any mo _ (by have := HMO.out; omega)).mono ?_
    rintro e w9 hg9
    obtain ⟨D1, f1, D2, f2, rfl, hgot⟩ := gotC _ _ _ _ hg9
    have HG9 := Lib.hid hgot
    have HX9 := Lib.hid ((hgot.b.block x (blk_lt HX8.out)).trans HX8.out)
    have HB9 : Hid (Below wc.heap.size wc w9) := Lib.hid (sb_step HBW8.out hgot.b)
    have HO9 : Hid (w9.ownsRow wc.heap.size 3 1 (.slice B1 (gNums mo).length e1) (gNums mo).length (ints (gNums mo)) ∧ w9.ownsRow wc.heap.size 9 1 (.slice B2 (gTexts mo).length e2) (gTexts mo).length (strs (gTexts mo))) := Lib.hid ⟨own_old HO8.out.1 (only_of_below hgot.b none), own_old HO8.out.2 (only_of_below hgot.b none)⟩
    have HQ9 := Lib.hid (HQW.out.old (only_of_below hgot.b none))
    clear hg9 hgot HBW8 HX8 HO8 HQW
    go_upto_region 9 with fail
    obtain ⟨y, hy⟩ : ∃ y : Nat, w9.heap.size = y := ⟨_, rfl⟩
    obtain ⟨WA, hWA⟩ : ∃ W, w9.alloc (.cells #[.int .i64 (gKind mo), .string (gParty mo), .slice D1 (gNums mo).length f1, .slice D2 (gTexts mo).length f2] 37 (0, 0)) = W := ⟨_, rfl⟩
    have HYA : Hid (WA.heap[y]? = some (cmdBoxD (gKind mo) (gParty mo) D1 (gNums mo).length f1 D2 (gTexts mo).length f2)) := Lib.hid (by rw [← hWA, ← hy]; exact heap_alloc_new w9 _)
    have HXA : Hid (WA.heap[x]? = some (cmdBox (gKind mo) (gParty mo) B1 (gNums mo).length e1 B2 (gTexts mo).length e2)) := Lib.hid (by rw [← hWA]; exact (Below.heap_alloc _ _ _ (blk_lt HX9.out)).trans HX9.out)
    have HBA : Hid (Below wc.heap.size wc WA) := Lib.hid (by rw [← hWA]; exact HB9.out.alloc HB9.out.size _)
    have HOA : Hid (WA.ownsRow wc.heap.size 3 1 (.slice B1 (gNums mo).length e1) (gNums mo).length (ints (gNums mo)) ∧ WA.ownsRow wc.heap.size 9 1 (.slice B2 (gTexts mo).length e2) (gTexts mo).length (strs (gTexts mo))) := Lib.hid (by rw [← hWA]; exact ⟨own_old HO9.out.1 (World.grownBy_alloc w9 _ none), own_old HO9.out.2 (World.grownBy_alloc w9 _ none)⟩)
    have HIA : Hid (IntsAt WA D1 (gNums mo) ∧ TextsAt WA D2 ((gTexts mo).map fun l => ⟨l.toArray⟩)) := Lib.hid (by
      have h1 := (SlAt.own (own_old HG9.out.o1 (World.grownBy_alloc w9 (.cells #[.int .i64 (gKind mo), .string (gParty mo), .slice D1 (gNums mo).length f1, .slice D2 (gTexts mo).length f2] 37 (0, 0)) none))).ints
      have h2 := (SlAt.own (own_old HG9.out.o2 (World.grownBy_alloc w9 (.cells #[.int .i64 (gKind mo), .string (gParty mo), .slice D1 (gNums mo).length f1, .slice D2 (gTexts mo).length f2] 37 (0, 0)) none)))
      rw [← hWA]
      refine ⟨h1, SlAt.texts (n := (gTexts mo).length) (c := f2) ?_⟩
      have e : strs (gTexts mo) = strV ((gTexts mo).map fun l => ⟨l.toArray⟩) := by simp [strs, strV]
      rw [← e]
      exact h2)
    have HQA : Hid (Mem w.heap.size (bk4 ++ [⟨3, .slice B1 (gNums mo).length e1, (gNums mo).length, ints (gNums mo)⟩] ++ [⟨9, .slice B2 (gTexts mo).length e2, (gTexts mo).length, strs (gTexts mo)⟩]) [] WA) := Lib.hid (by rw [← hWA]; exact HQ9.out.old (World.grownBy_alloc w9 _ none))
    rw [hy, hWA]
    clear hy hWA HB9 HG9 HX9 HO9 HQ9
    have HCA : Hid (WA.heap[bq]? = some (cmdBox kind party A n c A' m c')) := Lib.hid ((HBA.out.block bq (blk_lt HCM.out)).trans HCM.out)
    have HMA : Hid (WA.heap[p]? = some (cmdBox kind party (some ⟨g3, 0, none⟩) n c3 (some ⟨g4, 0, none⟩) m c4)) := Lib.hid ((HBA.out.block p (blk_lt HMM.out)).trans HMM.out)
    have HRA : Hid (WA.heap[bq + 1]? = some (repBox err R rn rc R' rm rc')) := Lib.hid ((HBA.out.block _ (blk_lt HRBM.out)).trans HRBM.out)
    have HBA0 : Hid (Below w.heap.size w WA) := Lib.hid (HBM.out.trans (HBA.out.mono HBM.out.size))
    have HC1 : Hid (∀ u, Below WA.heap.size WA u → Calls Tryz.prog 13 #[.agg #[.int .i64 (gKind mo), .string (gParty mo), .slice B1 (gNums mo).length e1, .slice B2 (gTexts mo).length e2], .agg #[.int .i64 (gKind mo), .string (gParty mo), .slice D1 (gNums mo).length f1, .slice D2 (gTexts mo).length f2]] u (ValPost (.bool true) u)) := Lib.hid (fun u hu => by
      have hg : WA.grownBy u none := only_of_below hu none
      have a1 := (SlAt.own (own_old HOA.out.1 hg)).ints
      have a2 : TextsAt u B2 ((gTexts mo).map fun l => ⟨l.toArray⟩) := SlAt.texts (n := (gTexts mo).length) (c := e2) (by
        have h2 := SlAt.own (own_old HOA.out.2 hg)
        have e : strs (gTexts mo) = strV ((gTexts mo).map fun l => ⟨l.toArray⟩) := by simp [strs, strV]
        rw [← e]
        exact h2)
      exact sameCmd_any _ _ B1 D1 _ e1 f1 B2 D2 _ e2 f2 (gNums mo) ((gTexts mo).map fun l => ⟨l.toArray⟩) u a1 (HIA.out.1.grown hg) a2 (HIA.out.2.grown hg) rfl (by simp) (by have := gNums_len mo; omega) (by have := gTexts_len mo; omega))
    obtain ⟨E, hE, hchk⟩ := check_any kind party (some ⟨g3, 0, none⟩) n c3 nums (some ⟨g4, 0, none⟩) m c4 HK.out H1.out.n_ HN.out HM.out
    have HC2 : Hid (∀ u, Below WA.heap.size WA u → Calls Tryz.prog 14 #[.agg #[.int .i64 kind, .string party, .slice (some ⟨g3, 0, none⟩) n c3, .slice (some ⟨g4, 0, none⟩) m c4]] u (ValPost (.int .i64 E) u)) := Lib.hid (fun u hu => hchk u (HRM.out.iat.grown (only_of_below (HBA.out.trans (hu.mono HBA.out.size)) none)))
    have HC3 : Hid (∀ u, Below WA.heap.size WA u → Calls Tryz.prog 10 #[.agg #[.int .i64 kind, .string party, .slice A n c, .slice A' m c']] u (ValPost (.agg #[.int .i64 kind, .string party, .slice A n c, .slice A' m c']) u)) := Lib.hid (fun u _ => plain_any kind party A n c A' m c' u)
    have HIN : Hid (∀ u, Below WA.heap.size WA u → IntsAt u A nums ∧ TextsAt u A' texts) := Lib.hid (fun u hu => by
      have h := H1.out.to (HBA0.out.trans (hu.mono HBA0.out.size)) (Nat.le_trans HBA0.out.size hu.size)
      exact ⟨h.iat, h.tat⟩)
    have HC4 : Hid (∀ u, Below WA.heap.size WA u → Calls Tryz.prog 15 #[.agg #[.int .i64 kind, .string party, .slice A n c, .slice A' m c']] u (ValPost (.int .i64 E) u)) := Lib.hid (fun u hu => by
      rw [hE, chk_eq]
      exact checkD_any kind party A n c nums A' m c' HK.out H1.out.n_ HN.out HM.out u (HIN.out u hu).1)
    have HC5 : Hid (∀ u, Below WA.heap.size WA u → Calls Tryz.prog 16 #[.agg #[.int .i64 kind, .string party, .slice A n c, .slice A' m c']] u (ValPost (.bool (decide (kind ≥ 30))) u)) := Lib.hid (fun u _ => asks_any kind party A n c A' m c' u)
    have HC6 : Hid (∀ u, Below WA.heap.size WA u → Calls Tryz.prog 17 #[.agg #[.int .i64 kind, .string party, .slice A n c, .slice A' m c']] u (ValPost (.bool (decide (kind ≥ 30))) u)) := Lib.hid (fun u _ => asksD_any kind party A n c A' m c' u)
    have HC7 : Hid (∀ u, Below WA.heap.size WA u → Calls Tryz.prog 18 #[.slice (some ⟨g3, 0, none⟩) n c3, .slice A n c] u (ValPost (.bool true) u)) := Lib.hid (fun u hu => by
      refine (staysInts_any w.heap.size g3 n c3 A c nums u (own_old HOM.out (only_of_below (HBA.out.trans (hu.mono HBA.out.size)) none)) (HIN.out u hu).1 H1.out.n_ (by have := HNM.out; omega)).mono ?_
      rintro en w' ⟨rfl, k, rfl⟩
      exact ⟨rfl, below_drewN' (Below.refl _ u) k⟩)
    have HC8 : Hid (∀ u, Below WA.heap.size WA u → Calls Tryz.prog 19 #[.slice (some ⟨g4, 0, none⟩) m c4, .slice A' m c'] u (ValPost (.bool true) u)) := Lib.hid (fun u hu => by
      refine (staysTexts_any w.heap.size g4 m c4 A' c' texts u (own_old HTM.out (only_of_below (HBA.out.trans (hu.mono HBA.out.size)) none)) (HIN.out u hu).2 H1.out.m_ (by have := HNM.out; omega)).mono ?_
      rintro en w' ⟨rfl, k, rfl⟩
      exact ⟨rfl, below_drewN' (Below.refl _ u) k⟩)
    clear hE hchk
    have HBM0 : Hid (w.heap.size ≤ wc.heap.size) := Lib.hid HBM.out.size
    go_cut [121] (fun s121 wx => s121 = .bool false ∧ Below WA.heap.size WA wx)
    case first =>
      obtain ⟨zbq0, zbq1, zbq2, zbq3⟩ := cmdBox_cells HCA.out
      obtain ⟨zp0, zp1, zp2, zp3⟩ := cmdBox_cells HMA.out
      obtain ⟨zx0, zx1, zx2, zx3⟩ := cmdBox_cells HXA.out
      obtain ⟨zy0, zy1, zy2, zy3⟩ := cmdBoxD_cells HYA.out
      have hS0 : Below WA.heap.size WA WA.drew := sb_drew (Below.refl _ _)
      go_region_held3 (fun w' => Below WA.heap.size WA w' ∧ w'.cell? ⟨bq, 0, none⟩ = some (.int .i64 (kind)) ∧ w'.cell? ⟨bq, 1, none⟩ = some (.string (party)) ∧ w'.cell? ⟨bq, 2, none⟩ = some (.slice A n c) ∧ w'.cell? ⟨bq, 3, none⟩ = some (.slice A' m c') ∧ w'.cell? ⟨p, 0, none⟩ = some (.int .i64 (kind)) ∧ w'.cell? ⟨p, 1, none⟩ = some (.string (party)) ∧ w'.cell? ⟨p, 2, none⟩ = some (.slice (some ⟨g3, 0, none⟩) n c3) ∧ w'.cell? ⟨p, 3, none⟩ = some (.slice (some ⟨g4, 0, none⟩) m c4) ∧ w'.cell? ⟨x, 0, none⟩ = some (.int .i64 (gKind mo)) ∧ w'.cell? ⟨x, 1, none⟩ = some (.string (gParty mo)) ∧ w'.cell? ⟨x, 2, none⟩ = some (.slice B1 (gNums mo).length e1) ∧ w'.cell? ⟨x, 3, none⟩ = some (.slice B2 (gTexts mo).length e2) ∧ w'.cell? ⟨y, 0, none⟩ = some (.int .i64 (gKind mo)) ∧ w'.cell? ⟨y, 1, none⟩ = some (.string (gParty mo)) ∧ w'.cell? ⟨y, 2, none⟩ = some (.slice D1 (gNums mo).length f1) ∧ w'.cell? ⟨y, 3, none⟩ = some (.slice D2 (gTexts mo).length f2))
        (first
          | (have hI : Below WA.heap.size WA _ := (by first | assumption | exact sb_drew (by assumption) | exact Below.refl _ _)
             exact ⟨hI, (hI.cell (p := ⟨bq, 0, none⟩) (blk_lt HCA.out)).trans zbq0, (hI.cell (p := ⟨bq, 1, none⟩) (blk_lt HCA.out)).trans zbq1, (hI.cell (p := ⟨bq, 2, none⟩) (blk_lt HCA.out)).trans zbq2, (hI.cell (p := ⟨bq, 3, none⟩) (blk_lt HCA.out)).trans zbq3, (hI.cell (p := ⟨p, 0, none⟩) (blk_lt HMA.out)).trans zp0, (hI.cell (p := ⟨p, 1, none⟩) (blk_lt HMA.out)).trans zp1, (hI.cell (p := ⟨p, 2, none⟩) (blk_lt HMA.out)).trans zp2, (hI.cell (p := ⟨p, 3, none⟩) (blk_lt HMA.out)).trans zp3, (hI.cell (p := ⟨x, 0, none⟩) (blk_lt HXA.out)).trans zx0, (hI.cell (p := ⟨x, 1, none⟩) (blk_lt HXA.out)).trans zx1, (hI.cell (p := ⟨x, 2, none⟩) (blk_lt HXA.out)).trans zx2, (hI.cell (p := ⟨x, 3, none⟩) (blk_lt HXA.out)).trans zx3, (hI.cell (p := ⟨y, 0, none⟩) (blk_lt HYA.out)).trans zy0, (hI.cell (p := ⟨y, 1, none⟩) (blk_lt HYA.out)).trans zy1, (hI.cell (p := ⟨y, 2, none⟩) (blk_lt HYA.out)).trans zy2, (hI.cell (p := ⟨y, 3, none⟩) (blk_lt HYA.out)).trans zy3⟩)
          | go_keep)
        ((first
            | (go_at_call 13; refine Calls.mono (HC1.out _ (by first | assumption | exact sb_drew (by assumption) | exact Below.refl _ _)) ?_; rintro e v1 ⟨rfl, hbv1⟩; have hxv1 : Below WA.heap.size WA v1 := sb_step (by first | assumption | exact sb_drew (by assumption) | exact Below.refl _ _) hbv1)
            | (go_at_call 14; refine Calls.mono (HC2.out _ (by first | assumption | exact sb_drew (by assumption) | exact Below.refl _ _)) ?_; rintro e v2 ⟨rfl, hbv2⟩; have hxv2 : Below WA.heap.size WA v2 := sb_step (by first | assumption | exact sb_drew (by assumption) | exact Below.refl _ _) hbv2)
            | (go_at_call 10; refine Calls.mono (HC3.out _ (by first | assumption | exact sb_drew (by assumption) | exact Below.refl _ _)) ?_; rintro e v3 ⟨rfl, hbv3⟩; have hxv3 : Below WA.heap.size WA v3 := sb_step (by first | assumption | exact sb_drew (by assumption) | exact Below.refl _ _) hbv3)
            | (go_at_call 15; refine Calls.mono (HC4.out _ (by first | assumption | exact sb_drew (by assumption) | exact Below.refl _ _)) ?_; rintro e v4 ⟨rfl, hbv4⟩; have hxv4 : Below WA.heap.size WA v4 := sb_step (by first | assumption | exact sb_drew (by assumption) | exact Below.refl _ _) hbv4)
            | (go_at_call 16; refine Calls.mono (HC5.out _ (by first | assumption | exact sb_drew (by assumption) | exact Below.refl _ _)) ?_; rintro e v5 ⟨rfl, hbv5⟩; have hxv5 : Below WA.heap.size WA v5 := sb_step (by first | assumption | exact sb_drew (by assumption) | exact Below.refl _ _) hbv5)
            | (go_at_call 17; refine Calls.mono (HC6.out _ (by first | assumption | exact sb_drew (by assumption) | exact Below.refl _ _)) ?_; rintro e v6 ⟨rfl, hbv6⟩; have hxv6 : Below WA.heap.size WA v6 := sb_step (by first | assumption | exact sb_drew (by assumption) | exact Below.refl _ _) hbv6)
            | (go_at_call 18; refine Calls.mono (HC7.out _ (by first | assumption | exact sb_drew (by assumption) | exact Below.refl _ _)) ?_; rintro e v7 ⟨rfl, hbv7⟩; have hxv7 : Below WA.heap.size WA v7 := sb_step (by first | assumption | exact sb_drew (by assumption) | exact Below.refl _ _) hbv7)
            | (go_at_call 19; refine Calls.mono (HC8.out _ (by first | assumption | exact sb_drew (by assumption) | exact Below.refl _ _)) ?_; rintro e v8 ⟨rfl, hbv8⟩; have hxv8 : Below WA.heap.size WA v8 := sb_step (by first | assumption | exact sb_drew (by assumption) | exact Below.refl _ _) hbv8)))
      all_goals
        clear HC1 HC2 HC3 HC4 HC5 HC6 HC7 HC8
        have HXV := Lib.hid hxv8
        go_wp2_with fail
        go_meet
        exact ⟨rfl, HXV.out⟩
    case rest =>
      obtain ⟨rfl, hbT⟩ := hcut
      clear HC1 HC2 HC3 HC4 HC5 HC6 HC7 HC8 HIN
      have HB0 : Hid (Below w.heap.size w wc) := Lib.hid (HBA0.out.trans (hbT.mono HBA0.out.size))
      have HR0 : Hid (wc.heap[bq + 1]? = some (repBox err R rn rc R' rm rc')) := Lib.hid ((hbT.block _ (blk_lt HRA.out)).trans HRA.out)
      have HX0 : Hid (wc.heap[x]? = some (cmdBox (gKind mo) (gParty mo) B1 (gNums mo).length e1 B2 (gTexts mo).length e2)) := Lib.hid ((hbT.block _ (blk_lt HXA.out)).trans HXA.out)
      have HQ0 : Hid (Mem w.heap.size (bk4 ++ [⟨3, .slice B1 (gNums mo).length e1, (gNums mo).length, ints (gNums mo)⟩] ++ [⟨9, .slice B2 (gTexts mo).length e2, (gTexts mo).length, strs (gTexts mo)⟩]) [] wc) := Lib.hid (HQA.out.old (only_of_below hbT none))
      obtain ⟨T, eT, hV2⟩ := repV_form err rnums rtexts
      have HV2 := Lib.hid hV2
      clear hbT hV2 HBA0 HRA HXA HQA HCA HMA HYA HOA HIA HBA HV
      obtain ⟨r0, r1, r2⟩ := repBox_cells HR0.out
      go_wp2_with fail
      refine (putR_v err R rn rc rnums R' rm rc' rtexts _ HK2.out (H2.out.to HB0.out HB0.out.size)).mono ?_
      rintro e v1 ⟨he, hb1⟩
      rw [HV2.out] at he
      subst he
      have HB1 : Hid (Below wc.heap.size wc v1) := Lib.hid hb1
      have HBw1 : Hid (Below w.heap.size w v1) := Lib.hid (HB0.out.trans (hb1.mono HB0.out.size))
      clear hb1 r0 r1 r2
      obtain ⟨r0, r1, r2⟩ := repBox_cells ((HB1.out.block _ (blk_lt HR0.out)).trans HR0.out)
      go_wp2_with fail
      refine (putDR_any err R rn rc rnums R' rm rc' rtexts _ HK2.out (H2.out.to HBw1.out HBw1.out.size)).mono ?_
      rintro e v2 ⟨he, hb2⟩
      rw [HV2.out] at he
      subst he
      have HB2 : Hid (Below wc.heap.size wc v2) := Lib.hid (sb_step HB1.out hb2)
      have HBw2 : Hid (Below w.heap.size w v2) := Lib.hid (HBw1.out.trans (hb2.mono HBw1.out.size))
      have HQ2 := Lib.hid (HQ0.out.old (only_of_below HB2.out none))
      have HX2 := Lib.hid ((HB2.out.block x (blk_lt HX0.out)).trans HX0.out)
      clear hb2 HB1 HBw1 r0 r1 r2 HB2 HX0 HQ0 HR0 HV2
      go_wp2_with fail
      refine Calls.mono (getR_any mo _ (by have := HMO.out; omega)) ?_
      rintro e v3 hg3
      obtain ⟨U1, h1, U2, h2, rfl, hgot⟩ := gotR _ _ _ _ hg3
      have HB3 : Hid (Below w.heap.size w v3) := Lib.hid (HBw2.out.trans (hgot.b.mono HBw2.out.size))
      have HQ3 := Lib.hid (HQ2.out.add2 HBw2.out.size (only_of_below hgot.b none) (a := ⟨3, .slice U1 (rNums mo).length h1, (rNums mo).length, ints (rNums mo)⟩) (b := ⟨9, .slice U2 (rTexts mo).length h2, (rTexts mo).length, strs (rTexts mo)⟩) hgot.o1 hgot.o2 (show (3 : Nat) ≠ 9 by decide))
      have HX3 := Lib.hid ((hgot.b.block x (blk_lt HX2.out)).trans HX2.out)
      have HO3 : Hid (IntsAt v3 U1 (rNums mo) ∧ SlAt v3 U2 (rTexts mo).length h2 (strs (rTexts mo))) := Lib.hid ⟨(SlAt.own hgot.o1).ints, SlAt.own hgot.o2⟩
      clear hg3 hgot HQ2 HX2 HBw2
      go_upto_region 14 with fail
      obtain ⟨z, hz⟩ : ∃ z : Nat, v3.heap.size = z := ⟨_, rfl⟩
      obtain ⟨V3, hV3⟩ : ∃ W, v3.alloc (.cells #[.int .i64 (rErr mo), .slice U1 (rNums mo).length h1, .slice U2 (rTexts mo).length h2] 28 (0, 0)) = W := ⟨_, rfl⟩
      have HZV : Hid (V3.heap[z]? = some (repBox (rErr mo) U1 (rNums mo).length h1 U2 (rTexts mo).length h2)) := Lib.hid (by rw [← hV3, ← hz]; exact heap_alloc_new v3 _)
      have hgv : v3.grownBy V3 none := by rw [← hV3]; exact World.grownBy_alloc v3 _ none
      have HBV : Hid (Below w.heap.size w V3) := Lib.hid (below_grown HB3.out hgv HB3.out.size (by simp))
      have HQV := Lib.hid (HQ3.out.old hgv)
      have HXV := Lib.hid ((hgv.block x (blk_lt HX3.out) (by simp)).trans HX3.out)
      have HOV : Hid (IntsAt V3 U1 (rNums mo) ∧ SlAt V3 U2 (rTexts mo).length h2 (strs (rTexts mo))) := Lib.hid ⟨HO3.out.1.grown hgv, HO3.out.2.old hgv⟩
      have HZ0 : Hid (w.heap.size ≤ z) := Lib.hid (by rw [← hz]; exact HB3.out.size)
      rw [hz, hV3]
      clear hz hV3 hgv HB3 HQ3 HX3 HO3
      go_wp2_with fail
      refine (getDR_any mo _ (by have := HMO.out; omega)).mono ?_
      rintro e v4 hg4
      obtain ⟨Y1, j1, Y2, j2, rfl, hgot⟩ := gotR _ _ _ _ hg4
      have HB4 : Hid (Below w.heap.size w v4) := Lib.hid (HBV.out.trans (hgot.b.mono HBV.out.size))
      have hgv := only_of_below hgot.b none
      have HQ4 := Lib.hid (HQV.out.old hgv)
      have HX4 := Lib.hid ((hgot.b.block x (blk_lt HXV.out)).trans HXV.out)
      have HZ4 := Lib.hid ((hgot.b.block z (blk_lt HZV.out)).trans HZV.out)
      have HOU : Hid (IntsAt v4 U1 (rNums mo) ∧ SlAt v4 U2 (rTexts mo).length h2 (strs (rTexts mo))) := Lib.hid ⟨HOV.out.1.grown hgv, HOV.out.2.old hgv⟩
      have HOY : Hid (IntsAt v4 Y1 (rNums mo) ∧ SlAt v4 Y2 (rTexts mo).length j2 (strs (rTexts mo))) := Lib.hid ⟨(SlAt.own hgot.o1).ints, SlAt.own hgot.o2⟩
      have HQ5 : Hid (Mem w.heap.size [noRow 22, noRow 22, noRow 23, noRow 23, ⟨3, .slice B1 (gNums mo).length e1, (gNums mo).length, ints (gNums mo)⟩, ⟨9, .slice B2 (gTexts mo).length e2, (gTexts mo).length, strs (gTexts mo)⟩, ⟨3, .slice U1 (rNums mo).length h1, (rNums mo).length, ints (rNums mo)⟩, ⟨9, .slice U2 (rTexts mo).length h2, (rTexts mo).length, strs (rTexts mo)⟩] [⟨9, .slice Y2 (rTexts mo).length j2, (rTexts mo).length, strs (rTexts mo)⟩, ⟨3, .slice Y1 (rNums mo).length j1, (rNums mo).length, ints (rNums mo)⟩] v4) := Lib.hid (by
        have hs := HBV.out.size
        refine Mem.rd1 (b := ⟨9, .slice Y2 (rTexts mo).length j2, (rTexts mo).length, strs (rTexts mo)⟩) (Mem.rd1 (b := ⟨3, .slice Y1 (rNums mo).length j1, (rNums mo).length, ints (rNums mo)⟩) HQ4.out (own_base hgot.o1 hs) (fun i a e => (off_of_new hgot.o1 (HQV.out.own i a e)).symm)) (own_base hgot.o2 hs) (fun i a e => (off_of_new hgot.o2 (HQV.out.own i a e)).symm))
      clear hg4 hgot hgv HBV HQV HXV HOV HZV HQ4
      go_upto_region 16 with fail
      obtain ⟨q, hq⟩ : ∃ q : Nat, v4.heap.size = q := ⟨_, rfl⟩
      obtain ⟨V, hV⟩ : ∃ W, (v4.alloc (.cells #[.int .i64 (rErr mo), .slice Y1 (rNums mo).length j1, .slice Y2 (rTexts mo).length j2] 52 (0, 0))).alloc (.cells (bkCs (.slice none 0 0) (.slice none 0 0) (.slice none 0 0) (.slice none 0 0)) 76 (0, 0)) = W := ⟨_, rfl⟩
      have hgV : v4.grownBy V none := by rw [← hV]; exact (World.grownBy_alloc v4 _ none).trans (World.grownBy_alloc _ _ none)
      have HBV : Hid (Below w.heap.size w V) := Lib.hid (below_grown HB4.out hgV HB4.out.size (by simp))
      have HKV : Hid (BkAt (q + 1) (bkCs (.slice none 0 0) (.slice none 0 0) (.slice none 0 0) (.slice none 0 0)) V) := Lib.hid (by
        have h1 := heap_alloc_new (v4.alloc (.cells #[.int .i64 (rErr mo), .slice Y1 (rNums mo).length j1, .slice Y2 (rTexts mo).length j2] 52 (0, 0))) (.cells (bkCs (.slice none 0 0) (.slice none 0 0) (.slice none 0 0) (.slice none 0 0)) 76 (0, 0))
        rw [hV] at h1
        rw [← hq]
        unfold BkAt
        simpa using h1)
      have HQb : Hid (V.heap[q]? = some (repBoxD (rErr mo) Y1 (rNums mo).length j1 Y2 (rTexts mo).length j2)) := Lib.hid (by
        rw [← hV, ← hq]
        exact (Below.heap_alloc _ _ _ (by simp)).trans (heap_alloc_new v4 _))
      have HXb := Lib.hid ((hgV.block x (blk_lt HX4.out) (by simp)).trans HX4.out)
      have HZb := Lib.hid ((hgV.block z (blk_lt HZ4.out) (by simp)).trans HZ4.out)
      have HKB : Hid (w.heap.size ≤ q + 1 ∧ w.heap.size ≤ q ∧ w.heap.size ≤ x ∧ w.heap.size ≤ z) := Lib.hid (by have h1 := HB4.out.size; have h2 := HWX.out; have h3 := HBM0.out; have h4 := HZ0.out; omega)
      have HQV : Hid (Mem w.heap.size [noRow 22, noRow 22, noRow 23, noRow 23, ⟨3, .slice B1 (gNums mo).length e1, (gNums mo).length, ints (gNums mo)⟩, ⟨9, .slice B2 (gTexts mo).length e2, (gTexts mo).length, strs (gTexts mo)⟩, ⟨3, .slice U1 (rNums mo).length h1, (rNums mo).length, ints (rNums mo)⟩, ⟨9, .slice U2 (rTexts mo).length h2, (rTexts mo).length, strs (rTexts mo)⟩] [boxRow 25 x [.int .i64 (gKind mo), .string (gParty mo), .slice B1 (gNums mo).length e1, .slice B2 (gTexts mo).length e2], boxRow 28 z [.int .i64 (rErr mo), .slice U1 (rNums mo).length h1, .slice U2 (rTexts mo).length h2], boxRow 52 q [.int .i64 (rErr mo), .slice Y1 (rNums mo).length j1, .slice Y2 (rTexts mo).length j2], ⟨9, .slice Y2 (rTexts mo).length j2, (rTexts mo).length, strs (rTexts mo)⟩, ⟨3, .slice Y1 (rNums mo).length j1, (rNums mo).length, ints (rNums mo)⟩] V) := Lib.hid
        ((((HQ5.out.old hgV).rdBox HQb.out HKB.out.2.1 (show (3 : Nat) ≤ maxLen by decide) rfl).rdBox HZb.out HKB.out.2.2.2 (show (3 : Nat) ≤ maxLen by decide) rfl).rdBox HXb.out HKB.out.2.2.1 (show (4 : Nat) ≤ maxLen by decide) rfl)
      obtain ⟨rr, hrr⟩ : ∃ rr, [boxRow 25 x [.int .i64 (gKind mo), .string (gParty mo), .slice B1 (gNums mo).length e1, .slice B2 (gTexts mo).length e2], boxRow 28 z [.int .i64 (rErr mo), .slice U1 (rNums mo).length h1, .slice U2 (rTexts mo).length h2], boxRow 52 q [.int .i64 (rErr mo), .slice Y1 (rNums mo).length j1, .slice Y2 (rTexts mo).length j2], ⟨9, .slice Y2 (rTexts mo).length j2, (rTexts mo).length, strs (rTexts mo)⟩, ⟨3, .slice Y1 (rNums mo).length j1, (rNums mo).length, ints (rNums mo)⟩] = rr := ⟨_, rfl⟩
      have HRR : Hid (rr.all (fun a => a.t != 76) = true) := Lib.hid (by rw [← hrr]; rfl)
      have HRX : Hid (∀ u l, Mem w.heap.size l rr u → u.heap[x]? = some (cmdBox (gKind mo) (gParty mo) B1 (gNums mo).length e1 B2 (gTexts mo).length e2) ∧ u.heap[z]? = some (repBox (rErr mo) U1 (rNums mo).length h1 U2 (rTexts mo).length h2) ∧ u.heap[q]? = some (repBoxD (rErr mo) Y1 (rNums mo).length j1 Y2 (rTexts mo).length j2) ∧ SlAt u Y1 (rNums mo).length j1 (ints (rNums mo)) ∧ SlAt u Y2 (rTexts mo).length j2 (strs (rTexts mo))) := Lib.hid (fun u l h => by
        rw [← hrr] at h
        exact ⟨row_box (h.rd _ (by simp)), row_box (h.rd _ (by simp)), row_box (h.rd _ (by simp)), SlAt.own (h.rd ⟨3, .slice Y1 (rNums mo).length j1, (rNums mo).length, ints (rNums mo)⟩ (by simp)), SlAt.own (h.rd ⟨9, .slice Y2 (rTexts mo).length j2, (rTexts mo).length, strs (rTexts mo)⟩ (by simp))⟩)
      rw [hrr] at HQV
      have eq2 : v4.heap.size + 1 = q + 1 := by omega
      rw [eq2, hq]
      simp only [bkCs] at hV
      rw [hV]
      clear hq hV hgV hrr HB4 HX4 HZ4 HQ5 HQb HXb HZb eq2
      have one_strs' : ∀ {xs : List (List UInt8)}, ∀ u ∈ strs xs, u.oneCell' = true := by
        intro xs u hu
        obtain ⟨y, _, rfl⟩ := List.mem_map.1 hu
        rfl
      have HQV0 := HQV
      have HKV0 := HKV
      have HBV0 := HBV
      clear HQV HKV HBV
      have HN0 : Hid (NoBk [noRow 22, noRow 22, noRow 23, noRow 23, ⟨3, .slice B1 (gNums mo).length e1, (gNums mo).length, ints (gNums mo)⟩, ⟨9, .slice B2 (gTexts mo).length e2, (gTexts mo).length, strs (gTexts mo)⟩, ⟨3, .slice U1 (rNums mo).length h1, (rNums mo).length, ints (rNums mo)⟩, ⟨9, .slice U2 (rTexts mo).length h2, (rTexts mo).length, strs (rTexts mo)⟩] rr) := Lib.hid (noBk_all rfl HRR.out)
      obtain ⟨hbx, hbz, _, _, _⟩ := HRX.out _ _ HQV0.out
      obtain ⟨bx0, bx1, bx2, bx3⟩ := cmdBox_cells hbx
      obtain ⟨bz0, bz1, bz2⟩ := repBox_cells hbz
      clear hbx hbz
      go_wp2_with fail
      refine (keepInts_any w.heap.size (q + 1) (bkCs (.slice none 0 0) (.slice none 0 0) (.slice none 0 0) (.slice none 0 0)) [noRow 22, noRow 22, noRow 23, noRow 23, ⟨3, .slice B1 (gNums mo).length e1, (gNums mo).length, ints (gNums mo)⟩, ⟨9, .slice B2 (gTexts mo).length e2, (gTexts mo).length, strs (gTexts mo)⟩, ⟨3, .slice U1 (rNums mo).length h1, (rNums mo).length, ints (rNums mo)⟩, ⟨9, .slice U2 (rTexts mo).length h2, (rTexts mo).length, strs (rTexts mo)⟩] rr 0 1 4 0 [] [] (ints (gNums mo)) none none B1 0 0 (gNums mo).length e1 _ HQV0.out HKV0.out HN0.out (by decide) (by decide) HKB.out.1 HBV0.out.size rfl rfl rfl rfl rfl (one_ints _) (by have := gNums_len mo; omega) (by omega)).mono ?_
      rintro e w10 ⟨AI, cI, AW, cW, A8, c8, ⟨u0, rfl⟩, hM, hK, hb⟩
      have HBV1 : Hid (Below w.heap.size w w10) := Lib.hid (HBV0.out.trans hb)
      have HQV1 : Hid (Mem w.heap.size [⟨22, .slice AI 1 cI, 1, [.slice B1 (gNums mo).length e1]⟩, ⟨22, .slice AW 1 cW, 1, [.slice A8 (gNums mo).length c8]⟩, noRow 23, noRow 23, ⟨3, .slice B1 (gNums mo).length e1, (gNums mo).length, ints (gNums mo)⟩, ⟨9, .slice B2 (gTexts mo).length e2, (gTexts mo).length, strs (gTexts mo)⟩, ⟨3, .slice U1 (rNums mo).length h1, (rNums mo).length, ints (rNums mo)⟩, ⟨9, .slice U2 (rTexts mo).length h2, (rTexts mo).length, strs (rTexts mo)⟩, ⟨3, .slice A8 (gNums mo).length c8, (gNums mo).length, ints (gNums mo)⟩] rr w10) := Lib.hid hM
      have HKV1 : Hid (BkAt (q + 1) (bkCs (.slice none 0 0) (.slice none 0 0) (.slice AI 1 cI) (.slice AW 1 cW)) w10) := Lib.hid hK
      clear hM hK hb bx0 bx1 bx2 bx3 bz0 bz1 bz2 HN0 HBV0 HQV0 HKV0
      have HN1 : Hid (NoBk [⟨22, .slice AI 1 cI, 1, [.slice B1 (gNums mo).length e1]⟩, ⟨22, .slice AW 1 cW, 1, [.slice A8 (gNums mo).length c8]⟩, noRow 23, noRow 23, ⟨3, .slice B1 (gNums mo).length e1, (gNums mo).length, ints (gNums mo)⟩, ⟨9, .slice B2 (gTexts mo).length e2, (gTexts mo).length, strs (gTexts mo)⟩, ⟨3, .slice U1 (rNums mo).length h1, (rNums mo).length, ints (rNums mo)⟩, ⟨9, .slice U2 (rTexts mo).length h2, (rTexts mo).length, strs (rTexts mo)⟩, ⟨3, .slice A8 (gNums mo).length c8, (gNums mo).length, ints (gNums mo)⟩] rr) := Lib.hid (noBk_all rfl HRR.out)
      obtain ⟨hbx, hbz, _, _, _⟩ := HRX.out _ _ HQV1.out
      obtain ⟨bx0, bx1, bx2, bx3⟩ := cmdBox_cells hbx
      obtain ⟨bz0, bz1, bz2⟩ := repBox_cells hbz
      clear hbx hbz
      go_wp2_with fail
      refine (keepTexts_any w.heap.size (q + 1) (bkCs (.slice none 0 0) (.slice none 0 0) (.slice AI 1 cI) (.slice AW 1 cW)) [⟨22, .slice AI 1 cI, 1, [.slice B1 (gNums mo).length e1]⟩, ⟨22, .slice AW 1 cW, 1, [.slice A8 (gNums mo).length c8]⟩, noRow 23, noRow 23, ⟨3, .slice B1 (gNums mo).length e1, (gNums mo).length, ints (gNums mo)⟩, ⟨9, .slice B2 (gTexts mo).length e2, (gTexts mo).length, strs (gTexts mo)⟩, ⟨3, .slice U1 (rNums mo).length h1, (rNums mo).length, ints (rNums mo)⟩, ⟨9, .slice U2 (rTexts mo).length h2, (rTexts mo).length, strs (rTexts mo)⟩, ⟨3, .slice A8 (gNums mo).length c8, (gNums mo).length, ints (gNums mo)⟩] rr 2 3 5 0 [] [] (strs (gTexts mo)) none none B2 0 0 (gTexts mo).length e2 _ HQV1.out HKV1.out HN1.out (by decide) (by decide) HKB.out.1 HBV1.out.size rfl rfl rfl rfl rfl one_strs' (by have := gTexts_len mo; omega) (by omega)).mono ?_
      rintro e w20 ⟨AT, cT, AV, cV, A9, c9, ⟨u1, rfl⟩, hM, hK, hb⟩
      have HBV2 : Hid (Below w.heap.size w w20) := Lib.hid (HBV1.out.trans hb)
      have HQV2 : Hid (Mem w.heap.size [⟨22, .slice AI 1 cI, 1, [.slice B1 (gNums mo).length e1]⟩, ⟨22, .slice AW 1 cW, 1, [.slice A8 (gNums mo).length c8]⟩, ⟨23, .slice AT 1 cT, 1, [.slice B2 (gTexts mo).length e2]⟩, ⟨23, .slice AV 1 cV, 1, [.slice A9 (gTexts mo).length c9]⟩, ⟨3, .slice B1 (gNums mo).length e1, (gNums mo).length, ints (gNums mo)⟩, ⟨9, .slice B2 (gTexts mo).length e2, (gTexts mo).length, strs (gTexts mo)⟩, ⟨3, .slice U1 (rNums mo).length h1, (rNums mo).length, ints (rNums mo)⟩, ⟨9, .slice U2 (rTexts mo).length h2, (rTexts mo).length, strs (rTexts mo)⟩, ⟨3, .slice A8 (gNums mo).length c8, (gNums mo).length, ints (gNums mo)⟩, ⟨9, .slice A9 (gTexts mo).length c9, (gTexts mo).length, strs (gTexts mo)⟩] rr w20) := Lib.hid hM
      have HKV2 : Hid (BkAt (q + 1) (bkCs (.slice AT 1 cT) (.slice AV 1 cV) (.slice AI 1 cI) (.slice AW 1 cW)) w20) := Lib.hid hK
      clear hM hK hb bx0 bx1 bx2 bx3 bz0 bz1 bz2 HN1 HBV1 HQV1 HKV1
      have HN2 : Hid (NoBk [⟨22, .slice AI 1 cI, 1, [.slice B1 (gNums mo).length e1]⟩, ⟨22, .slice AW 1 cW, 1, [.slice A8 (gNums mo).length c8]⟩, ⟨23, .slice AT 1 cT, 1, [.slice B2 (gTexts mo).length e2]⟩, ⟨23, .slice AV 1 cV, 1, [.slice A9 (gTexts mo).length c9]⟩, ⟨3, .slice B1 (gNums mo).length e1, (gNums mo).length, ints (gNums mo)⟩, ⟨9, .slice B2 (gTexts mo).length e2, (gTexts mo).length, strs (gTexts mo)⟩, ⟨3, .slice U1 (rNums mo).length h1, (rNums mo).length, ints (rNums mo)⟩, ⟨9, .slice U2 (rTexts mo).length h2, (rTexts mo).length, strs (rTexts mo)⟩, ⟨3, .slice A8 (gNums mo).length c8, (gNums mo).length, ints (gNums mo)⟩, ⟨9, .slice A9 (gTexts mo).length c9, (gTexts mo).length, strs (gTexts mo)⟩] rr) := Lib.hid (noBk_all rfl HRR.out)
      obtain ⟨hbx, hbz, _, _, _⟩ := HRX.out _ _ HQV2.out
      obtain ⟨bx0, bx1, bx2, bx3⟩ := cmdBox_cells hbx
      obtain ⟨bz0, bz1, bz2⟩ := repBox_cells hbz
      clear hbx hbz
      go_wp2_with fail
      refine (keepInts_any w.heap.size (q + 1) (bkCs (.slice AT 1 cT) (.slice AV 1 cV) (.slice AI 1 cI) (.slice AW 1 cW)) [⟨22, .slice AI 1 cI, 1, [.slice B1 (gNums mo).length e1]⟩, ⟨22, .slice AW 1 cW, 1, [.slice A8 (gNums mo).length c8]⟩, ⟨23, .slice AT 1 cT, 1, [.slice B2 (gTexts mo).length e2]⟩, ⟨23, .slice AV 1 cV, 1, [.slice A9 (gTexts mo).length c9]⟩, ⟨3, .slice B1 (gNums mo).length e1, (gNums mo).length, ints (gNums mo)⟩, ⟨9, .slice B2 (gTexts mo).length e2, (gTexts mo).length, strs (gTexts mo)⟩, ⟨3, .slice U1 (rNums mo).length h1, (rNums mo).length, ints (rNums mo)⟩, ⟨9, .slice U2 (rTexts mo).length h2, (rTexts mo).length, strs (rTexts mo)⟩, ⟨3, .slice A8 (gNums mo).length c8, (gNums mo).length, ints (gNums mo)⟩, ⟨9, .slice A9 (gTexts mo).length c9, (gTexts mo).length, strs (gTexts mo)⟩] rr 0 1 6 1 [.slice B1 (gNums mo).length e1] [.slice A8 (gNums mo).length c8] (ints (rNums mo)) AI AW U1 cI cW (rNums mo).length h1 _ HQV2.out HKV2.out HN2.out (by decide) (by decide) HKB.out.1 HBV2.out.size rfl rfl rfl rfl rfl (one_ints _) (by have := rNums_len mo; omega) (by omega)).mono ?_
      rintro e w30 ⟨AJ, cJ, AX, cX, A10, c10, ⟨u2, rfl⟩, hM, hK, hb⟩
      have HBV3 : Hid (Below w.heap.size w w30) := Lib.hid (HBV2.out.trans hb)
      have HQV3 : Hid (Mem w.heap.size [⟨22, .slice AJ 2 cJ, 2, [.slice B1 (gNums mo).length e1, .slice U1 (rNums mo).length h1]⟩, ⟨22, .slice AX 2 cX, 2, [.slice A8 (gNums mo).length c8, .slice A10 (rNums mo).length c10]⟩, ⟨23, .slice AT 1 cT, 1, [.slice B2 (gTexts mo).length e2]⟩, ⟨23, .slice AV 1 cV, 1, [.slice A9 (gTexts mo).length c9]⟩, ⟨3, .slice B1 (gNums mo).length e1, (gNums mo).length, ints (gNums mo)⟩, ⟨9, .slice B2 (gTexts mo).length e2, (gTexts mo).length, strs (gTexts mo)⟩, ⟨3, .slice U1 (rNums mo).length h1, (rNums mo).length, ints (rNums mo)⟩, ⟨9, .slice U2 (rTexts mo).length h2, (rTexts mo).length, strs (rTexts mo)⟩, ⟨3, .slice A8 (gNums mo).length c8, (gNums mo).length, ints (gNums mo)⟩, ⟨9, .slice A9 (gTexts mo).length c9, (gTexts mo).length, strs (gTexts mo)⟩, ⟨3, .slice A10 (rNums mo).length c10, (rNums mo).length, ints (rNums mo)⟩] rr w30) := Lib.hid hM
      have HKV3 : Hid (BkAt (q + 1) (bkCs (.slice AT 1 cT) (.slice AV 1 cV) (.slice AJ 2 cJ) (.slice AX 2 cX)) w30) := Lib.hid hK
      clear hM hK hb bx0 bx1 bx2 bx3 bz0 bz1 bz2 HN2 HBV2 HQV2 HKV2
      have HN3 : Hid (NoBk [⟨22, .slice AJ 2 cJ, 2, [.slice B1 (gNums mo).length e1, .slice U1 (rNums mo).length h1]⟩, ⟨22, .slice AX 2 cX, 2, [.slice A8 (gNums mo).length c8, .slice A10 (rNums mo).length c10]⟩, ⟨23, .slice AT 1 cT, 1, [.slice B2 (gTexts mo).length e2]⟩, ⟨23, .slice AV 1 cV, 1, [.slice A9 (gTexts mo).length c9]⟩, ⟨3, .slice B1 (gNums mo).length e1, (gNums mo).length, ints (gNums mo)⟩, ⟨9, .slice B2 (gTexts mo).length e2, (gTexts mo).length, strs (gTexts mo)⟩, ⟨3, .slice U1 (rNums mo).length h1, (rNums mo).length, ints (rNums mo)⟩, ⟨9, .slice U2 (rTexts mo).length h2, (rTexts mo).length, strs (rTexts mo)⟩, ⟨3, .slice A8 (gNums mo).length c8, (gNums mo).length, ints (gNums mo)⟩, ⟨9, .slice A9 (gTexts mo).length c9, (gTexts mo).length, strs (gTexts mo)⟩, ⟨3, .slice A10 (rNums mo).length c10, (rNums mo).length, ints (rNums mo)⟩] rr) := Lib.hid (noBk_all rfl HRR.out)
      obtain ⟨hbx, hbz, _, _, _⟩ := HRX.out _ _ HQV3.out
      obtain ⟨bx0, bx1, bx2, bx3⟩ := cmdBox_cells hbx
      obtain ⟨bz0, bz1, bz2⟩ := repBox_cells hbz
      clear hbx hbz
      go_wp2_with fail
      refine (keepTexts_any w.heap.size (q + 1) (bkCs (.slice AT 1 cT) (.slice AV 1 cV) (.slice AJ 2 cJ) (.slice AX 2 cX)) [⟨22, .slice AJ 2 cJ, 2, [.slice B1 (gNums mo).length e1, .slice U1 (rNums mo).length h1]⟩, ⟨22, .slice AX 2 cX, 2, [.slice A8 (gNums mo).length c8, .slice A10 (rNums mo).length c10]⟩, ⟨23, .slice AT 1 cT, 1, [.slice B2 (gTexts mo).length e2]⟩, ⟨23, .slice AV 1 cV, 1, [.slice A9 (gTexts mo).length c9]⟩, ⟨3, .slice B1 (gNums mo).length e1, (gNums mo).length, ints (gNums mo)⟩, ⟨9, .slice B2 (gTexts mo).length e2, (gTexts mo).length, strs (gTexts mo)⟩, ⟨3, .slice U1 (rNums mo).length h1, (rNums mo).length, ints (rNums mo)⟩, ⟨9, .slice U2 (rTexts mo).length h2, (rTexts mo).length, strs (rTexts mo)⟩, ⟨3, .slice A8 (gNums mo).length c8, (gNums mo).length, ints (gNums mo)⟩, ⟨9, .slice A9 (gTexts mo).length c9, (gTexts mo).length, strs (gTexts mo)⟩, ⟨3, .slice A10 (rNums mo).length c10, (rNums mo).length, ints (rNums mo)⟩] rr 2 3 7 1 [.slice B2 (gTexts mo).length e2] [.slice A9 (gTexts mo).length c9] (strs (rTexts mo)) AT AV U2 cT cV (rTexts mo).length h2 _ HQV3.out HKV3.out HN3.out (by decide) (by decide) HKB.out.1 HBV3.out.size rfl rfl rfl rfl rfl one_strs' (by have := rTexts_len mo; omega) (by omega)).mono ?_
      rintro e w40 ⟨AU, cU, AY, cY, A11, c11, ⟨u3, rfl⟩, hM, hK, hb⟩
      have HBV4 : Hid (Below w.heap.size w w40) := Lib.hid (HBV3.out.trans hb)
      have HQV4 : Hid (Mem w.heap.size [⟨22, .slice AJ 2 cJ, 2, [.slice B1 (gNums mo).length e1, .slice U1 (rNums mo).length h1]⟩, ⟨22, .slice AX 2 cX, 2, [.slice A8 (gNums mo).length c8, .slice A10 (rNums mo).length c10]⟩, ⟨23, .slice AU 2 cU, 2, [.slice B2 (gTexts mo).length e2, .slice U2 (rTexts mo).length h2]⟩, ⟨23, .slice AY 2 cY, 2, [.slice A9 (gTexts mo).length c9, .slice A11 (rTexts mo).length c11]⟩, ⟨3, .slice B1 (gNums mo).length e1, (gNums mo).length, ints (gNums mo)⟩, ⟨9, .slice B2 (gTexts mo).length e2, (gTexts mo).length, strs (gTexts mo)⟩, ⟨3, .slice U1 (rNums mo).length h1, (rNums mo).length, ints (rNums mo)⟩, ⟨9, .slice U2 (rTexts mo).length h2, (rTexts mo).length, strs (rTexts mo)⟩, ⟨3, .slice A8 (gNums mo).length c8, (gNums mo).length, ints (gNums mo)⟩, ⟨9, .slice A9 (gTexts mo).length c9, (gTexts mo).length, strs (gTexts mo)⟩, ⟨3, .slice A10 (rNums mo).length c10, (rNums mo).length, ints (rNums mo)⟩, ⟨9, .slice A11 (rTexts mo).length c11, (rTexts mo).length, strs (rTexts mo)⟩] rr w40) := Lib.hid hM
      have HKV4 : Hid (BkAt (q + 1) (bkCs (.slice AU 2 cU) (.slice AY 2 cY) (.slice AJ 2 cJ) (.slice AX 2 cX)) w40) := Lib.hid hK
      clear hM hK hb bx0 bx1 bx2 bx3 bz0 bz1 bz2 HN3 HBV3 HQV3 HKV3
      have HFIN : Hid (∀ u, w40.grownBy u none → Calls Tryz.prog 27 #[.pointer (some ⟨q + 1, 0, none⟩)] u fun en w' => en = .returned (.bool true) ∧ Below w.heap.size u w') := Lib.hid (fun u hu => by
        have hM := HQV4.out.old hu
        have hK := HKV4.out.old hu
        have hs : ∀ (l : List (List UInt8)), strs l = strV (l.map fun y => ⟨y.toArray⟩) := fun l => by simp [strs, strV]
        rw [hs, hs] at hM
        exact apart_any w.heap.size (q + 1) AJ AX AU AY B1 B2 U1 U2 A8 A9 A10 A11 cJ cX cU cY e1 e2 h1 h2 c8 c9 c10 c11 (gNums mo).length (gTexts mo).length (rNums mo).length (rTexts mo).length (gNums mo) (rNums mo) ((gTexts mo).map fun (y : List UInt8) => (⟨y.toArray⟩ : ByteArray)) ((rTexts mo).map fun (y : List UInt8) => (⟨y.toArray⟩ : ByteArray)) u (Nat.le_trans HBV4.out.size hu.size) hM.nord hK (by have := gNums_len mo; omega) (by have := gTexts_len mo; omega) (by have := rNums_len mo; omega) (by have := rTexts_len mo; omega))
      obtain ⟨_, hbz, hbq2, hy1, hy2⟩ := HRX.out _ _ HQV4.out
      have HBZ := Lib.hid hbz
      have HBQ := Lib.hid hbq2
      have HY := Lib.hid (And.intro hy1 hy2)
      have HU : Hid (SlAt w40 U1 (rNums mo).length h1 (ints (rNums mo)) ∧ SlAt w40 U2 (rTexts mo).length h2 (strs (rTexts mo))) := Lib.hid ⟨SlAt.own (HQV4.out.own 6 _ rfl), SlAt.own (HQV4.out.own 7 _ rfl)⟩
      have HBW := HBV4
      clear hbz hbq2 hy1 hy2 HQV4 HKV4 HBV4 HRX HRR
      go_wp2_with fail
      refine (HAL.out _).mono ?_
      rintro e w5 ⟨rfl, hb5⟩
      have HB5 := Lib.hid hb5
      have HB05 : Hid (Below w.heap.size w w5) := Lib.hid (HBW.out.trans (hb5.mono HBW.out.size))
      obtain ⟨bz0, bz1, bz2⟩ := repBox_cells ((hb5.block z (blk_lt HBZ.out)).trans HBZ.out)
      obtain ⟨bq0, bq1, bq2⟩ := repBoxD_cells ((hb5.block q (blk_lt HBQ.out)).trans HBQ.out)
      clear hb5
      go_wp2_with fail
      have hg5 : w40.grownBy w5 none := only_of_below HB5.out none
      have hts : ∀ (l : List (List UInt8)), strs l = strV (l.map fun y => ⟨y.toArray⟩) := fun l => by simp [strs, strV]
      refine (sameReply_any (rErr mo) U1 Y1 (rNums mo).length h1 j1 U2 Y2 (rTexts mo).length h2 j2 (rNums mo) ((rTexts mo).map fun (y : List UInt8) => (⟨y.toArray⟩ : ByteArray)) _ (HU.out.1.old hg5).ints (HY.out.1.old hg5).ints (SlAt.texts (n := (rTexts mo).length) (c := h2) (by rw [← hts]; exact HU.out.2.old hg5)) (SlAt.texts (n := (rTexts mo).length) (c := j2) (by rw [← hts]; exact HY.out.2.old hg5)) rfl (by simp) (rNums_len mo) (rTexts_len mo)).mono ?_
      rintro e w6 ⟨rfl, hb6⟩
      have HB06 : Hid (Below w.heap.size w w6) := Lib.hid (HB05.out.trans (hb6.mono HB05.out.size))
      have HG6 : Hid (w40.grownBy w6 none) := Lib.hid (hg5.trans (only_of_below hb6 none))
      clear hb6 hg5 hts bz0 bz1 bz2 bq0 bq1 bq2
      go_wp2_with fail
      refine (HFIN.out _ HG6.out).mono ?_
      rintro e w7 ⟨rfl, hb7⟩
      have HB07 : Hid (Below w.heap.size w w7) := Lib.hid (HB06.out.trans hb7)
      clear hb7
      go_wp2_with fail
      refine bodyPost_ret (results_tmp rfl _ _ _) rfl ?_
      exact ⟨rfl, HB07.out⟩
end Go.Proofs.YthlpdficpmdebaaGreat.Wire
