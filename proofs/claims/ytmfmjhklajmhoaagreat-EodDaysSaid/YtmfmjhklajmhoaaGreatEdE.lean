/- hall.Picture: some text, and nothing of old has changed. -/
import Derived.Test.YtmfmjhklajmhoaaGreatEdC
import Derived.Test.YtmfmjhklajmhoaaGreatEdDa
import Derived.Test.YtmfmjhklajmhoaaGreatEdA
import Derived.Test.YtmfmjhklajmhoaaGreatGvSnapq
namespace Go.Proofs.YtmfmjhklajmhoaaGreat.Ed
open Go Go.RowKit Go.Lib Go.Maps Wire
set_option maxRecDepth 20000 in
set_option maxHeartbeats 4000000 in
theorem picture_any (hb r l b g li c p u n : Nat) (D : DataW Unit) (today : Int) (w : World) (h : St w hb r l b g li c p u n D today) (hn : n ≤ 300) (ht : okI today) :
 Calls Tryz.prog 8 #[.pointer (some ⟨hb, 0, none⟩)] w fun e w' => (∃ s, e = .returned (.string s)) ∧ Below w.heap.size w w' := by
 obtain ⟨tH, hH⟩ := h.hall.hall
 have HN := Lib.hid (hallNone_no hb r l b g li today w hH)
 have HS := Lib.hid h
 clear h hH
 go_enter Tryz.func8, Tryz.ntmps8
 go_wp2_with (first
  | (go_at_call 27; refine HN.out.mono ?_; rintro e w1 ⟨rfl, rfl⟩)
  | (go_at_call 28; refine (newW w).mono ?_; rintro e w1 ⟨rfl, hw1, hb1⟩
     have HD := Lib.hid (data_w w w.heap.size 0 hb r l b g li c n 100 D today w1 hb1 HS.out.hall HS.out.ref hw1 (by omega) hn (by omega) ht)
     clear hw1 hb1)
  | (go_at_call 29; refine HD.out.mono ?_; rintro e w2 ⟨⟨u2, rfl⟩, hw2, hb2⟩
     have HP := Lib.hid (positions_w w.heap.size w.heap.size (0 + 10000000) hb l p w2 (HS.out.po.below hb2) hw2 (by omega))
     have HB2 := Lib.hid hb2
     clear hw2 hb2 HD)
  | (go_at_call 30; refine HP.out.mono ?_; rintro e w3 ⟨⟨u3, rfl⟩, hw3, hb3⟩
     have HB3 := Lib.hid (HB2.out.trans hb3)
     have HT := Lib.hid (trades_w w.heap.size w.heap.size (0 + 10000000 + 30) hb b g u li w3 (HS.out.tr.below HB3.out) hw3 (by omega))
     clear hw3 hb3 HP HB2)
  | (go_at_call 31; refine HT.out.mono ?_; rintro e w4 ⟨⟨u4, rfl⟩, hw4, hb4⟩
     have HB4 := Lib.hid (HB3.out.trans hb4)
     have HY := Lib.hid (bytes_w _ _ _ w4 hw4)
     clear hw4 hb4 HT HB3)
  | (go_at_call 32; refine HY.out.mono ?_; rintro e w5 ⟨⟨s, e', rfl⟩, rfl⟩))
 exact bodyPost_ret (results_tmp rfl _ _ _) rfl ⟨⟨s, rfl⟩, HB4.out⟩
end Go.Proofs.YtmfmjhklajmhoaaGreat.Ed
/- Where at most m days are closed the next day of business is there, and not far. -/
namespace Go.Proofs.YtmfmjhklajmhoaaGreat.Ed
open Go Go.RowKit Go.Lib Go.Maps
def closedL (D : DataW Unit) : List Int := match D with
 | .map es => es.map fun p => match p.1 with | .int _ x => x | _ => 0
 | _ => []
theorem closedL_le (D : DataW Unit) : (closedL D).length ≤ Maps.size D := by
 unfold closedL
 split
 · simp [Maps.size]
 · simp
theorem open_of {D : DataW Unit} {d : Int} (h : openDay (closedL D) d = true) : openD D d = true := by
 unfold openDay at h
 simp only [Bool.and_eq_true, decide_eq_true_eq, Bool.not_eq_true'] at h
 obtain ⟨h1, h2, h3, h4⟩ := h
 have h5 : Maps.has D (.int .i64 d) = false := by
  cases hh : Maps.has D (.int .i64 d) with
  | false => rfl
  | true =>
    exfalso
    cases D with
    | map es =>
      rw [Maps.has_eq, List.any_eq_true] at hh
      obtain ⟨p, hp, hk⟩ := hh
      have he := Go.WideAt.sameKey_eq hk
      have hm : d ∈ closedL (.map es) := by
       unfold closedL
       rw [List.mem_map]
       exact ⟨p, hp, by rw [he]⟩
      rw [List.contains_eq_mem, decide_eq_false_iff_not] at h4
      exact h4 hm
    | _ => simp [Maps.has] at hh
 unfold openD dayB
 simp [h1, h2, h3, h5]
theorem next_ok (D : DataW Unit) (m : Nat) (hm : Maps.size D ≤ m) (t : Int) (h0 : -1 ≤ t) (h1 : t + 7 * m + 14 ≤ 1000000) : t < nextD D t ∧ nextD D t ≤ t + 7 * m + 14 ∧ openD D (nextD D t) = true := by
 obtain ⟨d, hd1, hd2, hd3⟩ := next_there (closedL D) m (Nat.le_trans (closedL_le D) hm) t h0 h1
 have := nextUp_open (openD D) (1000000 - t).toNat t d hd1 (by omega) (open_of hd3)
 unfold nextD
 exact ⟨this.1, by omega, this.2.2⟩
end Go.Proofs.YtmfmjhklajmhoaaGreat.Ed
/- World: a hall in which parties, accounts and assets stand, and nothing else. -/
namespace Go.Proofs.YtmfmjhklajmhoaaGreat.Ed
open Go Go.RowKit Go.Lib Go.Maps Gv
def kl : V → List UInt8
 | .str n v => strL n v
 | _ => []
def kB : V → Bool
 | .str n _ => decide (n ≤ 1000)
 | _ => false
def ptB : V → Bool
 | .agg [.str n _, .int .i64 x] => decide (n ≤ 1000) && (Lit.int .i64 x).wf
 | _ => false
def acB : V → Bool
 | .agg [.str n _, .str m _] => decide (n ≤ 1000) && decide (m ≤ 1000)
 | _ => false
def asB : V → Bool
 | .agg [.str n _, .bool _, .bool _, .int .i64 x3, .int .i64 x4, .int .i64 x5, .int .i64 x6, .int .i64 x7] => decide (n ≤ 1000) && ((Lit.int .i64 x3).wf && ((Lit.int .i64 x4).wf && ((Lit.int .i64 x5).wf && ((Lit.int .i64 x6).wf && (Lit.int .i64 x7).wf))))
 | _ => false
theorem strL_len : ∀ n v : Nat, (strL n v).length = n
 | 0, _ => rfl
 | n + 1, v => by simp [strL, strL_len n]
theorem str_size (n v : Nat) : (⟨(strL n v).toArray⟩ : ByteArray).size = n := by
 show (strL n v).toArray.size = n
 rw [List.size_toArray, strL_len]
section
variable {G : Gh} {φ : Mp} {v : V} {u : Value}
theorem kB_ok (h : kB v = true) (e : conc G φ v = some u) : u = .string ⟨(kl v).toArray⟩ ∧ (⟨(kl v).toArray⟩ : ByteArray).size ≤ 1000 := by
 unfold kB at h
 split at h
 · rw [conc] at e
   cases e
   exact ⟨rfl, by show (⟨(strL _ _).toArray⟩ : ByteArray).size ≤ 1000; rw [str_size]; exact of_decide_eq_true h⟩
 · cases h
theorem len1000 {n v : Nat} (h : n ≤ 1000) : (⟨(strL n v).toArray⟩ : ByteArray).size ≤ maxLen := by rw [str_size]; unfold maxLen; omega
theorem ptB_ok (h : ptB v = true) (e : conc G φ v = some u) : ∃ z, PtR u = some z := by
 unfold ptB at h
 split at h
 · simp only [Bool.and_eq_true, decide_eq_true_eq] at h
   simp only [conc, concL] at e
   cases e
   exact ⟨_, PtR_mk ⟨_, _, rfl, len1000 h.1, h.2⟩⟩
 · cases h
theorem acB_ok (h : acB v = true) (e : conc G φ v = some u) : ∃ z, AcR u = some z := by
 unfold acB at h
 split at h
 · simp only [Bool.and_eq_true, decide_eq_true_eq] at h
   simp only [conc, concL] at e
   cases e
   exact ⟨_, AcR_mk ⟨_, _, rfl, len1000 h.1, len1000 h.2⟩⟩
 · cases h
theorem asB_ok (h : asB v = true) (e : conc G φ v = some u) : ∃ z, AsR u = some z := by
 unfold asB at h
 split at h
 · simp only [Bool.and_eq_true, decide_eq_true_eq] at h
   simp only [conc, concL] at e
   cases e
   exact ⟨_, AsR_mk ⟨_, _, _, _, _, _, _, _, rfl, len1000 h.1, h.2.1, h.2.2.1, h.2.2.2.1, h.2.2.2.2.1, h.2.2.2.2.2⟩⟩
 · cases h
theorem conc_ptr {b o : Nat} (h : conc G φ (.ptr b o) = some u) : ∃ l, φ b = some l ∧ u = .pointer (some ⟨l.blk, o, none⟩) := by
 rw [conc] at h
 cases hb : φ b with
 | none => rw [hb] at h; cases h
 | some l => rw [hb] at h; cases h; exact ⟨l, rfl, rfl⟩
theorem conc_map {b : Nat} (h : conc G φ (.map b) = some u) : ∃ l, φ b = some l ∧ u = .map (some l.blk) := by
 rw [conc] at h
 cases hb : φ b with
 | none => rw [hb] at h; cases h
 | some l => rw [hb] at h; cases h; exact ⟨l, rfl, rfl⟩
theorem conc_ns (h : conc G φ .nilslice = some u) : u = .slice none 0 0 := by rw [conc] at h; cases h; rfl
theorem conc_nm (h : conc G φ .nilmap = some u) : u = .map none := by rw [conc] at h; cases h; rfl
theorem conc_int {k : IntKind} {n : Int} (h : conc G φ (.int k n) = some u) : u = .int k n := by rw [conc] at h; cases h; rfl
theorem conc_bool {b : Bool} (h : conc G φ (.bool b) = some u) : u = .bool b := by rw [conc] at h; cases h; rfl
variable {h : H} {w : World} {b : Nat} {lc : Gv.Loc}
theorem lit_block (r : HRel G φ h w) {cs : T V} {n sz : Nat} (hb : h.t.get b = some (.cells cs n sz true)) (hl : φ b = some lc) :
 ∃ C e, w.heap[lc.blk]? = some (.cells C e (0, 0)) ∧ C.size = n ∧ ∀ (i : Nat) (v : V), i < n → cs.get i = some v → ∃ u, conc G φ v = some u ∧ C[i]? = some u ∧ w.cell? ⟨lc.blk, i, none⟩ = some u := by
 obtain ⟨C, e, h1, h2, h3, h4⟩ := r.cells hb hl
 refine ⟨C, e, h1, by rw [h2, h3 rfl]; omega, fun i v hi hv => ?_⟩
 obtain ⟨u, k1, k2⟩ := h4 i v hi hv
 exact ⟨u, k1, k2, by simp [World.cell?, h1, k2]⟩
theorem arr_of {C : Array Value} {l : List Value} (h : C.size = l.length) (hc : ∀ (i : Nat) (u : Value), l[i]? = some u → C[i]? = some u) : C = l.toArray := by
 have e : C.toList = l := by
  refine List.ext_getElem? fun i => ?_
  rw [Array.getElem?_toList]
  cases hl : l[i]? with
  | some u => exact hc i u hl
  | none =>
    rw [List.getElem?_eq_none_iff] at hl
    exact Array.getElem?_eq_none (by omega)
 rw [← e]
theorem own_lit {R : Value → Option (DataW Unit × List MemPlace)} {es : List (V × V)} {bs : List Nat} {clk N : Nat} (r : HRel G φ h w) (hb : h.t.get b = some (.map es bs clk)) (hl : φ b = some lc)
 (hk : es.all (fun q => kB q.1) = true) (hd : decide (es.map fun q => kl q.1).Nodup = true) (hv : ∀ q ∈ es, ∀ u, conc G φ q.2 = some u → ∃ z, R u = some z) (hN : es.length ≤ N) (hN2 : N ≤ 1000) :
 ∃ D, w.ownsMap Tryz.prog 9 R lc.blk N D ∧ ShortKeys w lc.blk := by
 obtain ⟨E, h1, ⟨⟨h2, h2'⟩, _⟩, h4, h5⟩ := r.blk b _ lc hb hl
 have hx : ∀ (i : Nat) (x : MapEntry), E.toList[i]? = some x → ∃ q, es[i]? = some q ∧ x.key = .string ⟨(kl q.1).toArray⟩ ∧ (⟨(kl q.1).toArray⟩ : ByteArray).size ≤ 1000 ∧ ∃ z, R x.val = some z := fun i x hi => by
  have hil : i < E.toList.length := (List.getElem?_eq_some_iff.1 hi).1
  have hi' : i < es.length := by rw [Array.length_toList] at hil; omega
  obtain ⟨e, e1, e2, e3⟩ := h5 i es[i].1 es[i].2 (List.getElem?_eq_getElem hi')
  have he : e = x := by rw [Array.getElem?_toList] at hi; rw [e1] at hi; exact Option.some.inj hi
  subst he
  have hm := List.getElem_mem hi'
  have k1 := kB_ok (List.all_eq_true.1 hk _ hm) e2
  exact ⟨es[i], List.getElem?_eq_getElem hi', k1.1, k1.2, hv _ hm _ e3⟩
 have hmem : ∀ x ∈ E.toList, ∃ s : ByteArray, x.key = .string s ∧ s.size ≤ 1000 ∧ ∃ z, R x.val = some z := fun x hm => by
  obtain ⟨i, hi⟩ := List.getElem?_of_mem hm
  obtain ⟨q, _, k1, k2, k3⟩ := hx i x hi
  exact ⟨_, k1, k2, k3⟩
 have hkeys : E.toList.map (·.key) = es.map fun q => Value.string ⟨(kl q.1).toArray⟩ := by
  refine List.ext_getElem? fun i => ?_
  rw [List.getElem?_map, List.getElem?_map]
  cases hi : E.toList[i]? with
  | some x =>
    obtain ⟨q, k0, k1, _⟩ := hx i x hi
    rw [k0]
    simp [k1]
  | none =>
    rw [List.getElem?_eq_none_iff, Array.length_toList] at hi
    rw [List.getElem?_eq_none_iff.2 (by omega)]
    rfl
 have hnd : (E.toList.map (·.key)).Nodup := by
  rw [hkeys]
  have h0 := of_decide_eq_true hd
  unfold List.Nodup at h0 ⊢
  rw [List.pairwise_map] at h0 ⊢
  exact h0.imp fun hne e => hne (by injection e with e; injection e with e; simpa using congrArg Array.toList e)
 refine ⟨_, ⟨E, clk, h1, ⟨by unfold maxLen; omega, ⟨h2, h2', hnd⟩, fun x hm => ?_⟩, by omega, rfl⟩, fun es' clk' he x hm => ?_⟩
 · obtain ⟨s, k1, k2, z, k3⟩ := hmem x hm
   obtain ⟨key, val, born⟩ := x
   simp only at k1 k3
   subst k1
   exact ⟨_, WideElems.rd_mk (Go.WideMaps.keyOf_string_mk Tryz.underlying9 (by unfold maxLen; omega)) k3⟩
 · rw [h1] at he
   cases he
   obtain ⟨s, k1, k2, _⟩ := hmem x hm
   exact ⟨s, k1, k2⟩
theorem own_none {clk : Nat} (r : HRel G φ h w) (hb : h.t.get b = some (.map [] [] clk)) (hl : φ b = some lc) : ∃ D : DataW Unit, w.ownsMap Tryz.prog 3 unitElem lc.blk 0 D := by
 obtain ⟨E, h1, _, h4, _⟩ := r.blk b _ lc hb hl
 have hE : E = #[] := Array.eq_empty_of_size_eq_zero h4
 subst hE
 exact ⟨_, #[], clk, h1, ⟨by simp, ⟨by simp, by simp, by simp⟩, by simp⟩, by simp, rfl⟩
end
end Go.Proofs.YtmfmjhklajmhoaaGreat.Ed
/- World, run: what it hands back. -/
namespace Go.Proofs.YtmfmjhklajmhoaaGreat.Ed
open Go Go.RowKit Go.Lib Go.Maps Gv Gv.Lt
def e1 : List (V × V) := [(s 4 0x4b4e4142, a [s 4 0x4b4e4142, i 0]), (s 1 0x50, a [s 1 0x50, i 1000]), (s 1 0x51, a [s 1 0x51, i 100]), (s 1 0x52, a [s 1 0x52, i 0])]
def e2 : List (V × V) := [(s 4 0x4b4e4142, a [s 4 0x4b4e4142, s 4 0x4b4e4142]), (s 2 0x4150, a [s 2 0x4150, s 1 0x50]), (s 2 0x4250, a [s 2 0x4250, s 1 0x50]), (s 2 0x4151, a [s 2 0x4151, s 1 0x51]), (s 2 0x4251, a [s 2 0x4251, s 1 0x51]), (s 2 0x4152, a [s 2 0x4152, s 1 0x52]), (s 2 0x4252, a [s 2 0x4252, s 1 0x52])]
def e3 : List (V × V) := [(s 1 0x58, a [s 1 0x58, b false, b true, i 1, i 1, i 10, i 1000, i 0]), (s 1 0x59, a [s 1 0x59, b false, b true, i 10, i 20, i 3, i 5000, i 0]), (s 1 0x5a, a [s 1 0x5a, b false, b false, i 5, i 10, i 7, i 0, i 0]), (s 3 0x525545, a [s 3 0x525545, b true, b false, i 1, i 1, i 0, i 0, i 2]), (s 3 0x445355, a [s 3 0x445355, b true, b false, i 1, i 1, i 0, i 0, i 0])]
noncomputable def edL : List (Nat × B) := [C 0 1 1 true [ns], C 1 2 2 true [p 0 0, ns], C 2 1 1 true [m 3], M 3 [] [] 0, C 6 4 4 true [p 2 0, m 139, m 153, m 184], C 7 1 1 true [nm], C 8 3 3 true [p 7 0, nm, nm], C 9 1 1 true [ns], C 10 1 1 true [nm],
C 11 6 6 true [p 6 0, p 8 0, p 9 0, p 1 0, p 10 0, i 0],
M 139 e1 [0, 1, 2, 3] 4,
M 153 e2 [0, 1, 2, 3, 4, 5, 6] 7,
M 184 e3 [0, 1, 2, 3, 4] 5]
noncomputable def edW : SN := ⟨5, [], [], 0, t [p 11 0, p 19 0, b true], edL, 210⟩
theorem edRun : isSn edW (callN (evE Tryz.prog (libH (mapsH [] [] [] nilH)) [] [] []) 100 edW.f edW.args edW.h0) = true := by kernel_rfl
set_option maxRecDepth 100000 in
theorem edOk : SNOk Tryz.prog (mkGh [] [] rfl) edW := snap_ok progOk noFacts (libH_ok (mapsH_ok noFacts nilH_ok)) 100 edW Tryz.func5 rfl edRun
theorem g0 : edW.h1.t.get 0 = some (C 0 1 1 true [ns]).2 := by kernel_rfl
theorem g1 : edW.h1.t.get 1 = some (C 1 2 2 true [p 0 0, ns]).2 := by kernel_rfl
theorem g2 : edW.h1.t.get 2 = some (C 2 1 1 true [m 3]).2 := by kernel_rfl
theorem g3 : edW.h1.t.get 3 = some (.map [] [] 0) := by kernel_rfl
theorem g6 : edW.h1.t.get 6 = some (C 6 4 4 true [p 2 0, m 139, m 153, m 184]).2 := by kernel_rfl
theorem g7 : edW.h1.t.get 7 = some (C 7 1 1 true [nm]).2 := by kernel_rfl
theorem g8 : edW.h1.t.get 8 = some (C 8 3 3 true [p 7 0, nm, nm]).2 := by kernel_rfl
theorem g9 : edW.h1.t.get 9 = some (C 9 1 1 true [ns]).2 := by kernel_rfl
theorem g10 : edW.h1.t.get 10 = some (C 10 1 1 true [nm]).2 := by kernel_rfl
theorem g11 : edW.h1.t.get 11 = some (C 11 6 6 true [p 6 0, p 8 0, p 9 0, p 1 0, p 10 0, i 0]).2 := by kernel_rfl
theorem g139 : edW.h1.t.get 139 = some (.map e1 [0, 1, 2, 3] 4) := by kernel_rfl
theorem q139 : e1.length ≤ 100 ∧ e1.all (fun q => kB q.1) = true ∧ decide (e1.map fun q => kl q.1).Nodup = true ∧ e1.all (fun q => ptB q.2) = true := ⟨by decide, by kernel_rfl, by kernel_rfl, by kernel_rfl⟩
theorem g153 : edW.h1.t.get 153 = some (.map e2 [0, 1, 2, 3, 4, 5, 6] 7) := by kernel_rfl
theorem q153 : e2.length ≤ 100 ∧ e2.all (fun q => kB q.1) = true ∧ decide (e2.map fun q => kl q.1).Nodup = true ∧ e2.all (fun q => acB q.2) = true := ⟨by decide, by kernel_rfl, by kernel_rfl, by kernel_rfl⟩
theorem g184 : edW.h1.t.get 184 = some (.map e3 [0, 1, 2, 3, 4] 5) := by kernel_rfl
theorem q184 : e3.length ≤ 100 ∧ e3.all (fun q => kB q.1) = true ∧ decide (e3.map fun q => kl q.1).Nodup = true ∧ e3.all (fun q => asB q.2) = true := ⟨by decide, by kernel_rfl, by kernel_rfl, by kernel_rfl⟩
set_option maxRecDepth 100000 in
theorem world_any (w : World) : Calls Tryz.prog 5 #[] w fun e w' => ∃ (hb r l b g li c p u rb : Nat) (D : DataW Unit),
 e = .returned (.tuple #[.pointer (some ⟨hb, 0, none⟩), .pointer (some ⟨rb, 0, none⟩), .bool true]) ∧ St w' hb r l b g li c p u 0 D 0 ∧ Apart hb r l b g li c p u ∧ (w.heap.size ≤ hb ∧ w.heap.size ≤ c) ∧ Below w.heap.size w w' := by
 refine (edOk.run (fun _ => none) w [] concL_nil ⟨fun b x l hb => (nomatch hb), fun b b' x x' l l' hb => (nomatch hb), fun b _ => rfl⟩ (fun _ _ _ => rfl)).mono ?_
 rintro e w' ⟨u0, rfl, φ, hu, rr, f, x⟩
 have hu' : conc (mkGh [] [] rfl) φ (.tuple [.ptr 11 0, .ptr 19 0, .bool true]) = some u0 := hu
 have noF : ∀ k, ¬ Foot (fun _ => none) edW.h0 k := fun k ⟨b, y, l, h1, h2, _⟩ => (nomatch h2)
 have inj : ∀ {b b' : Nat} {y y' : B} {k k' : Gv.Loc}, edW.h1.t.get b = some y → edW.h1.t.get b' = some y' → φ b = some k → φ b' = some k' → y'.isRo = false → b ≠ b' → k.blk ≠ k'.blk := fun h1 h2 h3 h4 h5 h6 e => h6 (rr.inj1 h1 h2 h3 h4 h5 e)
 have new : ∀ {b : Nat} {y : B} {k : Gv.Loc}, edW.h1.t.get b = some y → φ b = some k → w.heap.size ≤ k.blk := fun {b y k} h1 h2 => by
  refine Nat.le_of_not_lt fun hlt => noF _ (x.foot k.blk ⟨b, y, k, h1, h2, rfl⟩ hlt)
 rw [conc] at hu'
 cases hL : concL (mkGh [] [] rfl) φ [.ptr 11 0, .ptr 19 0, .bool true] with
 | none => rw [hL] at hu'; cases hu'
 | some ml =>
 rw [hL] at hu'
 cases hu'
 obtain ⟨uh, l1, huh, hl1, rfl⟩ := concL_cons.1 hL
 obtain ⟨ur, l2, hur, hl2, rfl⟩ := concL_cons.1 hl1
 obtain ⟨ub, l3, hub, hl3, rfl⟩ := concL_cons.1 hl2
 rw [concL_nil] at hl3
 cases hl3
 obtain ⟨k11, p11, rfl⟩ := conc_ptr huh
 obtain ⟨k19, p19, rfl⟩ := conc_ptr hur
 obtain rfl := conc_bool hub
 obtain ⟨C11, e11, b11, z11, c11⟩ := lit_block rr g11 p11
 obtain ⟨u110, d110, a110, _⟩ := c11 0 (.ptr 6 0) (by decide) rfl
 obtain ⟨u111, d111, a111, _⟩ := c11 1 (.ptr 8 0) (by decide) rfl
 obtain ⟨u112, d112, a112, _⟩ := c11 2 (.ptr 9 0) (by decide) rfl
 obtain ⟨u113, d113, a113, _⟩ := c11 3 (.ptr 1 0) (by decide) rfl
 obtain ⟨u114, d114, a114, _⟩ := c11 4 (.ptr 10 0) (by decide) rfl
 obtain ⟨u115, d115, a115, _⟩ := c11 5 (.int .i64 0) (by decide) rfl
 obtain ⟨k6, p6, rfl⟩ := conc_ptr d110
 obtain ⟨k8, p8, rfl⟩ := conc_ptr d111
 obtain ⟨k9, p9, rfl⟩ := conc_ptr d112
 obtain ⟨k1, p1, rfl⟩ := conc_ptr d113
 obtain ⟨k10, p10, rfl⟩ := conc_ptr d114
 obtain rfl := conc_int d115
 have h11 : C11 = #[p0 k6.blk, p0 k8.blk, p0 k9.blk, p0 k1.blk, p0 k10.blk, .int .i64 0] := by
  refine arr_of (l := [p0 k6.blk, p0 k8.blk, p0 k9.blk, p0 k1.blk, p0 k10.blk, .int .i64 0]) z11 fun i u hi => ?_
  match i, hi with
  | 0, hi => cases hi; exact a110
  | 1, hi => cases hi; exact a111
  | 2, hi => cases hi; exact a112
  | 3, hi => cases hi; exact a113
  | 4, hi => cases hi; exact a114
  | 5, hi => cases hi; exact a115
  | n + 6, hi => cases hi
 subst h11
 obtain ⟨C6, e6, b6, z6, c6⟩ := lit_block rr g6 p6
 obtain ⟨u60, d60, _, a60⟩ := c6 0 (.ptr 2 0) (by decide) rfl
 obtain ⟨u61, d61, _, a61⟩ := c6 1 (.map 139) (by decide) rfl
 obtain ⟨u62, d62, _, a62⟩ := c6 2 (.map 153) (by decide) rfl
 obtain ⟨u63, d63, _, a63⟩ := c6 3 (.map 184) (by decide) rfl
 obtain ⟨k2, p2, rfl⟩ := conc_ptr d60
 obtain ⟨k139, p139, rfl⟩ := conc_map d61
 obtain ⟨k153, p153, rfl⟩ := conc_map d62
 obtain ⟨k184, p184, rfl⟩ := conc_map d63
 obtain ⟨C2, e2, b2, z2, c2⟩ := lit_block rr g2 p2
 obtain ⟨u20, d20, _, a20⟩ := c2 0 (.map 3) (by decide) rfl
 obtain ⟨k3, p3, rfl⟩ := conc_map d20
 obtain ⟨C8, e8, b8, z8, c8⟩ := lit_block rr g8 p8
 obtain ⟨u80, d80, _, a80⟩ := c8 0 (.ptr 7 0) (by decide) rfl
 obtain ⟨u81, d81, _, a81⟩ := c8 1 .nilmap (by decide) rfl
 obtain ⟨u82, d82, _, a82⟩ := c8 2 .nilmap (by decide) rfl
 obtain ⟨k7, p7, rfl⟩ := conc_ptr d80
 obtain rfl := conc_nm d81
 obtain rfl := conc_nm d82
 obtain ⟨C7, e7, b7, z7, c7⟩ := lit_block rr g7 p7
 obtain ⟨u70, d70, _, a70⟩ := c7 0 .nilmap (by decide) rfl
 obtain rfl := conc_nm d70
 obtain ⟨C9, e9, b9, z9, c9⟩ := lit_block rr g9 p9
 obtain ⟨u90, d90, _, a90⟩ := c9 0 .nilslice (by decide) rfl
 obtain rfl := conc_ns d90
 obtain ⟨C1, e1, b1, z1, c1⟩ := lit_block rr g1 p1
 obtain ⟨u10, d10, _, a10⟩ := c1 0 (.ptr 0 0) (by decide) rfl
 obtain ⟨u1s, d1s, _, a1s⟩ := c1 1 .nilslice (by decide) rfl
 obtain ⟨k0, q0, rfl⟩ := conc_ptr d10
 obtain rfl := conc_ns d1s
 obtain ⟨C0, e0, b0, z0, c0⟩ := lit_block rr g0 q0
 obtain ⟨u00, d00, _, a00⟩ := c0 0 .nilslice (by decide) rfl
 obtain rfl := conc_ns d00
 obtain ⟨C10, e10, b10, z10, c10⟩ := lit_block rr g10 p10
 obtain ⟨uA0, dA0, aA0, _⟩ := c10 0 .nilmap (by decide) rfl
 obtain rfl := conc_nm dA0
 have h10 : C10 = #[.map none] := by
  refine arr_of (l := [.map none]) z10 fun i u hi => ?_
  match i, hi with
  | 0, hi => cases hi; exact aA0
  | n + 1, hi => cases hi
 subst h10
 obtain ⟨D3, o3⟩ := own_none rr g3 p3
 obtain ⟨L1, K1, N1, V1⟩ := q139
 obtain ⟨L2, K2, N2, V2⟩ := q153
 obtain ⟨L3, K3, N3, V3⟩ := q184
 obtain ⟨D1, o1, s1⟩ := own_lit (R := PtR) (N := 100) rr g139 p139 K1 N1 (fun q hq u hu => ptB_ok (List.all_eq_true.1 V1 q hq) hu) L1 (by decide)
 obtain ⟨D2, o2, s2⟩ := own_lit (R := AcR) (N := 100) rr g153 p153 K2 N2 (fun q hq u hu => acB_ok (List.all_eq_true.1 V2 q hq) hu) L2 (by decide)
 obtain ⟨D4, o4, s4⟩ := own_lit (R := AsR) (N := 100) rr g184 p184 K3 N3 (fun q hq u hu => asB_ok (List.all_eq_true.1 V3 q hq) hu) L3 (by decide)
 refine ⟨k11.blk, k6.blk, k8.blk, k9.blk, k1.blk, k10.blk, k2.blk, k7.blk, k0.blk, k19.blk, D3, rfl, ⟨⟨⟨e11, b11⟩, a60, ⟨k3.blk, a20, o3⟩, a90, ⟨e10, b10⟩⟩, ⟨⟨_, D1, a61, o1, s1⟩, ⟨_, D2, a62, o2, s2⟩, ⟨_, D4, a63, o4, s4⟩⟩, ⟨a80, a81, a82, a70⟩, a10, a1s, a00, ⟨_, _, b2⟩⟩, ?_, ⟨new g11 p11, new g2 p2⟩, ⟨f.os, f.tape, f.output, f.size, fun k hk => f.block k hk (noF k)⟩⟩
 exact ⟨⟨inj g6 g11 p6 p11 rfl (by decide), inj g8 g11 p8 p11 rfl (by decide), inj g9 g11 p9 p11 rfl (by decide), inj g1 g11 p1 p11 rfl (by decide), inj g10 g11 p10 p11 rfl (by decide), inj g2 g11 p2 p11 rfl (by decide), inj g7 g11 p7 p11 rfl (by decide), inj g0 g11 q0 p11 rfl (by decide)⟩,
  ⟨inj g11 g2 p11 p2 rfl (by decide), inj g6 g2 p6 p2 rfl (by decide), inj g8 g2 p8 p2 rfl (by decide), inj g9 g2 p9 p2 rfl (by decide), inj g1 g2 p1 p2 rfl (by decide), inj g10 g2 p10 p2 rfl (by decide), inj g7 g2 p7 p2 rfl (by decide), inj g0 g2 q0 p2 rfl (by decide)⟩⟩
end Go.Proofs.YtmfmjhklajmhoaaGreat.Ed
