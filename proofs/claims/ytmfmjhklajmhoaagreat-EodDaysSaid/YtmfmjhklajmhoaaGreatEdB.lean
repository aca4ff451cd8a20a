/- ref.sorted: the values of a map, in the order of its names, as a row in new memory (which values they are is not told, but how they are shaped). -/
import Derived.Test.YtmfmjhklajmhoaaGreatLib
import Derived.Test.YtmfmjhklajmhoaaGreatEdA
import Derived.Test.YtmfmjhklajmhoaaGreatEdW
import Derived.Laws.IdiomRangeMap
namespace Go.Proofs.YtmfmjhklajmhoaaGreat.Ed
open Go Go.RowKit Go.Lib Go.Maps
def ShortKeys (w : World) (b : Nat) : Prop := ∀ es clk, w.heap[b]? = some (.map es clk) → ∀ x ∈ es.toList, ∃ s : ByteArray, x.key = .string s ∧ s.size ≤ 1000
theorem kStr : Keyed Tryz.prog 9 := string_keyed Tryz.underlying9
theorem cells_at (w : World) (cs : Array Value) (t : TypeId) : ∀ j u, cs.toList[j]? = some u → (w.alloc (.cells cs t)).cell? ((⟨w.heap.size, 0, none⟩ : Addr).add j) = some u := fun j u h => by
 have e : (⟨w.heap.size, 0, none⟩ : Addr).add j = ⟨w.heap.size, j, none⟩ := by unfold Addr.add; split <;> simp_all
 rw [e, Wire.cell_p (heap_alloc_new w _)]
 simpa using h
theorem add_block (a : Addr) (n : Nat) : (a.add n).block = a.block := by unfold Addr.add; split <;> rfl
theorem own_mono {w : World} {b0 b1 : Nat} {e : TypeId} {size n : Nat} {v : Value} {xs : List Value} (h : w.ownsRow b1 e size v n xs) (hle : b0 ≤ b1) : w.ownsRow b0 e size v n xs := by
 refine ⟨h.1, ?_⟩
 rcases h.2 with h | ⟨g, cap, cur, e, hg, r⟩
 · exact .inl h
 · exact .inr ⟨g, cap, cur, e, Nat.le_trans hle hg, r⟩
theorem own_shape {w : World} {b0 : Nat} {e : TypeId} {n : Nat} {v : Value} {xs : List Value} (h : w.ownsRow b0 e 1 v n xs) :
 ∃ A cc, v = .slice A n cc ∧ ∀ j u, xs[j]? = some u → ∃ ad : Addr, A = some ad ∧ b0 ≤ ad.block ∧ ad.block < w.heap.size ∧ w.cell? (ad.add j) = some u := by
 rcases h.2 with ⟨rfl, rfl⟩ | ⟨g, cap, cur, rfl, hg, r⟩
 · refine ⟨none, 0, rfl, fun j u hu => ?_⟩
   have h1 := h.1
   simp at h1
   subst h1
   cases hu
 · exact ⟨some ⟨g, 0, none⟩, cap, rfl, fun j u hu => ⟨_, rfl, hg, (h.lt g rfl).2, h.cells (g := g) rfl j u hu⟩⟩
theorem info_parts2 {P : Program} {t n b : Nat} {z : Value} (h : (P.info? t).map (fun i => (i.zero, i.size, i.bytes)) = some (some z, n, b)) : ∃ i, P.info? t = some i ∧ i.zero = some z ∧ i.size = n ∧ i.bytes = b := by
 cases hi : P.info? t with
 | none => rw [hi] at h; cases h
 | some i => rw [hi] at h; simp at h; exact ⟨i, rfl, h.1, h.2.1, h.2.2⟩
def PtOk (c : List Value) : Prop := ∃ (x0 : ByteArray) (x1 : Int), c = [.string x0, .int .i64 x1] ∧ x0.size ≤ maxLen ∧ (Lit.int .i64 x1).wf = true
def PtV (v : Value) : Prop := ∃ (x0 : ByteArray) (x1 : Int), v = .agg #[.string x0, .int .i64 x1] ∧ x0.size ≤ maxLen ∧ (Lit.int .i64 x1).wf = true
open Classical in
noncomputable def PtR (v : Value) : Option (DataW Unit × List MemPlace) := if PtV v then some (.agg [], []) else none
theorem PtR_inv {v : Value} {z : DataW Unit × List MemPlace} (h : PtR v = some z) : PtV v := by
 unfold PtR at h
 split at h
 · assumption
 · cases h
theorem PtR_mk {v : Value} (h : PtV v) : PtR v = some (.agg [], []) := by
 unfold PtR
 rw [if_pos h]
theorem PtV_zero : PtV (.agg #[.string ByteArray.empty, .int .i64 0]) := ⟨ByteArray.empty, 0, rfl, by decide⟩
theorem Ptinfo : (Tryz.prog.info? 156).map (fun i => (i.zero, i.size, i.bytes)) = some (some (.agg #[.string ByteArray.empty, .int .i64 0]), 2, 24) := by kernel_rfl
theorem Ptkeys (b : Nat) (w : World) :
 Calls Tryz.prog 231 #[.map (some b)] w fun e w' => e = .returned (.func (.func 293) #[] #[.pointer (some ⟨w.heap.size, 0, none⟩)]) ∧ w' = w.alloc (.cells #[.map (some b)] 38) := by
 go_enter Tryz.func231, Tryz.ntmps231
 go_wp2_with fail
 exact bodyPost_ret (results_tmp rfl _ _ _) rfl ⟨rfl, rfl⟩
set_option maxRecDepth 20000 in
set_option maxHeartbeats 4000000 in
theorem Ptsorted (b n : Nat) (D : DataW Unit) (w : World) (h : w.ownsMap Tryz.prog 9 PtR b n D) (hsk : ShortKeys w b) (hn : n ≤ 100000) :
 Calls Tryz.prog 158 #[.map (some b)] w fun e w' => ∃ (v : Value) (m : Nat) (cs : List (List Value)), e = .returned v ∧ cs.length = m ∧ m ≤ n ∧ (∀ c ∈ cs, PtOk c) ∧ w'.ownsRow w.heap.size 156 2 v m cs.flatten ∧ Below w.heap.size w w' := by
 obtain ⟨i0, hi0, hz0, hz1, hz2⟩ := info_parts2 Ptinfo
 have H := Lib.hid h
 clear h
 go_enter Tryz.func158, Tryz.ntmps158
 have hb0 : Below w.heap.size w (w.alloc (.cells #[.map (some b)] 38)) := (Below.refl _ w).alloc (Nat.le_refl _) _
 have HS : Hid (Calls Tryz.prog 167 #[.func (.func 293) #[] #[.pointer (some ⟨w.heap.size, 0, none⟩)]] (w.alloc (.cells #[.map (some b)] 38))
  fun e w' => ∃ (v : Value) (L : List (List UInt8)), e = .returned v ∧ L.length ≤ n ∧ (∀ l ∈ L, l.length ≤ 1000) ∧ w'.ownsRow w.heap.size 9 1 v L.length (L.map encStr) ∧ Below w.heap.size w w') := Lib.hid (by
  obtain ⟨es, clk, hb, F, hs, _⟩ := H.out
  have hkk := hsk es clk hb
  refine (sorted293.many _ w.heap.size b es clk (by rw [Wire.cell_p (heap_alloc_new w _)]; rfl) ((Below.heap_alloc _ _ b H.out.lt).trans hb) F.stamped ?_ (by omega)).mono ?_
  · intro x hx
    obtain ⟨s, h1, h2⟩ := hkk x hx
    exact ⟨s, h1, by omega⟩
  · rintro e w' ⟨v, L, rfl, hp, _, ho, _, hb'⟩
    refine ⟨v, L, rfl, ?_, ?_, own_mono ho (by rw [World.size_alloc]; omega), hb0.trans (hb'.mono (by rw [World.size_alloc]; omega))⟩
    · rw [hp.length_eq, List.length_map]
      simpa using hs
    · intro l hl
      obtain ⟨x, hx, rfl⟩ := List.mem_map.1 (hp.mem_iff.1 hl)
      obtain ⟨s, h1, h2⟩ := hkk x hx
      simp only [Gv.keyL, h1]
      show s.data.toList.length ≤ 1000
      rw [Array.length_toList]
      exact h2)
 clear hb0
 go_upto_region 3 with (first
  | (go_at_call 231; refine (Ptkeys b _).mono ?_; rintro e w1 ⟨rfl, rfl⟩)
  | (go_at_call 167; refine HS.out.mono ?_; rintro e w2 ⟨v, L, rfl, hL, hl, ho, hb2⟩; obtain ⟨A, cc, rfl, hcell⟩ := own_shape ho))
 have HC := Lib.hid hcell
 have HB2 := Lib.hid hb2
 have HLL := Lib.hid (And.intro hL hl)
 obtain ⟨m, hm⟩ : ∃ m, L.length = m := ⟨_, rfl⟩
 have HM := Lib.hid hm
 rw [hm]
 clear ho hcell hb2 hL hl HS hm
 go_wp2_with fail
 go_loopw [3, 10] (fun o i wr => ∃ (k : Nat) (cs : List (List Value)), i = .int .i64 k ∧ k ≤ m ∧ cs.length = k ∧ (∀ c ∈ cs, PtOk c) ∧ wr.ownsRow w2.heap.size 156 2 o k cs.flatten ∧ Below w2.heap.size w2 wr) (fun _ i _ => m - (intOf i).toNat)
 case atStart => exact ⟨0, [], rfl, Nat.zero_le _, rfl, by simp, World.ownsRow_nil _ _ _ _, Below.refl _ _⟩
 case round =>
  obtain ⟨k, cs, rfl, hk, hcs, hok, hown, hbr⟩ := hrel
  by_cases hlt : k < m
  · have hlk : k < L.length := by have := HM.out; omega
    obtain ⟨ad, hA, _, hadlt, hc⟩ := HC.out k (encStr L[k]) (by rw [List.getElem?_map, List.getElem?_eq_getElem hlk]; rfl)
    subst hA
    have hll := HLL.out.2 _ (List.getElem_mem hlk)
    generalize L[k] = l at hc hll
    have hcell : wr.cell? (ad.add k) = some (.string ⟨l.toArray⟩) := (hbr.cell (p := ad.add k) (by rw [add_block]; exact hadlt)).trans hc
    have hmr : wr.ownsMap Tryz.prog 9 PtR b n D := by
     have hbl := H.out.lt
     obtain ⟨es, clk, hb, F, hs, hD⟩ := H.out
     exact ⟨es, clk, (hbr.block b (Nat.lt_of_lt_of_le hbl HB2.out.size)).trans ((HB2.out.block b hbl).trans hb), F, hs, hD⟩
    obtain ⟨vv, ps, hrun, hR⟩ := hmr.lookup kStr Tryz.underlying38 (Tryz.zeroValue156 wr) (PtR_mk PtV_zero) (Go.WideMaps.keyOf_string_mk Tryz.underlying9 (s := ⟨l.toArray⟩) (by show l.toArray.size ≤ maxLen; rw [List.size_toArray]; unfold maxLen; omega))
    obtain ⟨x0, x1, rfl, hcond⟩ := PtR_inv hR
    have HOW := Lib.hid hown
    have HBR := Lib.hid hbr
    have HOK := Lib.hid (And.intro hcs hok)
    have HCO := Lib.hid hcond
    have HN := Lib.hid (show k + 1 ≤ 100000 by have := HLL.out.1; have := HM.out; omega)
    have HKM := Lib.hid (show k + 1 ≤ m by omega)
    have hkI : (k : Int) ≤ 100000 := by have := HN.out; omega
    clear hc hll hR hown hbr hcs hok hcond hk hlk hadlt
    go_wp2_with ((at_builtin
                  refine wpList_append_own_at _ rfl (.tmp 14) (.tmp 18) _ rfl w2.heap.size 156 i0 _ 2 24 Tryz.underlying66 hi0 hz0 hz1 hz2 rfl (by omega) _ k cs.flatten rfl (HOW.out.alloc _) ⟨wr.heap.size, 0, none⟩ 1 1 [.string x0, .int .i64 x1] rfl rfl (cells_at _ _ _) (by simp [Value.oneCell']) (by have := HN.out; unfold maxLen; omega) (by have := HN.out; omega) (by have := HBR.out.size; rw [World.size_alloc]; omega) ?_
                  intro v3 w4 hown4 hg4 _ hat4))
    case roundEnd =>
     go_roundw
     case rel =>
      refine ⟨k + 1, cs ++ [[.string x0, .int .i64 x1]], by go_num, HKM.out, by simp [HOK.out.1], ?_, by rw [List.flatten_append]; simpa using hown4, ?_⟩
      · intro c hc
        rcases List.mem_append.1 hc with hc | hc
        · exact HOK.out.2 c hc
        · rw [List.mem_singleton] at hc
          exact ⟨x0, x1, hc, HCO.out⟩
      · exact belowG (HBR.out.alloc HBR.out.size _) hg4 (by rw [World.size_alloc]; have := HBR.out.size; omega) (fun g e => (HOW.out.lt g e).1)
     case measure => simp [intOf]; have := HKM.out; omega
  · go_wp2_with fail
    exact bodyPost_ret (results_tmp rfl _ _ _) rfl ⟨_, k, cs, rfl, hcs, by have := HLL.out.1; have := HM.out; omega, hok, own_mono hown HB2.out.size, HB2.out.trans (hbr.mono HB2.out.size)⟩
def AcOk (c : List Value) : Prop := ∃ (x0 : ByteArray) (x1 : ByteArray), c = [.string x0, .string x1] ∧ x0.size ≤ maxLen ∧ x1.size ≤ maxLen
def AcV (v : Value) : Prop := ∃ (x0 : ByteArray) (x1 : ByteArray), v = .agg #[.string x0, .string x1] ∧ x0.size ≤ maxLen ∧ x1.size ≤ maxLen
open Classical in
noncomputable def AcR (v : Value) : Option (DataW Unit × List MemPlace) := if AcV v then some (.agg [], []) else none
theorem AcR_inv {v : Value} {z : DataW Unit × List MemPlace} (h : AcR v = some z) : AcV v := by
 unfold AcR at h
 split at h
 · assumption
 · cases h
theorem AcR_mk {v : Value} (h : AcV v) : AcR v = some (.agg [], []) := by
 unfold AcR
 rw [if_pos h]
theorem AcV_zero : AcV (.agg #[.string ByteArray.empty, .string ByteArray.empty]) := ⟨ByteArray.empty, ByteArray.empty, rfl, by decide⟩
theorem Acinfo : (Tryz.prog.info? 158).map (fun i => (i.zero, i.size, i.bytes)) = some (some (.agg #[.string ByteArray.empty, .string ByteArray.empty]), 2, 32) := by kernel_rfl
theorem Ackeys (b : Nat) (w : World) :
 Calls Tryz.prog 233 #[.map (some b)] w fun e w' => e = .returned (.func (.func 294) #[] #[.pointer (some ⟨w.heap.size, 0, none⟩)]) ∧ w' = w.alloc (.cells #[.map (some b)] 39) := by
 go_enter Tryz.func233, Tryz.ntmps233
 go_wp2_with fail
 exact bodyPost_ret (results_tmp rfl _ _ _) rfl ⟨rfl, rfl⟩
set_option maxRecDepth 20000 in
set_option maxHeartbeats 4000000 in
theorem Acsorted (b n : Nat) (D : DataW Unit) (w : World) (h : w.ownsMap Tryz.prog 9 AcR b n D) (hsk : ShortKeys w b) (hn : n ≤ 100000) :
 Calls Tryz.prog 160 #[.map (some b)] w fun e w' => ∃ (v : Value) (m : Nat) (cs : List (List Value)), e = .returned v ∧ cs.length = m ∧ m ≤ n ∧ (∀ c ∈ cs, AcOk c) ∧ w'.ownsRow w.heap.size 158 2 v m cs.flatten ∧ Below w.heap.size w w' := by
 obtain ⟨i0, hi0, hz0, hz1, hz2⟩ := info_parts2 Acinfo
 have H := Lib.hid h
 clear h
 go_enter Tryz.func160, Tryz.ntmps160
 have hb0 : Below w.heap.size w (w.alloc (.cells #[.map (some b)] 39)) := (Below.refl _ w).alloc (Nat.le_refl _) _
 have HS : Hid (Calls Tryz.prog 167 #[.func (.func 294) #[] #[.pointer (some ⟨w.heap.size, 0, none⟩)]] (w.alloc (.cells #[.map (some b)] 39))
  fun e w' => ∃ (v : Value) (L : List (List UInt8)), e = .returned v ∧ L.length ≤ n ∧ (∀ l ∈ L, l.length ≤ 1000) ∧ w'.ownsRow w.heap.size 9 1 v L.length (L.map encStr) ∧ Below w.heap.size w w') := Lib.hid (by
  obtain ⟨es, clk, hb, F, hs, _⟩ := H.out
  have hkk := hsk es clk hb
  refine (sorted294.many _ w.heap.size b es clk (by rw [Wire.cell_p (heap_alloc_new w _)]; rfl) ((Below.heap_alloc _ _ b H.out.lt).trans hb) F.stamped ?_ (by omega)).mono ?_
  · intro x hx
    obtain ⟨s, h1, h2⟩ := hkk x hx
    exact ⟨s, h1, by omega⟩
  · rintro e w' ⟨v, L, rfl, hp, _, ho, _, hb'⟩
    refine ⟨v, L, rfl, ?_, ?_, own_mono ho (by rw [World.size_alloc]; omega), hb0.trans (hb'.mono (by rw [World.size_alloc]; omega))⟩
    · rw [hp.length_eq, List.length_map]
      simpa using hs
    · intro l hl
      obtain ⟨x, hx, rfl⟩ := List.mem_map.1 (hp.mem_iff.1 hl)
      obtain ⟨s, h1, h2⟩ := hkk x hx
      simp only [Gv.keyL, h1]
      show s.data.toList.length ≤ 1000
      rw [Array.length_toList]
      exact h2)
 clear hb0
 go_upto_region 3 with (first
  | (go_at_call 233; refine (Ackeys b _).mono ?_; rintro e w1 ⟨rfl, rfl⟩)
  | (go_at_call 167; refine HS.out.mono ?_; rintro e w2 ⟨v, L, rfl, hL, hl, ho, hb2⟩; obtain ⟨A, cc, rfl, hcell⟩ := own_shape ho))
 have HC := Lib.hid hcell
 have HB2 := Lib.hid hb2
 have HLL := Lib.hid (And.intro hL hl)
 obtain ⟨m, hm⟩ : ∃ m, L.length = m := ⟨_, rfl⟩
 have HM := Lib.hid hm
 rw [hm]
 clear ho hcell hb2 hL hl HS hm
 go_wp2_with fail
 go_loopw [3, 10] (fun o i wr => ∃ (k : Nat) (cs : List (List Value)), i = .int .i64 k ∧ k ≤ m ∧ cs.length = k ∧ (∀ c ∈ cs, AcOk c) ∧ wr.ownsRow w2.heap.size 158 2 o k cs.flatten ∧ Below w2.heap.size w2 wr) (fun _ i _ => m - (intOf i).toNat)
 case atStart => exact ⟨0, [], rfl, Nat.zero_le _, rfl, by simp, World.ownsRow_nil _ _ _ _, Below.refl _ _⟩
 case round =>
  obtain ⟨k, cs, rfl, hk, hcs, hok, hown, hbr⟩ := hrel
  by_cases hlt : k < m
  · have hlk : k < L.length := by have := HM.out; omega
    obtain ⟨ad, hA, _, hadlt, hc⟩ := HC.out k (encStr L[k]) (by rw [List.getElem?_map, List.getElem?_eq_getElem hlk]; rfl)
    subst hA
    have hll := HLL.out.2 _ (List.getElem_mem hlk)
    generalize L[k] = l at hc hll
    have hcell : wr.cell? (ad.add k) = some (.string ⟨l.toArray⟩) := (hbr.cell (p := ad.add k) (by rw [add_block]; exact hadlt)).trans hc
    have hmr : wr.ownsMap Tryz.prog 9 AcR b n D := by
     have hbl := H.out.lt
     obtain ⟨es, clk, hb, F, hs, hD⟩ := H.out
     exact ⟨es, clk, (hbr.block b (Nat.lt_of_lt_of_le hbl HB2.out.size)).trans ((HB2.out.block b hbl).trans hb), F, hs, hD⟩
    obtain ⟨vv, ps, hrun, hR⟩ := hmr.lookup kStr Tryz.underlying39 (Tryz.zeroValue158 wr) (AcR_mk AcV_zero) (Go.WideMaps.keyOf_string_mk Tryz.underlying9 (s := ⟨l.toArray⟩) (by show l.toArray.size ≤ maxLen; rw [List.size_toArray]; unfold maxLen; omega))
    obtain ⟨x0, x1, rfl, hcond⟩ := AcR_inv hR
    have HOW := Lib.hid hown
    have HBR := Lib.hid hbr
    have HOK := Lib.hid (And.intro hcs hok)
    have HCO := Lib.hid hcond
    have HN := Lib.hid (show k + 1 ≤ 100000 by have := HLL.out.1; have := HM.out; omega)
    have HKM := Lib.hid (show k + 1 ≤ m by omega)
    have hkI : (k : Int) ≤ 100000 := by have := HN.out; omega
    clear hc hll hR hown hbr hcs hok hcond hk hlk hadlt
    go_wp2_with ((at_builtin
                  refine wpList_append_own_at _ rfl (.tmp 14) (.tmp 18) _ rfl w2.heap.size 158 i0 _ 2 32 Tryz.underlying67 hi0 hz0 hz1 hz2 rfl (by omega) _ k cs.flatten rfl (HOW.out.alloc _) ⟨wr.heap.size, 0, none⟩ 1 1 [.string x0, .string x1] rfl rfl (cells_at _ _ _) (by simp [Value.oneCell']) (by have := HN.out; unfold maxLen; omega) (by have := HN.out; omega) (by have := HBR.out.size; rw [World.size_alloc]; omega) ?_
                  intro v3 w4 hown4 hg4 _ hat4))
    case roundEnd =>
     go_roundw
     case rel =>
      refine ⟨k + 1, cs ++ [[.string x0, .string x1]], by go_num, HKM.out, by simp [HOK.out.1], ?_, by rw [List.flatten_append]; simpa using hown4, ?_⟩
      · intro c hc
        rcases List.mem_append.1 hc with hc | hc
        · exact HOK.out.2 c hc
        · rw [List.mem_singleton] at hc
          exact ⟨x0, x1, hc, HCO.out⟩
      · exact belowG (HBR.out.alloc HBR.out.size _) hg4 (by rw [World.size_alloc]; have := HBR.out.size; omega) (fun g e => (HOW.out.lt g e).1)
     case measure => simp [intOf]; have := HKM.out; omega
  · go_wp2_with fail
    exact bodyPost_ret (results_tmp rfl _ _ _) rfl ⟨_, k, cs, rfl, hcs, by have := HLL.out.1; have := HM.out; omega, hok, own_mono hown HB2.out.size, HB2.out.trans (hbr.mono HB2.out.size)⟩
def AsOk (c : List Value) : Prop := ∃ (x0 : ByteArray) (x1 : Bool) (x2 : Bool) (x3 : Int) (x4 : Int) (x5 : Int) (x6 : Int) (x7 : Int), c = [.string x0, .bool x1, .bool x2, .int .i64 x3, .int .i64 x4, .int .i64 x5, .int .i64 x6, .int .i64 x7] ∧ x0.size ≤ maxLen ∧ (Lit.int .i64 x3).wf = true ∧ (Lit.int .i64 x4).wf = true ∧ (Lit.int .i64 x5).wf = true ∧ (Lit.int .i64 x6).wf = true ∧ (Lit.int .i64 x7).wf = true
def AsV (v : Value) : Prop := ∃ (x0 : ByteArray) (x1 : Bool) (x2 : Bool) (x3 : Int) (x4 : Int) (x5 : Int) (x6 : Int) (x7 : Int), v = .agg #[.string x0, .bool x1, .bool x2, .int .i64 x3, .int .i64 x4, .int .i64 x5, .int .i64 x6, .int .i64 x7] ∧ x0.size ≤ maxLen ∧ (Lit.int .i64 x3).wf = true ∧ (Lit.int .i64 x4).wf = true ∧ (Lit.int .i64 x5).wf = true ∧ (Lit.int .i64 x6).wf = true ∧ (Lit.int .i64 x7).wf = true
open Classical in
noncomputable def AsR (v : Value) : Option (DataW Unit × List MemPlace) := if AsV v then some (.agg [], []) else none
theorem AsR_inv {v : Value} {z : DataW Unit × List MemPlace} (h : AsR v = some z) : AsV v := by
 unfold AsR at h
 split at h
 · assumption
 · cases h
theorem AsR_mk {v : Value} (h : AsV v) : AsR v = some (.agg [], []) := by
 unfold AsR
 rw [if_pos h]
theorem AsV_zero : AsV (.agg #[.string ByteArray.empty, .bool false, .bool false, .int .i64 0, .int .i64 0, .int .i64 0, .int .i64 0, .int .i64 0]) := ⟨ByteArray.empty, false, false, 0, 0, 0, 0, 0, rfl, by decide⟩
theorem Asinfo : (Tryz.prog.info? 160).map (fun i => (i.zero, i.size, i.bytes)) = some (some (.agg #[.string ByteArray.empty, .bool false, .bool false, .int .i64 0, .int .i64 0, .int .i64 0, .int .i64 0, .int .i64 0]), 8, 64) := by kernel_rfl
theorem Askeys (b : Nat) (w : World) :
 Calls Tryz.prog 234 #[.map (some b)] w fun e w' => e = .returned (.func (.func 295) #[] #[.pointer (some ⟨w.heap.size, 0, none⟩)]) ∧ w' = w.alloc (.cells #[.map (some b)] 40) := by
 go_enter Tryz.func234, Tryz.ntmps234
 go_wp2_with fail
 exact bodyPost_ret (results_tmp rfl _ _ _) rfl ⟨rfl, rfl⟩
set_option maxRecDepth 20000 in
set_option maxHeartbeats 4000000 in
theorem Assorted (b n : Nat) (D : DataW Unit) (w : World) (h : w.ownsMap Tryz.prog 9 AsR b n D) (hsk : ShortKeys w b) (hn : n ≤ 100000) :
 Calls Tryz.prog 162 #[.map (some b)] w fun e w' => ∃ (v : Value) (m : Nat) (cs : List (List Value)), e = .returned v ∧ cs.length = m ∧ m ≤ n ∧ (∀ c ∈ cs, AsOk c) ∧ w'.ownsRow w.heap.size 160 8 v m cs.flatten ∧ Below w.heap.size w w' := by
 obtain ⟨i0, hi0, hz0, hz1, hz2⟩ := info_parts2 Asinfo
 have H := Lib.hid h
 clear h
 go_enter Tryz.func162, Tryz.ntmps162
 have hb0 : Below w.heap.size w (w.alloc (.cells #[.map (some b)] 40)) := (Below.refl _ w).alloc (Nat.le_refl _) _
 have HS : Hid (Calls Tryz.prog 167 #[.func (.func 295) #[] #[.pointer (some ⟨w.heap.size, 0, none⟩)]] (w.alloc (.cells #[.map (some b)] 40))
  fun e w' => ∃ (v : Value) (L : List (List UInt8)), e = .returned v ∧ L.length ≤ n ∧ (∀ l ∈ L, l.length ≤ 1000) ∧ w'.ownsRow w.heap.size 9 1 v L.length (L.map encStr) ∧ Below w.heap.size w w') := Lib.hid (by
  obtain ⟨es, clk, hb, F, hs, _⟩ := H.out
  have hkk := hsk es clk hb
  refine (sorted295.many _ w.heap.size b es clk (by rw [Wire.cell_p (heap_alloc_new w _)]; rfl) ((Below.heap_alloc _ _ b H.out.lt).trans hb) F.stamped ?_ (by omega)).mono ?_
  · intro x hx
    obtain ⟨s, h1, h2⟩ := hkk x hx
    exact ⟨s, h1, by omega⟩
  · rintro e w' ⟨v, L, rfl, hp, _, ho, _, hb'⟩
    refine ⟨v, L, rfl, ?_, ?_, own_mono ho (by rw [World.size_alloc]; omega), hb0.trans (hb'.mono (by rw [World.size_alloc]; omega))⟩
    · rw [hp.length_eq, List.length_map]
      simpa using hs
    · intro l hl
      obtain ⟨x, hx, rfl⟩ := List.mem_map.1 (hp.mem_iff.1 hl)
      obtain ⟨s, h1, h2⟩ := hkk x hx
      simp only [Gv.keyL, h1]
      show s.data.toList.length ≤ 1000
      rw [Array.length_toList]
      exact h2)
 clear hb0
 go_upto_region 3 with (first
  | (go_at_call 234; refine (Askeys b _).mono ?_; rintro e w1 ⟨rfl, rfl⟩)
  | (go_at_call 167; refine HS.out.mono ?_; rintro e w2 ⟨v, L, rfl, hL, hl, ho, hb2⟩; obtain ⟨A, cc, rfl, hcell⟩ := own_shape ho))
 have HC := Lib.hid hcell
 have HB2 := Lib.hid hb2
 have HLL := Lib.hid (And.intro hL hl)
 obtain ⟨m, hm⟩ : ∃ m, L.length = m := ⟨_, rfl⟩
 have HM := Lib.hid hm
 rw [hm]
 clear ho hcell hb2 hL hl HS hm
 go_wp2_with fail
 go_loopw [3, 10] (fun o i wr => ∃ (k : Nat) (cs : List (List Value)), i = .int .i64 k ∧ k ≤ m ∧ cs.length = k ∧ (∀ c ∈ cs, AsOk c) ∧ wr.ownsRow w2.heap.size 160 8 o k cs.flatten ∧ Below w2.heap.size w2 wr) (fun _ i _ => m - (intOf i).toNat)
 case atStart => exact ⟨0, [], rfl, Nat.zero_le _, rfl, by simp, World.ownsRow_nil _ _ _ _, Below.refl _ _⟩
 case round =>
  obtain ⟨k, cs, rfl, hk, hcs, hok, hown, hbr⟩ := hrel
  by_cases hlt : k < m
  · have hlk : k < L.length := by have := HM.out; omega
    obtain ⟨ad, hA, _, hadlt, hc⟩ := HC.out k (encStr L[k]) (by rw [List.getElem?_map, List.getElem?_eq_getElem hlk]; rfl)
    subst hA
    have hll := HLL.out.2 _ (List.getElem_mem hlk)
    generalize L[k] = l at hc hll
    have hcell : wr.cell? (ad.add k) = some (.string ⟨l.toArray⟩) := (hbr.cell (p := ad.add k) (by rw [add_block]; exact hadlt)).trans hc
    have hmr : wr.ownsMap Tryz.prog 9 AsR b n D := by
     have hbl := H.out.lt
     obtain ⟨es, clk, hb, F, hs, hD⟩ := H.out
     exact ⟨es, clk, (hbr.block b (Nat.lt_of_lt_of_le hbl HB2.out.size)).trans ((HB2.out.block b hbl).trans hb), F, hs, hD⟩
    obtain ⟨vv, ps, hrun, hR⟩ := hmr.lookup kStr Tryz.underlying40 (Tryz.zeroValue160 wr) (AsR_mk AsV_zero) (Go.WideMaps.keyOf_string_mk Tryz.underlying9 (s := ⟨l.toArray⟩) (by show l.toArray.size ≤ maxLen; rw [List.size_toArray]; unfold maxLen; omega))
    obtain ⟨x0, x1, x2, x3, x4, x5, x6, x7, rfl, hcond⟩ := AsR_inv hR
    have HOW := Lib.hid hown
    have HBR := Lib.hid hbr
    have HOK := Lib.hid (And.intro hcs hok)
    have HCO := Lib.hid hcond
    have HN := Lib.hid (show k + 1 ≤ 100000 by have := HLL.out.1; have := HM.out; omega)
    have HKM := Lib.hid (show k + 1 ≤ m by omega)
    have hkI : (k : Int) ≤ 100000 := by have := HN.out; omega
    clear hc hll hR hown hbr hcs hok hcond hk hlk hadlt
    go_wp2_with ((at_builtin
                  refine wpList_append_own_at _ rfl (.tmp 14) (.tmp 18) _ rfl w2.heap.size 160 i0 _ 8 64 Tryz.underlying68 hi0 hz0 hz1 hz2 rfl (by omega) _ k cs.flatten rfl (HOW.out.alloc _) ⟨wr.heap.size, 0, none⟩ 1 1 [.string x0, .bool x1, .bool x2, .int .i64 x3, .int .i64 x4, .int .i64 x5, .int .i64 x6, .int .i64 x7] rfl rfl (cells_at _ _ _) (by simp [Value.oneCell']) (by have := HN.out; unfold maxLen; omega) (by have := HN.out; omega) (by have := HBR.out.size; rw [World.size_alloc]; omega) ?_
                  intro v3 w4 hown4 hg4 _ hat4))
    case roundEnd =>
     go_roundw
     case rel =>
      refine ⟨k + 1, cs ++ [[.string x0, .bool x1, .bool x2, .int .i64 x3, .int .i64 x4, .int .i64 x5, .int .i64 x6, .int .i64 x7]], by go_num, HKM.out, by simp [HOK.out.1], ?_, by rw [List.flatten_append]; simpa using hown4, ?_⟩
      · intro c hc
        rcases List.mem_append.1 hc with hc | hc
        · exact HOK.out.2 c hc
        · rw [List.mem_singleton] at hc
          exact ⟨x0, x1, x2, x3, x4, x5, x6, x7, hc, HCO.out⟩
      · exact belowG (HBR.out.alloc HBR.out.size _) hg4 (by rw [World.size_alloc]; have := HBR.out.size; omega) (fun g e => (HOW.out.lt g e).1)
     case measure => simp [intOf]; have := HKM.out; omega
  · go_wp2_with fail
    exact bodyPost_ret (results_tmp rfl _ _ _) rfl ⟨_, k, cs, rfl, hcs, by have := HLL.out.1; have := HM.out; omega, hok, own_mono hown HB2.out.size, HB2.out.trans (hbr.mono HB2.out.size)⟩
end Go.Proofs.YtmfmjhklajmhoaaGreat.Ed
/- What stands fast, told: parties, accounts (of all), assets: rows in new memory. -/
namespace Go.Proofs.YtmfmjhklajmhoaaGreat.Ed
open Go Go.RowKit Go.Lib Go.Maps
theorem flat_at {α : Type} {n : Nat} : ∀ {cs : List (List α)} {k : Nat} {c : List α} {j : Nat} {u : α}, (∀ c ∈ cs, c.length = n) → cs[k]? = some c → c[j]? = some u → cs.flatten[k * n + j]? = some u
 | [], k, c, j, u, _, h, _ => by cases h
 | d :: cs, 0, c, j, u, hl, h, hu => by
   cases h
   rw [List.flatten_cons, Nat.zero_mul, Nat.zero_add, List.getElem?_append_left]
   · exact hu
   · exact (List.getElem?_eq_some_iff.1 hu).1
 | d :: cs, k + 1, c, j, u, hl, h, hu => by
   have h' : cs[k]? = some c := by simpa using h
   have hd : d.length = n := hl d (by simp)
   rw [List.flatten_cons, List.getElem?_append_right (by rw [hd, Nat.succ_mul]; omega), hd, show (k + 1) * n + j - n = k * n + j by rw [Nat.succ_mul]; omega]
   exact flat_at (fun c hc => hl c (by simp [hc])) h' hu
theorem add0 (g j : Nat) : (⟨g, 0, none⟩ : Addr).add j = ⟨g, j, none⟩ := by unfold Addr.add; split <;> simp_all
theorem row_shape {w : World} {b0 : Nat} {e : TypeId} {size n : Nat} {v : Value} {cs : List (List Value)} (h : w.ownsRow b0 e size v n cs.flatten) (_hs : 0 < size) (hl : ∀ c ∈ cs, c.length = size) :
 ∃ A cc, v = .slice A n cc ∧ ∀ k c j u, cs[k]? = some c → c[j]? = some u → ∃ g : Nat, A = some ⟨g, 0, none⟩ ∧ b0 ≤ g ∧ g < w.heap.size ∧ w.cell? ⟨g, k * size + j, none⟩ = some u := by
 rcases h.2 with ⟨rfl, rfl⟩ | ⟨g, cap, cur, rfl, hg, r⟩
 · refine ⟨none, 0, rfl, fun k c j u hk hj => ?_⟩
   have h1 := h.1
   have h2 := (List.getElem?_eq_some_iff.1 (flat_at hl hk hj)).1
   omega
 · exact ⟨some ⟨g, 0, none⟩, cap, rfl, fun k c j u hk hj => ⟨_, rfl, hg, (h.lt g rfl).2, by rw [← add0]; exact h.cells (g := g) rfl _ u (flat_at hl hk hj)⟩⟩
def RowsPost (ok : List Value → Prop) (et : TypeId) (size n : Nat) (w : World) (e : Ending) (w' : World) : Prop :=
 ∃ (v : Value) (m : Nat) (cs : List (List Value)), e = .returned v ∧ cs.length = m ∧ m ≤ n ∧ (∀ c ∈ cs, ok c) ∧ w'.ownsRow w.heap.size et size v m cs.flatten ∧ Below w.heap.size w w'
structure RefAt (w : World) (r n : Nat) : Prop where
 parties : ∃ b D, w.cell? ⟨r, 1, none⟩ = some (.map (some b)) ∧ w.ownsMap Tryz.prog 9 PtR b n D ∧ ShortKeys w b
 accounts : ∃ b D, w.cell? ⟨r, 2, none⟩ = some (.map (some b)) ∧ w.ownsMap Tryz.prog 9 AcR b n D ∧ ShortKeys w b
 assets : ∃ b D, w.cell? ⟨r, 3, none⟩ = some (.map (some b)) ∧ w.ownsMap Tryz.prog 9 AsR b n D ∧ ShortKeys w b
theorem parties_any (r n : Nat) (w : World) (h : RefAt w r n) (hn : n ≤ 100000) : Calls Tryz.prog 81 #[.pointer (some ⟨r, 0, none⟩)] w (RowsPost PtOk 156 2 n w) := by
 obtain ⟨b, D, h1, h2, h3⟩ := h.parties
 clear h
 go_enter Tryz.func81, Tryz.ntmps81
 go_wp2_with (go_at_call 158; refine (Ptsorted b n D _ h2 h3 hn).mono ?_; rintro e w1 ⟨v, m, cs, rfl, hr⟩)
 exact bodyPost_ret (results_tmp rfl _ _ _) rfl ⟨v, m, cs, rfl, hr⟩
theorem assets_any (r n : Nat) (w : World) (h : RefAt w r n) (hn : n ≤ 100000) : Calls Tryz.prog 83 #[.pointer (some ⟨r, 0, none⟩)] w (RowsPost AsOk 160 8 n w) := by
 obtain ⟨b, D, h1, h2, h3⟩ := h.assets
 clear h
 go_enter Tryz.func83, Tryz.ntmps83
 go_wp2_with (go_at_call 162; refine (Assorted b n D _ h2 h3 hn).mono ?_; rintro e w1 ⟨v, m, cs, rfl, hr⟩)
 exact bodyPost_ret (results_tmp rfl _ _ _) rfl ⟨v, m, cs, rfl, hr⟩
theorem acOf_any (a b : ByteArray) (q : Nat) (w : World) (hq : w.cell? ⟨q, 0, none⟩ = some (.string ByteArray.empty)) :
 Calls Tryz.prog 161 #[.agg #[.string a, .string b], .pointer (some ⟨q, 0, none⟩)] w fun e w' => e = .returned (.bool false) ∧ Below w.heap.size w w' := by
 have hb := (Below.refl _ w).alloc (Nat.le_refl _) (.cells #[.string a, .string b] 158)
 have hq1 : (w.alloc (.cells #[.string a, .string b] 158)).cell? ⟨q, 0, none⟩ = some (.string ByteArray.empty) := (hb.cell (p := ⟨q, 0, none⟩) (World.block_lt_of_cell? w _ hq)).trans hq
 have HB := Lib.hid hb
 clear hb hq
 go_enter Tryz.func161, Tryz.ntmps161
 go_wp2_with fail
 exact bodyPost_ret (results_tmp rfl _ _ _) rfl ⟨rfl, HB.out⟩
def AccsAt (w : World) (A : Option Addr) (m : Nat) : Prop := ∀ k, k < m → ∃ (ad : Addr) (a b : ByteArray), A = some ad ∧ w.cell? (ad.add (k * 2)) = some (.string a) ∧ w.cell? ⟨(ad.add (k * 2)).block, (ad.add (k * 2)).off + 1, none⟩ = some (.string b)
theorem AccsAt.below {w w' : World} {A : Option Addr} {m : Nat} (h : AccsAt w A m) (hb : Below w.heap.size w w') : AccsAt w' A m := fun k hk => by
 obtain ⟨ad, a, b, hA, h1, h2⟩ := h k hk
 exact ⟨ad, a, b, hA, (hb.cell (World.block_lt_of_cell? w _ h1)).trans h1, (hb.cell (p := ⟨(ad.add (k * 2)).block, (ad.add (k * 2)).off + 1, none⟩) (World.block_lt_of_cell? w _ h2)).trans h2⟩
set_option maxRecDepth 20000 in
theorem indexAc_any (A : Option Addr) (m cc q : Nat) (w : World) (hx : AccsAt w A m) (hq : w.cell? ⟨q, 0, none⟩ = some (.string ByteArray.empty)) (hm2 : m ≤ 100000) :
 Calls Tryz.prog 232 #[.slice A m cc, .func (.func 161) #[] #[.pointer (some ⟨q, 0, none⟩)]] w fun e w' => e = .returned (.int .i64 (-1)) ∧ Below w.heap.size w w' := by
 have HX := Lib.hid hx
 have HQ := Lib.hid hq
 clear hx hq
 go_enter Tryz.func232, Tryz.ntmps232
 go_wp2_with fail
 go_loopw [5, 8] (fun _ i wr => ∃ k : Nat, i = .int .i64 k ∧ k ≤ m ∧ Below w.heap.size w wr) (fun _ i _ => m - (intOf i).toNat)
 case atStart => exact ⟨0, rfl, Nat.zero_le _, Below.refl _ _⟩
 case round =>
  obtain ⟨k, rfl, hk, hbr⟩ := hrel
  by_cases hlt : k < m
  · obtain ⟨ad, a, b, hA, h1, h2⟩ := (HX.out.below hbr) k hlt
    subst hA
    have HQ1 := Lib.hid ((hbr.cell (p := ⟨q, 0, none⟩) (World.block_lt_of_cell? w _ HQ.out)).trans HQ.out)
    have HB := Lib.hid hbr
    have hkI : (k : Int) ≤ 100000 := by omega
    clear hbr
    go_wp2_with (go_at_call 161; refine (acOf_any a b q _ HQ1.out).mono ?_; rintro e w2 ⟨rfl, hb2⟩)
    case roundEnd =>
     go_roundw
     case rel => exact ⟨k + 1, by go_num, by omega, HB.out.trans (hb2.mono HB.out.size)⟩
     case measure => simp [intOf]; omega
  · have HB := Lib.hid hbr
    clear hbr
    go_wp2_with fail
    exact bodyPost_ret (results_tmp rfl _ _ _) rfl ⟨rfl, HB.out⟩
theorem deleteAc_any (A : Option Addr) (m cc q : Nat) (w : World) (hx : AccsAt w A m) (hq : w.cell? ⟨q, 0, none⟩ = some (.string ByteArray.empty)) (hm2 : m ≤ 100000) :
 Calls Tryz.prog 159 #[.slice A m cc, .func (.func 161) #[] #[.pointer (some ⟨q, 0, none⟩)]] w fun e w' => e = .returned (.slice A m cc) ∧ Below w.heap.size w w' := by
 go_enter Tryz.func159, Tryz.ntmps159
 go_wp2_with (go_at_call 232; refine (indexAc_any A m cc q _ hx hq hm2).mono ?_; rintro e w2 ⟨rfl, hb2⟩)
 exact bodyPost_ret (results_tmp rfl _ _ _) rfl ⟨rfl, hb2⟩
theorem RefAt.new {w w' : World} {r n : Nat} (h : RefAt w r n) (hb : Below w.heap.size w w') : RefAt w' r n := by
 have go : ∀ {o : Nat} {R : Value → Option (DataW Unit × List MemPlace)}, (∃ b D, w.cell? ⟨r, o, none⟩ = some (.map (some b)) ∧ w.ownsMap Tryz.prog 9 R b n D ∧ ShortKeys w b) →
  ∃ b D, w'.cell? ⟨r, o, none⟩ = some (.map (some b)) ∧ w'.ownsMap Tryz.prog 9 R b n D ∧ ShortKeys w' b := fun {o R} ⟨b, D, h1, h2, h3⟩ => by
  have hlt := h2.lt
  have hbb := hb.block b hlt
  refine ⟨b, D, (hb.cell (p := ⟨r, o, none⟩) (World.block_lt_of_cell? w _ h1)).trans h1, ?_, fun es clk he => h3 es clk (hbb.symm.trans he)⟩
  obtain ⟨es, clk, k1, k2⟩ := h2
  exact ⟨es, clk, hbb.trans k1, k2⟩
 exact ⟨go h.parties, go h.accounts, go h.assets⟩
theorem accs_of {w : World} {A : Option Addr} {b0 m : Nat} {cs : List (List Value)} (hcs : cs.length = m) (hok : ∀ c ∈ cs, AcOk c)
 (hsh : ∀ k c j u, cs[k]? = some c → c[j]? = some u → ∃ g : Nat, A = some ⟨g, 0, none⟩ ∧ b0 ≤ g ∧ g < w.heap.size ∧ w.cell? ⟨g, k * 2 + j, none⟩ = some u) : AccsAt w A m := fun k hk => by
 have hk' : k < cs.length := by omega
 have hc := List.getElem?_eq_getElem hk'
 obtain ⟨a, b, he, _⟩ := hok _ (List.getElem_mem hk')
 obtain ⟨g, hA, _, _, h1⟩ := hsh k _ 0 (.string a) hc (by rw [he]; rfl)
 obtain ⟨g', hA', _, _, h2⟩ := hsh k _ 1 (.string b) hc (by rw [he]; rfl)
 rw [hA] at hA'
 cases hA'
 exact ⟨⟨g, 0, none⟩, a, b, hA, by rw [add0]; exact h1, by rw [add0]; exact h2⟩
theorem below_grownN {w w' : World} (h : Below w.heap.size w w') : w.grownBy w' none := ⟨h.os, h.tape, h.output, h.size, fun i hi _ => h.block i hi⟩
set_option maxRecDepth 20000 in
theorem accounts_any (r n : Nat) (w : World) (h : RefAt w r n) (hn : n ≤ 100000) :
 Calls Tryz.prog 82 #[.pointer (some ⟨r, 0, none⟩), .string ByteArray.empty] w (RowsPost AcOk 158 2 n w) := by
 have hb0 : Below w.heap.size w (w.alloc (.cells #[.string ByteArray.empty] 9)) := (Below.refl _ w).alloc (Nat.le_refl _) _
 have hq0 : (w.alloc (.cells #[.string ByteArray.empty] 9)).cell? ⟨w.heap.size, 0, none⟩ = some (.string ByteArray.empty) := by rw [Wire.cell_p (heap_alloc_new w _)]; rfl
 obtain ⟨b, D, h1, h2, h3⟩ := (h.new hb0).accounts
 have HB := Lib.hid hb0
 have HQ := Lib.hid hq0
 have HLT : Hid (w.heap.size < (w.alloc (.cells #[.string ByteArray.empty] 9)).heap.size) := Lib.hid (by rw [World.size_alloc]; omega)
 have HS := Lib.hid (Acsorted b n D _ h2 h3 hn)
 clear h h2 h3 hb0 hq0
 go_enter Tryz.func82, Tryz.ntmps82
 go_wp2_with (first
  | (go_at_call 160; refine HS.out.mono ?_; rintro e w1 ⟨v, m, cs, rfl, hcs, hmn, hok, ho, hb1⟩
     obtain ⟨A, cc, rfl, hsh⟩ := row_shape ho (by omega) (fun c hc => by obtain ⟨_, _, rfl, _⟩ := hok c hc; rfl)
     have hx1 : AccsAt w1 A m := accs_of hcs hok hsh
     have hq1 : w1.cell? ⟨w.heap.size, 0, none⟩ = some (.string ByteArray.empty) := (hb1.cell (p := ⟨w.heap.size, 0, none⟩) HLT.out).trans HQ.out)
  | (go_at_call 159; refine (deleteAc_any A m cc w.heap.size _ hx1 hq1 (by omega)).mono ?_; rintro e w2 ⟨rfl, hb2⟩))
 refine bodyPost_ret (results_tmp rfl _ _ _) rfl ⟨.slice A m cc, m, cs, rfl, hcs, hmn, hok, ?_, ?_⟩
 · refine own_mono (ho.kept (below_grownN hb2) (Classical.em _)) (by rw [World.size_alloc]; omega)
 · exact HB.out.trans ((hb1.trans (hb2.mono hb1.size)).mono (by rw [World.size_alloc]; omega))
end Go.Proofs.YtmfmjhklajmhoaaGreat.Ed
/- No loans: what Loans tells of lines that have no map yet (by the evaluator, at a heap of one block). -/
namespace Go.Proofs.YtmfmjhklajmhoaaGreat.Ed
open Go Go.RowKit Gv
noncomputable def loT : List (Nat × B) := [Lt.C 0 1 1 true [.nilmap]]
noncomputable def loR : RV := callN (evE Tryz.prog (libH (mapsH [] [] [] nilH)) [] [] []) 100 174 [.func (.func 247) [] [.ptr 0 0], .func (.func 176) [] []] ⟨ofLH loT, 1⟩
noncomputable def loOk (r : RV) : Bool := match r with | .ok .nilslice _ => true | _ => false
theorem loRun : loOk loR = true := by kernel_rfl
def loM (li : Nat) : Mp := fun b => if b = 0 then some ⟨li, 0, 0⟩ else none
theorem loRel (li : Nat) (w : World) (ty : TypeId) (h : w.heap[li]? = some (.cells #[.map none] ty (0, 0))) : HRel (mkGh [] [] rfl) (loM li) ⟨ofLH loT, 1⟩ w := by
 have hmem : ∀ {b : Nat} {x : B}, (ofLH loT).get b = some x → b = 0 ∧ x = .cells (T.ofList [.nilmap]) 1 1 true := fun hx => by
  have := ofLH_get hx
  simp only [loT, Lt.C, List.mem_cons, List.not_mem_nil, or_false] at this
  injection this with h1 h2
  exact ⟨h1, h2⟩
 refine ⟨fun b x l hb hl => ?_, fun b b' x x' l l' hb hb' _ _ _ => ?_, fun b hb => ?_⟩
 · obtain ⟨rfl, rfl⟩ := hmem hb
   simp only [loM, if_true] at hl
   cases hl
   refine ⟨#[.map none], _, h, rfl, fun _ => rfl, fun i v hi hv => ?_⟩
   have hv := T.get_ofList hv
   have : i = 0 := by omega
   subst this
   cases hv
   exact ⟨.map none, by rw [conc], rfl⟩
 · exact .inl ((hmem hb).1.trans (hmem hb').1.symm)
 · cases hx : (ofLH loT).get b with
   | none => rfl
   | some x => have := (hmem hx).1; subst this; exact absurd hb (by decide)
set_option maxRecDepth 100000 in
theorem sorted_nil (B x : Nat) (w : World) (ty : TypeId) (h : w.heap[x]? = some (.cells #[.map none] ty (0, 0))) (hB : B ≤ x) :
 Calls Tryz.prog 174 #[.func (.func 247) #[] #[.pointer (some ⟨x, 0, none⟩)], .func (.func 176) #[] #[]] w
  fun e w' => e = .returned (.slice none 0 0) ∧ Below B w w' := by
 have e := loRun
 unfold loOk at e
 split at e
 · rename_i h' hr
   refine (run_ok (evE_ok progOk noFacts.ends (geOk_at noFacts.ge) (nlOk_at noFacts.nl)) (evE_fn progOk (libH_ok (mapsH_ok noFacts nilH_ok))) Tryz.func174 (prog_name progOk Tryz.func174) rfl hr
    (ul := [.func (.func 247) #[] #[.pointer (some ⟨x, 0, none⟩)], .func (.func 176) #[] #[]]) ?_ (loRel x w ty h) ?_).mono ?_
   · simp [concL, conc, loM]
   · intro b h1 _
     have h1 : 1 ≤ b := h1
     have : b ≠ 0 := by omega
     simp [loM, this]
   · rintro e w' ⟨u, rfl, φ', hu, r', f', x'⟩
     have hu : u = .slice none 0 0 := by rw [conc] at hu; cases hu; rfl
     refine ⟨by rw [hu], f'.os, f'.tape, f'.output, f'.size, fun k hk => ?_⟩
     by_cases hkx : k < w.heap.size
     · refine f'.block k hkx fun ⟨b, y, l, h1, h2, h3⟩ => ?_
       unfold loM at h2
       split at h2
       · cases h2
         simp only at h3
         omega
       · cases h2
     · have := (Array.getElem?_eq_some_iff.1 h).1
       omega
 · cases e
theorem keys_nil (w : World) :
 Calls Tryz.prog 175 #[.map none] w fun e w' =>
  e = .returned (.func (.func 247) #[] #[.pointer (some ⟨w.heap.size, 0, none⟩)]) ∧ ∃ ty, w' = w.alloc (.cells #[.map none] ty) := by
 go_enter Tryz.func175, Tryz.ntmps175
 go_wp2_with fail
 exact bodyPost_ret (results_tmp rfl _ _ _) rfl ⟨rfl, _, rfl⟩
set_option maxRecDepth 20000 in
theorem noLoans : NoLoans := fun li w tL h => by
 have h0 : w.cell? ⟨li, 0, none⟩ = some (.map none) := by simp [World.cell?, h]
 clear h
 go_enter Tryz.func95, Tryz.ntmps95
 go_wp2_with (first
  | (go_at_call 175; refine (keys_nil _).mono ?_; rintro e w1 ⟨rfl, ty, rfl⟩)
  | (go_at_call 174; refine (sorted_nil w.heap.size w.heap.size _ _ (heap_alloc_new w _) (Nat.le_refl _)).mono ?_; rintro e w2 ⟨rfl, hb2⟩))
 have HB : Hid (Below w.heap.size w w2) := Lib.hid (((Below.refl _ w).alloc (Nat.le_refl _) _).trans hb2)
 clear hb2
 go_loop [5, 18] (fun o i => o = .slice none 0 0 ∧ i = .int .i64 0) (fun _ _ => 0)
 case atStart => exact ⟨rfl, rfl⟩
 case round =>
  obtain ⟨rfl, rfl⟩ := hrel
  go_wp2_with fail
  exact bodyPost_ret (results_tmp rfl _ _ _) rfl ⟨rfl, HB.out⟩
end Go.Proofs.YtmfmjhklajmhoaaGreat.Ed
/- Where there are no positions: no keys, no issues, no blocks. -/
namespace Go.Proofs.YtmfmjhklajmhoaaGreat.Ed
open Go Go.RowKit Go.Lib Go.Maps Gv
noncomputable def skOk (r : RV) : Bool := match r with | .ok (.tuple []) _ => true | _ => false
noncomputable def skR : RV := callN (evE Tryz.prog (libH (mapsH [] [] [] nilH)) [] [] []) 100 165 [.nilslice, .func (.func 166) [] []] H0
theorem skRun : skOk skR = true := by kernel_rfl
set_option maxRecDepth 100000 in
theorem sortKeys_nil (w : World) : Calls Tryz.prog 165 #[.slice none 0 0, .func (.func 166) #[] #[]] w fun e w' => e = .returned (.tuple #[]) ∧ Below w.heap.size w w' := by
 have e := skRun
 unfold skOk at e
 split at e
 · rename_i h' hr
   exact run_val (G := mkGh [] [] rfl) (n := 100) (l := [.nilslice, .func (.func 166) [] []]) (v := .tuple []) (ul := [.slice none 0 0, .func (.func 166) #[] #[]]) progOk noFacts (libH_ok (mapsH_ok noFacts nilH_ok)) Tryz.func165 rfl (by simp [concL, conc]) (by unfold skR at hr; rw [hr]; rfl) (u := .tuple #[]) (fun φ => by first | rfl | (rw [conc]; rfl)) w
 · cases e
set_option maxRecDepth 20000 in
theorem keysPos_nil (p : Nat) (w : World) (h : w.cell? ⟨p, 0, none⟩ = some (.map none)) :
 Calls Tryz.prog 86 #[.pointer (some ⟨p, 0, none⟩), .slice none 0 0] w fun e w' => e = .returned (.slice none 0 0) ∧ Below w.heap.size w w' := by
 have hrg := run_range_nilMap (P := Tryz.prog) w 264 _ _ Tryz.underlying264
 have hnx : ∀ ty, (Instr.next (.pointer (some ⟨w.heap.size, 0, none⟩)) false ty).run Tryz.prog (w.alloc (.mapIter none 0 #[] 0)) = _ := fun ty => run_next_nilMap _ ty 0 0 #[]
 go_enter Tryz.func86, Tryz.ntmps86
 go_wp2_with fail
 have HB := Lib.hid ((Below.refl _ w).alloc (Nat.le_refl _) (.mapIter none 0 #[] 0))
 go_loop [5] (fun o => o = .slice none 0 0) (fun _ => 0)
 case atStart => rfl
 case round =>
  subst hrel
  go_wp2_with (go_at_call 165; refine (sortKeys_nil _).mono ?_; rintro e w2 ⟨rfl, hb2⟩)
  exact bodyPost_ret (results_tmp rfl _ _ _) rfl ⟨rfl, HB.out.trans (hb2.mono HB.out.size)⟩
noncomputable def bkR : RV := callN (evE Tryz.prog (libH (mapsH [] [] [] nilH)) [] [] []) 100 169 [.func (.func 244) [] [.ptr 0 0], .func (.func 166) [] []] ⟨ofLH loT, 1⟩
theorem bkRun : loOk bkR = true := by kernel_rfl
set_option maxRecDepth 100000 in
theorem sortedBk_nil (B x : Nat) (w : World) (ty : TypeId) (h : w.heap[x]? = some (.cells #[.map none] ty (0, 0))) (hB : B ≤ x) :
 Calls Tryz.prog 169 #[.func (.func 244) #[] #[.pointer (some ⟨x, 0, none⟩)], .func (.func 166) #[] #[]] w
  fun e w' => e = .returned (.slice none 0 0) ∧ Below B w w' := by
 have e := bkRun
 unfold loOk at e
 split at e
 · rename_i h' hr
   refine (run_ok (evE_ok progOk noFacts.ends (geOk_at noFacts.ge) (nlOk_at noFacts.nl)) (evE_fn progOk (libH_ok (mapsH_ok noFacts nilH_ok))) Tryz.func169 (prog_name progOk Tryz.func169) rfl hr
    (ul := [.func (.func 244) #[] #[.pointer (some ⟨x, 0, none⟩)], .func (.func 166) #[] #[]]) ?_ (loRel x w ty h) ?_).mono ?_
   · simp [concL, conc, loM]
   · intro b h1 _
     have h1 : 1 ≤ b := h1
     have : b ≠ 0 := by omega
     simp [loM, this]
   · rintro e w' ⟨u, rfl, φ', hu, r', f', x'⟩
     have hu : u = .slice none 0 0 := by rw [conc] at hu; cases hu; rfl
     refine ⟨by rw [hu], f'.os, f'.tape, f'.output, f'.size, fun k hk => ?_⟩
     by_cases hkx : k < w.heap.size
     · refine f'.block k hkx fun ⟨b, y, l, h1, h2, h3⟩ => ?_
       unfold loM at h2
       split at h2
       · cases h2
         simp only at h3
         omega
       · cases h2
     · have := (Array.getElem?_eq_some_iff.1 h).1
       omega
 · cases e
theorem keysBk (w : World) :
 Calls Tryz.prog 170 #[.map none] w fun e w' =>
  e = .returned (.func (.func 244) #[] #[.pointer (some ⟨w.heap.size, 0, none⟩)]) ∧ ∃ ty, w' = w.alloc (.cells #[.map none] ty) := by
 go_enter Tryz.func170, Tryz.ntmps170
 go_wp2_with fail
 exact bodyPost_ret (results_tmp rfl _ _ _) rfl ⟨rfl, _, rfl⟩
theorem keysIs (w : World) :
 Calls Tryz.prog 168 #[.map none] w fun e w' =>
  e = .returned (.func (.func 242) #[] #[.pointer (some ⟨w.heap.size, 0, none⟩)]) ∧ ∃ ty, w' = w.alloc (.cells #[.map none] ty) := by
 go_enter Tryz.func168, Tryz.ntmps168
 go_wp2_with fail
 exact bodyPost_ret (results_tmp rfl _ _ _) rfl ⟨rfl, _, rfl⟩
structure LedAt (w : World) (l p : Nat) : Prop where
 pos : w.cell? ⟨l, 0, none⟩ = some (.pointer (some ⟨p, 0, none⟩))
 issued : w.cell? ⟨l, 1, none⟩ = some (.map none)
 blocked : w.cell? ⟨l, 2, none⟩ = some (.map none)
 at' : w.cell? ⟨p, 0, none⟩ = some (.map none)
theorem none_no (l p : Nat) (w : World) (h0 : w.cell? ⟨l, 0, none⟩ = some (.pointer (some ⟨p, 0, none⟩))) :
 Calls Tryz.prog 46 #[.pointer (some ⟨l, 0, none⟩)] w fun e w' => e = .returned (.bool false) ∧ w = w' := by
 go_enter Tryz.func46, Tryz.ntmps46
 go_wp2_with fail
 exact bodyPost_ret (results_tmp rfl _ _ _) rfl ⟨rfl, rfl⟩
set_option maxRecDepth 20000 in
theorem issues_nil (l p : Nat) (w : World) (h : LedAt w l p) :
 Calls Tryz.prog 87 #[.pointer (some ⟨l, 0, none⟩)] w fun e w' => e = .returned (.slice none 0 0) ∧ Below w.heap.size w w' := by
 obtain ⟨h0, h1, h2, h3⟩ := h
 go_enter Tryz.func87, Tryz.ntmps87
 go_wp2_with (first
  | (go_at_call 46; refine (none_no l p _ h0).mono ?_; rintro e w1 ⟨rfl, rfl⟩)
  | (go_at_call 168; refine (keysIs _).mono ?_; rintro e w1 ⟨rfl, ty, rfl⟩)
  | (go_at_call 167; refine (sorted242.nil _ w.heap.size (by rw [Wire.cell_p (heap_alloc_new w _)]; rfl)).mono ?_; rintro e w2 ⟨rfl, hb2⟩))
 have HB := Lib.hid (((Below.refl _ w).alloc (Nat.le_refl _) (.cells #[.map none] ty)).trans (hb2.mono (by rw [World.size_alloc]; omega)))
 clear hb2
 go_loop [3, 15] (fun o i => o = .slice none 0 0 ∧ i = .int .i64 0) (fun _ _ => 0)
 case atStart => exact ⟨rfl, rfl⟩
 case round =>
  obtain ⟨rfl, rfl⟩ := hrel
  go_wp2_with fail
  exact bodyPost_ret (results_tmp rfl _ _ _) rfl ⟨rfl, HB.out⟩
set_option maxRecDepth 20000 in
theorem blocks_nil (l p : Nat) (w : World) (h : LedAt w l p) :
 Calls Tryz.prog 88 #[.pointer (some ⟨l, 0, none⟩)] w fun e w' => e = .returned (.slice none 0 0) ∧ Below w.heap.size w w' := by
 obtain ⟨h0, h1, h2, h3⟩ := h
 go_enter Tryz.func88, Tryz.ntmps88
 go_wp2_with (first
  | (go_at_call 46; refine (none_no l p _ h0).mono ?_; rintro e w1 ⟨rfl, rfl⟩)
  | (go_at_call 170; refine (keysBk _).mono ?_; rintro e w1 ⟨rfl, ty, rfl⟩)
  | (go_at_call 169; refine (sortedBk_nil w.heap.size w.heap.size _ _ (heap_alloc_new w _) (Nat.le_refl _)).mono ?_; rintro e w2 ⟨rfl, hb2⟩))
 exact bodyPost_ret (results_tmp rfl _ _ _) rfl ⟨rfl, ((Below.refl _ w).alloc (Nat.le_refl _) _).trans hb2⟩
end Go.Proofs.YtmfmjhklajmhoaaGreat.Ed
