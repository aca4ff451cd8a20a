/- slices.Sorted over a map's keys, of strings. -/
import Derived.Test.YtmfmjhklajmhoaaGreatGvMul
import Derived.Sort.Walk0
import Derived.Sort.KeysCollected
import Derived.Maps.Own
import Derived.RangeFuncGives
import Derived.RangeFuncLeaves
import Derived.RangeFuncRecord
import Derived.RangeFuncIn
namespace Go.Proofs.YtmfmjhklajmhoaaGreat.Gv
open Go Go.RowKit
noncomputable def insS (n a : Nat) (l : List (Nat × Nat)) : List (Nat × Nat) :=
 List.rec (motive := fun _ => List (Nat × Nat)) [(n, a)] (fun x t ih => bif strLs n a x.1 x.2 then (n, a) :: x :: t else x :: ih) l
noncomputable def sortS (l : List (Nat × Nat)) : List (Nat × Nat) := List.rec (motive := fun _ => List (Nat × Nat)) [] (fun x _ ih => insS x.1 x.2 ih) l
noncomputable def keysS (es : List (V × V)) : Option (List (Nat × Nat)) :=
 List.rec (motive := fun _ => Option (List (Nat × Nat))) (some []) (fun e _ ih => match e.1, ih with | .str n a, some r => bif Nat.ble n 281474976710656 then some ((n, a) :: r) else none | _, _ => none) es
noncomputable def upS (l : List (Nat × Nat)) : Bool :=
 List.rec (motive := fun _ => Bool) true (fun x t ih => match t with | [] => true | y :: _ => bif strLs x.1 x.2 y.1 y.2 then ih else false) l
noncomputable def sortedH (gs : List Nat) (_ : Call) (l : List V) (h : H) : RV :=
 match l with
 | [.func (.func k) [] [.ptr b 0]] => bif gs.elem k then onCells h b fun cs n _ _ => bif Nat.blt 0 n then (match cs.get 0 with
   | some .nilmap => .ok .nilslice h
   | some (.map m) => onMap h m fun es => (match keysS es with
     | some [] => .ok .nilslice h
     | some (x :: t) => (fun (r : List (Nat × Nat)) => bif upS r && Nat.ble r.length 4294967296 then .ok (.slice h.next 0 r.length r.length true) (h.new (.cells (T.ofList (r.map fun p => V.str p.1 p.2)) r.length 1 false)) else .bad "Sorted" 3) (sortS (x :: t))
     | none => .bad "Sorted" 2)
   | _ => .bad "Sorted" 1) else .bad "Sorted" 4 else .bad "Sorted" 5
 | _ => .bad "Sorted" 0
def listS (p : Nat × Nat) : List UInt8 := strL p.1 p.2
theorem insS_cons (n a : Nat) (x : Nat × Nat) (t : List (Nat × Nat)) : insS n a (x :: t) = (bif strLs n a x.1 x.2 then (n, a) :: x :: t else x :: insS n a t) := rfl
theorem insS_perm (n a : Nat) : ∀ l : List (Nat × Nat), (insS n a l).Perm ((n, a) :: l)
 | [] => List.Perm.refl _
 | x :: t => by
   rw [insS_cons]
   cases strLs n a x.1 x.2 with
   | true => exact List.Perm.refl _
   | false => exact ((insS_perm n a t).cons x).trans (List.Perm.swap _ _ _)
theorem sortS_perm : ∀ l : List (Nat × Nat), (sortS l).Perm l
 | [] => List.Perm.refl _
 | x :: t => (insS_perm x.1 x.2 (sortS t)).trans ((sortS_perm t).cons x)
theorem upS_cons (x y : Nat × Nat) (t : List (Nat × Nat)) : upS (x :: y :: t) = (bif strLs x.1 x.2 y.1 y.2 then upS (y :: t) else false) := rfl
theorem upS_ok : ∀ {l : List (Nat × Nat)}, upS l = true → (l.map listS).Pairwise (· < ·)
 | [], _ => List.Pairwise.nil
 | [x], _ => by simp
 | x :: y :: t, e => by
   rw [upS_cons] at e
   cases hs : strLs x.1 x.2 y.1 y.2 with
   | false => rw [hs] at e; cases e
   | true =>
     rw [hs, cond_true] at e
     have ih := upS_ok e
     have hxy : listS x < listS y := by
      rw [strLs_ok, bytesLess_eq] at hs
      exact of_decide_eq_true hs
     rw [List.map_cons] at ih ⊢
     refine List.pairwise_cons.2 ⟨fun z hz => ?_, ih⟩
     rw [List.map_cons] at hz
     rcases List.mem_cons.1 hz with rfl | hz
     · exact hxy
     · exact List.lt_trans hxy ((List.pairwise_cons.1 ih).1 z hz)
theorem keysS_cons (e : V × V) (t : List (V × V)) : keysS (e :: t) = (match e.1, keysS t with | .str n a, some r => bif Nat.ble n 281474976710656 then some ((n, a) :: r) else none | _, _ => none) := rfl
theorem keysS_ok : ∀ {es : List (V × V)} {ks : List (Nat × Nat)}, keysS es = some ks → es.map (·.1) = ks.map (fun p => V.str p.1 p.2) ∧ ∀ p ∈ ks, p.1 ≤ 281474976710656
 | [], ks, e => by cases e; exact ⟨rfl, by simp⟩
 | (k, v) :: t, ks, e => by
   rw [keysS_cons] at e
   dsimp only at e
   split at e
   · rename_i n a r hr
     cases hb : Nat.ble n 281474976710656 with
     | false => rw [hb] at e; cases e
     | true =>
       rw [hb] at e
       cases e
       rw [nble, decide_eq_true_eq] at hb
       obtain ⟨h1, h2⟩ := keysS_ok hr
       refine ⟨by simp [h1], fun p hp => ?_⟩
       rcases List.mem_cons.1 hp with rfl | hp
       · exact hb
       · exact h2 p hp
   · cases e
theorem sorted_one {a b : List (List UInt8)} (hp : a.Perm b) (ha : a.Pairwise (· < ·)) (hb : b.Pairwise (fun x y => x ≤ y)) : a = b := by
 refine hp.eq_of_pairwise (le := fun x y => x ≤ y) (fun x y _ _ h1 h2 => List.le_antisymm h1 h2) ?_ hb
 exact ha.imp (fun h => List.le_of_lt h)
section
variable {P : Program} {G : Gh} {φ : Mp} {h : H} {w w' : World}
theorem HRel.grow (hm : ¬ G.mono) (r : HRel G φ h w) (hb : Below w.heap.size w w') (hf : φ h.next = none) {x : B} {g sl : Nat} (hg : w.heap.size ≤ g) (hx : BRel G (φ.put h.next ⟨g, 0, sl⟩) x ⟨g, 0, sl⟩ w') :
 HRel G (φ.put h.next ⟨g, 0, sl⟩) (h.new x) w' ∧ Frame G φ h w w' ∧ Ext φ (φ.put h.next ⟨g, 0, sl⟩) h (h.new x) w := by
 have hle : φ.le (φ.put h.next ⟨g, 0, sl⟩) := Mp.le_put hf
 refine ⟨⟨?_, ?_, ?_⟩, ⟨fun h => (hm h).elim, hb.os, hb.tape, hb.output, hb.size, fun k hk _ => hb.block k hk⟩, ⟨hle, ?_, by simp [H.new], ?_⟩⟩
 · intro b y l hb' hl
   rcases get_new hb' with ⟨rfl, rfl⟩ | ⟨hne, hy⟩
   · rw [Mp.put_self] at hl; cases hl; exact hx
   · rw [Mp.put_other hne] at hl
     have := r.blk b y l hy hl
     exact this.mono hle (hb.block _ this.lt)
 · intro b1 b2 x1 x2 l1 l2 h1 h2 h3 h4 h5
   rcases get_new h1 with ⟨e1, _⟩ | ⟨n1, g1⟩
   · rcases get_new h2 with ⟨e2, _⟩ | ⟨n2, g2⟩
     · exact .inl (by rw [e1, e2])
     · rw [e1, Mp.put_self] at h3; cases h3
       rw [Mp.put_other n2] at h4
       have := (r.blk _ _ _ g2 h4).lt
       exfalso; simp at h5; omega
   · rw [Mp.put_other n1] at h3
     rcases get_new h2 with ⟨e2, _⟩ | ⟨n2, g2⟩
     · rw [e2, Mp.put_self] at h4; cases h4
       have := (r.blk _ _ _ g1 h3).lt
       exfalso; simp at h5; omega
     · rw [Mp.put_other n2] at h4
       exact r.inj _ _ _ _ _ _ g1 g2 h3 h4 h5
 · intro b hb'
   cases hy : (h.new x).t.get b with
   | none => rfl
   | some y =>
     have hb'' : h.next + 1 ≤ b := hb'
     rcases get_new hy with ⟨rfl, _⟩ | ⟨_, hy⟩
     · omega
     · rw [r.fresh _ (by omega)] at hy; cases hy
 · intro b hb' hr
   rw [Mp.put_other (by simp only [H.new] at hr; omega)]; exact hb'
 · intro k ⟨b, y, l, h1, h2, h3⟩ hk
   rcases get_new h1 with ⟨rfl, _⟩ | ⟨hne, h1⟩
   · rw [Mp.put_self] at h2; cases h2; simp at h3; omega
   · rw [Mp.put_other hne] at h2; exact ⟨b, y, l, h1, h2, h3⟩
def keyL (x : MapEntry) : List UInt8 := match x.key with | .string s => s.data.toList | _ => []
structure SortedOk (P : Program) (f g tK : Nat) : Prop where
 many : ∀ (w : World) (Bm b : Nat) (El : Array MapEntry) (c : Nat), w.cell? ⟨Bm, 0, none⟩ = some (.map (some b)) → w.heap[b]? = some (.map El c) → MapKept.Stamped El c → (∀ x ∈ El.toList, ∃ s : ByteArray, x.key = .string s ∧ s.size ≤ 281474976710656) → El.size ≤ 4294967296 →
  Calls P f #[.func (.func g) #[] #[.pointer (some ⟨Bm, 0, none⟩)]] w fun e w' => ∃ (v : Value) (L : List (List UInt8)), e = .returned v ∧ L.Perm (El.toList.map keyL) ∧ L.Pairwise (fun x y => x ≤ y) ∧ w'.ownsRow w.heap.size tK 1 v L.length (L.map encStr) ∧ (v = .slice none 0 0 ↔ L = []) ∧ Below w.heap.size w w'
 nil : ∀ (w : World) (Bm : Nat), w.cell? ⟨Bm, 0, none⟩ = some (.map none) →
  Calls P f #[.func (.func g) #[] #[.pointer (some ⟨Bm, 0, none⟩)]] w fun e w' => e = .returned (.slice none 0 0) ∧ Below w.heap.size w w'
theorem sortedH_ok (hm : ¬ G.mono) (hP : ProgOk P) {f tK : Nat} {fn : Func} {c : Code} (hf : P.funcs[f]? = some fn) (hb : fn.body = some c) {gs : List Nat} (hs : ∀ g ∈ gs, SortedOk P f g tK) : HookOk P G f (sortedH gs) := by
 intro call _ l h v h' e φ w ul hl r hfr
 unfold sortedH at e
 split at e
 · rename_i k b
   cases hk : gs.elem k with
   | false => rw [hk] at e; cases e
   | true =>
     rw [hk, cond_true] at e
     have S := hs k (List.elem_iff.1 hk)
     obtain ⟨cs, n, sz, ex, hbk, e1⟩ := onCells_ok e
     clear e
     obtain ⟨hn, e⟩ := bif_ok e1
     clear e1
     rw [nblt, decide_eq_true_eq] at hn
     obtain ⟨lb, hlb, hul⟩ : ∃ lb, φ b = some lb ∧ ul = [.func (.func k) #[] #[.pointer (some ⟨lb.blk, 0, none⟩)]] := by
      obtain ⟨u, t, hu, ht, rfl⟩ := concL_cons.1 hl
      rw [concL_nil] at ht
      cases ht
      obtain ⟨uf, uc, h1, h2, rfl⟩ := conc_func' hu
      rw [concL_nil] at h1
      cases h1
      obtain ⟨u2, t2, hu2, ht2, rfl⟩ := concL_cons.1 h2
      rw [concL_nil] at ht2
      cases ht2
      obtain ⟨lb, hlb, rfl⟩ := conc_ptr hu2
      exact ⟨lb, hlb, rfl⟩
     subst hul
     obtain ⟨C, el, h1, _, _, h5⟩ := r.cells hbk hlb
     have cell : ∀ x, cs.get 0 = some x → ∃ u, conc G φ x = some u ∧ w.cell? ⟨lb.blk, 0, none⟩ = some u := by
      intro x hx
      obtain ⟨u, hu, hc⟩ := h5 0 x hn hx
      exact ⟨u, hu, by simp [World.cell?, h1, hc]⟩
     rw [run_enter hf (prog_name hP hf) hb]
     split at e
     · rename_i hx
       cases e
       obtain ⟨u, hu, hc⟩ := cell _ hx
       rw [conc] at hu
       cases hu
       refine (S.nil w lb.blk hc).mono ?_
       rintro e w' ⟨rfl, hB⟩
       exact ⟨_, rfl, below_post hm r hB (by rw [conc])⟩
     · rename_i m hx
       obtain ⟨u, hu, hc⟩ := cell _ hx
       obtain ⟨lm, hlm, rfl⟩ := conc_map hu
       obtain ⟨es, bs, clk, hmm, e1⟩ := onMap_ok e
       clear e
       obtain ⟨El, hw, hE, hB, _⟩ := r.ents2 hmm hlm
       split at e1
       ·
        rename_i hks
        cases e1
        have : es = [] := by
         have := (keysS_ok hks).1
         simpa using this
        subst this
        have hEl : El = #[] := by
         have := hE.1
         simp at this
         exact this
        subst hEl
        refine (S.many w lb.blk lm.blk #[] clk hc hw ⟨by simp, by simp, by simp⟩ (by simp) (by simp)).mono ?_
        rintro e w' ⟨v, L, rfl, hp, _, _, hn, hB⟩
        have hL : L = [] := by simpa using hp
        rw [hn.2 hL]
        exact ⟨_, rfl, below_post hm r hB (by rw [conc])⟩
       · rename_i x t hks
         dsimp only at e1
         obtain ⟨hup, e2⟩ := bif_ok e1
         clear e1
         rw [Bool.and_eq_true, nble, decide_eq_true_eq] at hup
         cases e2
         obtain ⟨hk1, hk2⟩ := keysS_ok hks
         have hperm := sortS_perm (x :: t)
         have hlen := hperm.length_eq
         have hkeys : El.toList.map (·.key) = (x :: t).map fun p => Value.string ⟨(strL p.1 p.2).toArray⟩ := by
          apply List.ext_getElem?
          intro i
          have h1 := congrArg (fun l => l[i]?) hk1
          simp only [List.getElem?_map] at h1 ⊢
          cases hi : es[i]? with
          | none =>
            rw [hi] at h1
            have : El.toList[i]? = none := by
             rw [List.getElem?_eq_none_iff] at hi ⊢
             rw [hE.1]; exact hi
            rw [this]
            cases hxi : (x :: t)[i]? with
            | none => rfl
            | some p => rw [hxi] at h1; cases h1
          | some p =>
            obtain ⟨pk, pv⟩ := p
            rw [hi] at h1
            cases hxi : (x :: t)[i]? with
            | none => rw [hxi] at h1; cases h1
            | some q =>
              rw [hxi] at h1
              have h1' : pk = V.str q.1 q.2 := by simpa using h1
              subst h1'
              obtain ⟨en, hen, hkk, _⟩ := hE.2 i _ _ hi
              rw [conc] at hkk
              rw [hen]
              simpa using hkk.symm
         have hkL : El.toList.map keyL = (x :: t).map listS := by
          have h1 := congrArg (List.map (fun v : Value => match v with | .string s => s.data.toList | _ => [])) hkeys
          rw [List.map_map, List.map_map] at h1
          refine Eq.trans ?_ (h1.trans ?_)
          · exact List.map_congr_left fun en _ => rfl
          · exact List.map_congr_left fun p _ => by simp [listS]
         have hsort := upS_ok hup.1
         have hnd : (El.toList.map (·.key)).Nodup := by
          have h2 : ((x :: t).map listS).Nodup := by
           have h3 : ((sortS (x :: t)).map listS).Nodup := hsort.imp (fun h => fun e => by subst e; exact List.lt_irrefl _ h)
           exact (hperm.map listS).nodup_iff.1 h3
          rw [hkeys]
          have h4 : ((x :: t).map fun p => Value.string ⟨(strL p.1 p.2).toArray⟩) = ((x :: t).map listS).map fun l => Value.string ⟨l.toArray⟩ := by rw [List.map_map]; rfl
          rw [h4]
          refine List.pairwise_map.2 (h2.imp fun hne he => hne ?_)
          injection he with he
          injection he with he
          simpa using he
         have hks2 : ∀ y ∈ El.toList, ∃ s : ByteArray, y.key = .string s ∧ s.size ≤ 281474976710656 := by
          intro y hy
          have : y.key ∈ El.toList.map (·.key) := List.mem_map.2 ⟨y, hy, rfl⟩
          rw [hkeys] at this
          obtain ⟨p, hp, he⟩ := List.mem_map.1 this
          exact ⟨_, he.symm, by rw [strL_size]; exact hk2 p hp⟩
         have hsz : El.size = (x :: t).length := by
          have := congrArg List.length hkeys
          simpa using this
         refine (S.many w lb.blk lm.blk El clk hc hw ⟨hB.1, hB.2, hnd⟩ hks2 (by rw [hsz, ← hlen]; exact hup.2)).mono ?_
         rintro e w' ⟨v, L, rfl, hp, hle, hrow, hnil, hbel⟩
         have hL : (sortS (x :: t)).map listS = L := by
          refine sorted_one ?_ hsort hle
          rw [hkL] at hp
          exact (hperm.map listS).trans hp.symm
         have hLlen : L.length = (sortS (x :: t)).length := by rw [← hL]; simp
         refine ⟨v, rfl, ?_⟩
         rcases hrow.2 with ⟨_, h0⟩ | ⟨g, cap, cur, rfl, hg, hgb, hcap, _, hcs, htk⟩
         · rw [hLlen, hlen] at h0; cases h0
         · have hfn : φ h.next = none := hfr _ (Nat.le_refl _) (by simp [H.new])
           obtain ⟨r', f', x'⟩ := r.grow hm hbel hfn (x := .cells (T.ofList ((sortS (x :: t)).map fun p => V.str p.1 p.2)) (sortS (x :: t)).length 1 false) (g := g) (sl := cap - L.length) hg ⟨cur, tK, hgb, by
            show cur.size = (sortS (x :: t)).length + (cap - L.length) * 1
            omega, by simp, fun i y hi hy => by
            have hy' := T.get_ofList hy
            rw [List.getElem?_map] at hy'
            cases hq : (sortS (x :: t))[i]? with
            | none => rw [hq] at hy'; cases hy'
            | some q =>
              rw [hq] at hy'
              cases hy'
              refine ⟨.string ⟨(strL q.1 q.2).toArray⟩, by rw [conc], ?_⟩
              have h6 : (L.map encStr)[i]? = some (.string ⟨(strL q.1 q.2).toArray⟩) := by
               rw [← hL, List.map_map, List.getElem?_map, hq]
               rfl
              rw [← htk, List.getElem?_take] at h6
              split at h6
              · simpa using h6
              · cases h6⟩
           refine ⟨_, ?_, r', f', x'⟩
           rw [conc, Mp.put_self]
           simp only [cond_true]
           rw [← hLlen, show L.length + (cap - L.length) = cap from by omega]
       · cases e1
     · cases e
 · cases e
end
end Go.Proofs.YtmfmjhklajmhoaaGreat.Gv
namespace Go.Proofs.YtmfmjhklajmhoaaGreat.Gv
open Go Go.RowKit
noncomputable def appH (ks : List Nat) (call : Call) (l : List V) (h : H) : RV :=
 match l with
 | [.nilslice, .func (.func k) [] lb] => bif ks.elem k then (match call k (.yld h.next :: lb) ⟨h.t, h.next + 1⟩ with
   | .ok _ h' => bif Nat.ble (h.next + 1) h'.next then .ok .nilslice h' else .bad "AppendSeq" 1
   | .bad w n => .bad w n) else .bad "AppendSeq" 2
 | _ => .bad "AppendSeq" 0
def AppOk (P : Program) (f : Nat) : Prop :=
 ∀ (g : Nat) (lb : Array Value) (w : World) (R : Nat → World → World → Prop), (∀ args w, (callFunc g args).run P w = .ok (.enter g args) w) →
  (∀ (l : Nat) (W : World), w.heap.size ≤ l → l < W.heap.size → Below w.heap.size w W → Calls P g (#[.func (.yield l) #[] #[]] ++ lb) W fun e W2 => (∃ v, e = .returned v) ∧ (∀ k, w.heap.size ≤ k → k < W.heap.size → W2.heap[k]? = W.heap[k]?) ∧ W.heap.size ≤ W2.heap.size ∧ R l W W2) →
  Calls P f #[.slice none 0 0, .func (.func g) #[] lb] w fun e W4 => e = .returned (.slice none 0 0) ∧ ∃ l W W2, w.heap.size ≤ l ∧ l < W.heap.size ∧ Below w.heap.size w W ∧ R l W W2 ∧ W4.os = W2.os ∧ W4.tape = W2.tape ∧ W4.output = W2.output ∧ W4.heap.size = W2.heap.size ∧
   ∀ k, ¬ (w.heap.size ≤ k ∧ k < W.heap.size) → W4.heap[k]? = W2.heap[k]?
section
variable {P : Program} {G : Gh} {φ : Mp} {h : H} {w w' : World}
theorem appH_ok (hm : ¬ G.mono) (hP : ProgOk P) {f : Nat} {fn : Func} {c : Code} (hf : P.funcs[f]? = some fn) (hb : fn.body = some c) {ks : List Nat} (hk : ∀ k ∈ ks, ∃ fn c, P.funcs[k]? = some fn ∧ fn.body = some c) (hA : AppOk P f) : HookOk P G f (appH ks) := by
 intro call ck l h v h' e φ w ul hl r hfr
 unfold appH at e
 split at e
 · rename_i k lb
   cases hkk : ks.elem k with
   | false => rw [hkk] at e; cases e
   | true =>
     rw [hkk, cond_true] at e
     obtain ⟨gn, gc, hg, hgb⟩ := hk k (List.elem_iff.1 hkk)
     split at e
     · rename_i v1 hz hcall
       obtain ⟨hn, e1⟩ := bif_ok e
       clear e
       rw [nble, decide_eq_true_eq] at hn
       cases e1
       obtain ⟨ulb, hlb, rfl⟩ : ∃ ulb, concL G φ lb = some ulb ∧ ul = [.slice none 0 0, .func (.func k) #[] ulb.toArray] := by
        obtain ⟨u, t, hu, ht, rfl⟩ := concL_cons.1 hl
        rw [conc] at hu
        cases hu
        obtain ⟨u2, t2, hu2, ht2, rfl⟩ := concL_cons.1 ht
        rw [concL_nil] at ht2
        cases ht2
        obtain ⟨uf, uc, h1, h2, rfl⟩ := conc_func' hu2
        rw [concL_nil] at h1
        cases h1
        exact ⟨uc, h2, rfl⟩
       have hfn : φ h.next = none := hfr _ (Nat.le_refl _) (by omega)
       have footlt : ∀ k, Foot φ h k → k < w.heap.size := fun k hk => r.foot_lt hk
       have foot1 : ∀ l k, Foot (φ.put h.next ⟨l, 0, 0⟩) ⟨h.t, h.next + 1⟩ k → Foot φ h k := by
        rintro l k ⟨b, x, lc, hb', hlc, hk⟩
        have hne : b ≠ h.next := fun e => by
         subst e
         have hb'' : h.t.get h.next = some x := hb'
         rw [r.fresh _ (Nat.le_refl _)] at hb''
         cases hb''
        rw [Mp.put_other hne] at hlc
        exact ⟨b, x, lc, hb', hlc, hk⟩
       rw [run_enter hf (prog_name hP hf) hb]
       refine (hA k ulb.toArray w (fun l W W2 => ∃ u, Post G (φ.put h.next ⟨l, 0, 0⟩) ⟨h.t, h.next + 1⟩ W v1 h' u W2) (fun args w => run_enter hg (prog_name hP hg) hgb args) ?_).mono ?_
       · intro l W hl1 hl2 hB
         have hle := Mp.le_put (l := ⟨l, 0, 0⟩) hfn
         have r1 : HRel G (φ.put h.next ⟨l, 0, 0⟩) ⟨h.t, h.next + 1⟩ W := by
          have hlive : ∀ b x lc, h.t.get b = some x → (φ.put h.next ⟨l, 0, 0⟩) b = some lc → φ b = some lc := by
           intro b x lc hb' hlc
           have hne : b ≠ h.next := fun e => by
            subst e
            rw [r.fresh _ (Nat.le_refl _)] at hb'
            cases hb'
           rw [Mp.put_other hne] at hlc
           exact hlc
          have := r.frame hle hlive (fun k hk => hB.block k (footlt k hk))
          exact ⟨this.blk, this.inj, fun b hb' => this.fresh b (by have : h.next + 1 ≤ b := hb'; omega)⟩
         have hargs : concL G (φ.put h.next ⟨l, 0, 0⟩) (.yld h.next :: lb) = some (.func (.yield l) #[] #[] :: ulb) := concL_cons.2 ⟨_, _, by rw [conc, Mp.put_self], concL_mono hle hlb, rfl⟩
         have hfree : Free (φ.put h.next ⟨l, 0, 0⟩) (h.next + 1) h'.next := fun b hb1 hb2 => by
          rw [Mp.put_other (by omega)]
          exact hfr b (by omega) hb2
         have g := ck k _ _ v1 h' hcall _ W _ hargs r1 hfree
         rw [run_enter hg (prog_name hP hg) hgb] at g
         have he : (Value.func (Fn.yield l) #[] #[] :: ulb).toArray = #[.func (.yield l) #[] #[]] ++ ulb.toArray := by
          apply Array.toList_inj.1
          simp
         rw [he] at g
         refine Calls.mono g ?_
         rintro e W2 ⟨u, rfl, hp⟩
         have hp' := hp
         obtain ⟨φ2, hu, r2, f2, x2⟩ := hp
         exact ⟨⟨u, rfl⟩, fun k hk1 hk2 => f2.block k hk2 (fun hh => by have := footlt k (foot1 l k hh); omega), f2.size, u, hp'⟩
       · rintro e W4 ⟨rfl, l, W, W2, hl1, hl2, hB, ⟨u, φ2, hu, r2, f2, x2⟩, ho, ht, hout, hsz, hblk⟩
         have hsz2 := f2.size
         have hsz1 := hB.size
         have foot2 : ∀ k, Foot φ2 h' k → k < W.heap.size → Foot φ h k := fun k hk hkw => foot1 l k (x2.foot k hk hkw)
         refine ⟨_, rfl, φ2, by rw [conc], ?_, ⟨fun h => (hm h).elim, ho.trans (f2.os.trans hB.os), ht.trans (f2.tape.trans hB.tape), hout.trans (f2.output.trans hB.output), by omega, fun k hk hnf => ?_⟩, ⟨Mp.le_trans (Mp.le_put hfn) x2.le, fun b hb' hr => ?_, by omega, fun k hk hkw => foot2 k hk (by omega)⟩⟩
         · refine r2.frame (Mp.le_refl _) (fun _ _ _ _ e => e) (fun k hk => hblk k fun ⟨h1', h2'⟩ => ?_)
           have := footlt k (foot2 k hk h2')
           omega
         · rw [hblk k (by omega), f2.block k (by omega) (fun hh => hnf (foot1 l k hh)), hB.block k hk]
         · refine x2.new b ?_ ?_
           · rw [Mp.put_other (by omega)]; exact hb'
           · rcases hr with hr | hr
             · left; show b < h.next + 1; omega
             · right; exact hr
     · cases e
 · cases e
end
end Go.Proofs.YtmfmjhklajmhoaaGreat.Gv
namespace Go.Proofs.YtmfmjhklajmhoaaGreat.Gv
open Go Go.RowKit Go.Maps Go.WideElems
theorem keyOf_str' {P : Program} {k : TypeId} (hk : P.underlying k = some .string) {s : ByteArray} (hs : s.size ≤ maxLen) : keyOf P k (.string s) = some (.string s.data.toList) := by
 simp [keyOf, hk, mapKey]
 exact hs
theorem owns_of {P : Program} {k : TypeId} (hk : P.underlying k = some .string) {w : World} {b c : Nat} {El : Array MapEntry} (hb : w.heap[b]? = some (.map El c)) (hs : MapKept.Stamped El c) (hkey : ∀ x ∈ El.toList, ∃ s : ByteArray, x.key = .string s ∧ s.size ≤ 281474976710656) (hsz : El.size ≤ 4294967296) :
 ∃ D0 : DataW Unit, w.ownsMap P k (fun _ => some (.nil, [])) b El.size D0 ∧ (strKeys D0).Perm (El.toList.map keyL) ∧ Maps.size D0 = El.size := by
 have hmax : El.size ≤ maxLen := by unfold maxLen; omega
 have hrd : ∀ x ∈ El.toList, rd P k (fun _ => some ((.nil : DataW Unit), ([] : List MemPlace))) x = some (.string (keyL x), .nil) := by
  intro x hx
  obtain ⟨s, h1, h2⟩ := hkey x hx
  unfold rd
  rw [h1, keyOf_str' hk (by unfold maxLen; omega)]
  simp [keyL, h1]
 have hrg : El.toList.map (rg P k (fun _ => some ((.nil : DataW Unit), ([] : List MemPlace)))) = El.toList.map fun x => (Lit.string (keyL x), (.nil : DataW Unit)) := by
  refine List.map_congr_left fun x hx => ?_
  unfold rg
  rw [hrd x hx]
  rfl
 refine ⟨_, ⟨El, c, hb, ⟨hmax, hs, fun x hx => ⟨_, hrd x hx⟩⟩, Nat.le_refl _, rfl⟩, ?_, ?_⟩
 · rw [hrg]
   show ((((El.toList.map fun x => (Lit.string (keyL x), (.nil : DataW Unit))).foldr DataW.insert []).map fun p => strOf p.1)).Perm _
   refine ((WideShapes.sorted_perm _).map _).trans ?_
   rw [List.map_map]
   exact List.Perm.refl _
 · show (((El.toList.map (rg P k (fun _ => some ((.nil : DataW Unit), ([] : List MemPlace))))).foldr DataW.insert []).length) = _
   rw [length_sorted]
   simp
theorem sorted_le (ss : List (List UInt8)) : (ss.mergeSort (fun x y => decide (x ≤ y))).Pairwise (fun x y => x ≤ y) := by
 have tr : ∀ a b c : List UInt8, decide (a ≤ b) = true → decide (b ≤ c) = true → decide (a ≤ c) = true := fun a b c h1 h2 => by simp only [decide_eq_true_eq] at *; exact List.le_trans h1 h2
 have to : ∀ a b : List UInt8, (decide (a ≤ b) || decide (b ≤ a)) = true := fun a b => by simp only [Bool.or_eq_true, decide_eq_true_eq]; exact List.le_total a b
 exact (List.pairwise_mergeSort tr to ss).imp (fun h => by simpa using h)
end Go.Proofs.YtmfmjhklajmhoaaGreat.Gv
namespace Go.Proofs.YtmfmjhklajmhoaaGreat.Gv
open Go Go.RowKit
structure ButAt (l : Nat) (W W' : World) : Prop where
 os : W'.os = W.os
 tape : W'.tape = W.tape
 output : W'.output = W.output
 size : W'.heap.size = W.heap.size
 block : ∀ k, k ≠ l → W'.heap[k]? = W.heap[k]?
theorem rangeFunc_nothing {P : Program} {n : Nat} {gop : Operand} {ps : Array Tmp} {assign body : Code} {Q : Exit → Act → World → Prop} {a : Act} {w : World} {k : Nat} {lb : Array Value}
 (hev : a.eval gop = .func (.func k) #[] lb) (eg : ∀ args w, (callFunc k args).run P w = .ok (.enter k args) w)
 (h : ∀ W1, Below w.heap.size w W1 → W1.heap.size = w.heap.size + 2 → W1.heap[w.heap.size]? = some (.deferred (some [])) →
  Calls P k (#[.func (.yield (w.heap.size + 1)) #[] #[]] ++ lb) W1 fun e W2 => (∃ v, e = .returned v) ∧ W2.heap[w.heap.size + 1]? = W1.heap[w.heap.size + 1]? ∧
   ∀ W3, ButAt (w.heap.size + 1) W2 W3 → Q .normal { a with defers := [{ target := .collected w.heap.size, args := #[] }] ++ a.defers } W3) :
 (Code.rangeFunc gop ps assign body).wpIn Fence.wide n P Q a w := by
 refine wpIn_rangeFunc fun fn _ => ?_
 obtain ⟨rec0, hrec⟩ : ∃ rec0 : Loop, rec0 = { state := .ready, pending := none, fn := fn, tmps := a.tmps, params := ps, assign := assign, body := body, defers := w.heap.size } := ⟨_, rfl⟩
 obtain ⟨W1, hW1⟩ : ∃ W1, (w.alloc (.deferred (some []))).alloc (.loop rec0) = W1 := ⟨_, rfl⟩
 have hen : (Instr.enterLoop fn a.tmps ps assign body none).run P w = .ok (w.heap.size + 1, [{ target := .collected w.heap.size, args := #[] }]) W1 := by
  rw [run_enterLoop_outer, ← hW1, hrec]
 have hp0 : rec0.pending = none := by rw [hrec]
 have hst : rec0.state ≠ .busy := by rw [hrec]; simp
 clear hrec
 have hb1 : Below w.heap.size w W1 := by rw [← hW1]; exact ((Below.refl _ w).alloc (Nat.le_refl _) _).alloc (by simp) _
 have hs1 : W1.heap.size = w.heap.size + 2 := by rw [← hW1]; simp
 have hloop : W1.heap[w.heap.size + 1]? = some (.loop rec0) := by rw [← hW1]; have := World.alloc_heap_new (w.alloc (.deferred (some []))) (.loop rec0); rwa [World.size_alloc] at this
 have hdef : W1.heap[w.heap.size]? = some (.deferred (some [])) := by rw [← hW1]; exact (Below.heap_alloc _ _ _ (by simp)).trans (World.alloc_heap_new w _)
 refine ⟨w.heap.size + 1, [{ target := .collected w.heap.size, args := #[] }], W1, { target := .fn (.func k) lb, args := #[.func (.yield (w.heap.size + 1)) #[] #[]] }, W1, k, #[.func (.yield (w.heap.size + 1)) #[] #[]] ++ lb, W1, hen, ?_, fun f' _ => trivial, ?_, fun h => (Bool.false_ne_true h).elim, ?_⟩
 · have hres : resolve a.eval (rangeCall gop (w.heap.size + 1)) 0 = Deferred.ofValue (a.eval gop) ((#[Operand.const (.func (.yield (w.heap.size + 1)) #[] #[])] : Array Operand).map a.eval) := rfl
   rw [hres, hev]
   simp [Deferred.ofValue, Act.eval]
 · simp [invoke, eg]
 · refine (callsIn_wide.2 (h W1 hb1 hs1 hdef)).mono ?_
   rintro e W2 ⟨⟨v0, rfl⟩, hk, hQ⟩
   have hl2 := hk.trans hloop
   have hend := run_endLoop (P := P) hl2 hst
   rw [hp0] at hend
   exact ⟨none, _, hend, hQ _ ⟨rfl, rfl, rfl, by simp [World.putObj], fun k hne => World.putObj_heap_other hne⟩⟩
end Go.Proofs.YtmfmjhklajmhoaaGreat.Gv
