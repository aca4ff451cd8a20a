/- Regions that draw their order, last part: whatever the order, what is left is what the text's order leaves. -/
import Derived.Test.YtmfmjhklajmhoaaGreatGvDraw4
namespace Go.Proofs.YtmfmjhklajmhoaaGreat.Gv
open Go
def Ls (lst : Array Bool) (i : Nat) : Prop := lst.getD i false = true
theorem Ls.set {lst : Array Bool} {i : Nat} (hi : i < lst.size) (j : Nat) : Ls (lst.setIfInBounds i true) j ↔ j = i ∨ Ls lst j := by
 unfold Ls
 by_cases hj : j = i
 · subst hj; simp [hi]
 · rw [getD_set_ne false (Ne.symm hj)]
   constructor
   · exact .inr
   · exact fun h => h.resolve_left hj
section
variable {E : Env} {P : Program} {G : Gh} {φ φ0 : Mp} {w w0 : World} {n : Nat} {all : List Oper} {call : Call} {S : Nat → Fr} {M : Nat → H} {U : Nat → V} {c : Nat} {a a0 : Act} {lst : Array Bool}
theorem drawOp_quiet {ms : List Nat} {j : Nat} {o : Oper} {s : Fr} {h h' : H} {v : V} (hl : isLoud o = false) (e : (drawOp E all ms j o).v call s h = .ok v h') :
 h' = h ∨ (late all ms j = true ∧ ∃ h1, h1.next = h.next + 1 ∧ h' = h.more h1) := by
 have body : (bodyD E all ms j o).v call s h = .ok v h' → h' = h ∨ (late all ms j = true ∧ ∃ h1, h1.next = h.next + 1 ∧ h' = h.more h1) := by
  intro e
  unfold bodyD at e
  rw [hl] at e
  simp only [Box.use_v] at e
  split at e
  · unfold readD at e
    dsimp only at e
    split at e
    · cases e; exact .inl rfl
    · cases e
  · rw [Box.use_v] at e
    unfold detD at e
    dsimp only at e
    split at e
    · rename_i v1 h1 _
      simp only [nbeq] at e
      by_cases h2 : h1.next = h.next
      · rw [decide_eq_true h2, cond_true] at e
        cases e; exact .inl rfl
      · rw [decide_eq_false h2, cond_false] at e
        cases hc : (late all ms j && decide (h1.next = h.next + 1)) with
        | false => rw [hc] at e; cases e
        | true =>
          rw [hc, cond_true] at e
          cases e
          rw [Bool.and_eq_true, decide_eq_true_eq] at hc
          exact .inr ⟨hc.1, h1, hc.2, rfl⟩
    · cases e
 unfold drawOp at e
 rw [Box.use_v] at e
 split at e
 · exact body e
 · split at e
   · cases e
   · rw [Box.use_v] at e
     dsimp only at e
     split at e
     · split at e
       · exact body e
       · cases e; exact .inl rfl
     · cases e; exact .inl rfl
     · cases e
theorem Row.quiet (R : Row E n all call S M U) {j : Nat} {o : Oper} (ho : all[j]? = some o) (hl : isLoud o = false) : QStep all M j := by
 obtain ⟨p, _, e, _, _⟩ := R.run j (List.getElem?_eq_some_iff.1 ho).1 o ho
 exact drawOp_quiet hl e
structure Inv (G : Gh) (φ0 : Mp) (w0 : World) (a0 : Act) (all : List Oper) (S : Nat → Fr) (M : Nat → H) (U : Nat → V) (lst : Array Bool) (φ : Mp) (c : Nat) (a : Act) (w : World) : Prop where
 size : lst.size = all.length
 closed : ∀ i j, j < all.length → Ls lst j → pre (masks all) i j = true → Ls lst i
 cut1 : c ≤ all.length
 cut2 : ∀ l o, all[l]? = some o → isLoud o = true → (l < c ↔ Ls lst l)
 cut3 : c < all.length → ∃ o, all[c]? = some o ∧ isLoud o = true
 tmp1 : ∀ i o t, all[i]? = some o → o.dst = some t → t < 4096 → Ls lst i → conc G φ (U i) = some (a.tmps.getD t undef)
 tmp2 : ∀ t, t < 4096 → (∀ i o, all[i]? = some o → Ls lst i → o.dst ≠ some t) → conc G φ ((Fr.get t).v (S 0)) = some (a.tmps.getD t undef)
 mem : Mem G φ0 w0 M all.length φ c (Ls lst) w
 num : Num φ0 M all.length φ (Ls lst)
 frame : Frame G φ0 (M 0) w0 w
 defers : a.defers = a0.defers
 tsize : a.tmps.size = a0.tmps.size
theorem ready_ok {i : Nat} (hsz : lst.size = all.length) (hr : i ∈ Region.ready .any all.toArray lst) : ∃ o, all[i]? = some o ∧ i < all.length ∧ ¬ Ls lst i ∧ ∀ e ∈ o.after.toList, Region.binds .any e = true → Ls lst e.on := by
 obtain ⟨h1, o, ho, h2⟩ := mem_ready.1 hr
 have ho' : all[i]? = some o := by simpa using ho
 have hi : i < all.length := (List.getElem?_eq_some_iff.1 ho').1
 refine ⟨o, ho', hi, fun hL => ?_, fun e he hb => h2 e (by simpa using he) hb⟩
 unfold Ls at hL
 have hlt : i < lst.size := by omega
 simp [hlt] at h1 hL
 rw [h1] at hL
 cases hL
theorem Inv.preds (R : Row E n all call S M U) (I : Inv G φ0 w0 a0 all S M U lst φ c a w) {i : Nat} {o : Oper} (ho : all[i]? = some o) (he : ∀ e ∈ o.after.toList, Region.binds .any e = true → Ls lst e.on) {l : Nat} (hp : pre (masks all) l i = true) : Ls lst l := by
 have hi : i < all.length := (List.getElem?_eq_some_iff.1 ho).1
 obtain ⟨e, hm, hb, hx⟩ := (pre_iff R.ok ho).1 hp
 rcases hx with rfl | hx
 · exact he e hm hb
 · exact I.closed l e.on (by have := (okDraw_at R.ok ho).2.1 e hm hb; omega) (he e hm hb) hx
theorem Inv.looks (R : Row E n all call S M U) (I : Inv G φ0 w0 a0 all S M U lst φ c a w) {i : Nat} {o : Oper} (ho : all[i]? = some o) (hL : ¬ Ls lst i) (he : ∀ e ∈ o.after.toList, Region.binds .any e = true → Ls lst e.on) :
 Looks G φ (S i) a (looksL all o) := by
 intro t ht ht256
 have hi : i < all.length := (List.getElem?_eq_some_iff.1 ho).1
 have ord : ∀ q oq, all[q]? = some oq → oq.dst = some t → q ≠ i → (q < i ∧ Ls lst q) ∨ (i < q ∧ ¬ Ls lst q) := by
  intro q oq hq hd hne
  have hql : q < all.length := (List.getElem?_eq_some_iff.1 hq).1
  rcases ((okDraw_pair R.ok hq ho hne).1 t hd).1 with h | h | h
  · exact .inl ⟨pre_lt R.ok i hi h, I.preds R ho he h⟩
  · exact .inr ⟨pre_lt R.ok q hql h, fun hq' => hL (I.closed i q hql hq' h)⟩
  · exact absurd ht h
 rcases R.get ht256 i (by omega) with ⟨q, oq, h1, h2, h3, h4⟩ | ⟨h1, h2⟩
 · rw [h4]
   rcases ord q oq h2 h3 (by omega) with ⟨_, h⟩ | ⟨h, _⟩
   · exact I.tmp1 q oq t h2 h3 ht256 h
   · omega
 · rw [h2]
   refine I.tmp2 t ht256 fun q oq hq hLq hd => ?_
   by_cases hqi : q = i
   · subst hqi; exact hL hLq
   · rcases ord q oq hq hd hqi with ⟨h, _⟩ | ⟨_, h⟩
     · exact h1 q oq h hq hd
     · exact h hLq
theorem Mem.advance (R : Row E n all call S M U) {L : Nat → Prop} (hfree : ∀ k o, all[k]? = some o → isLoud o = false → ¬ L k → φ (M k).next = none ∨ M (k + 1) = M k) : ∀ (d k : Nat), all.length - k ≤ d → k ≤ all.length → Mem G φ0 w0 M all.length φ k L w →
 ∃ c', k ≤ c' ∧ c' ≤ all.length ∧ (∀ l o, k ≤ l → l < c' → all[l]? = some o → isLoud o = false) ∧ (c' < all.length → ∃ o, all[c']? = some o ∧ isLoud o = true) ∧ Mem G φ0 w0 M all.length φ c' L w
 | 0, k, hd, hk, Me => ⟨k, Nat.le_refl _, hk, fun l o h1 h2 => by omega, fun h => by omega, Me⟩
 | d + 1, k, hd, hk, Me => by
   by_cases hkn : k < all.length
   · have ho : all[k]? = some all[k] := by simp
     cases hl : isLoud all[k] with
     | true => exact ⟨k, Nat.le_refl _, hk, fun l o h1 h2 => by omega, fun h => ⟨all[k], ho, hl⟩, Me⟩
     | false =>
       have hq := R.quiet ho hl
       have Me' : Mem G φ0 w0 M all.length φ (k + 1) L w := by
        by_cases hLk : L k
        · exact Me.next hq hkn (fun h => absurd hLk h)
        · rcases hfree k _ ho hl hLk with h | h
          · exact Me.next hq hkn (fun _ => h)
          · exact Me.same h
       obtain ⟨c', h1, h2, h3, h4, h5⟩ := Mem.advance R hfree d (k + 1) (by omega) (by omega) Me'
       refine ⟨c', by omega, h2, fun l o hl1 hl2 ho' => ?_, h4, h5⟩
       by_cases hlk : l = k
       · subst hlk; rw [ho] at ho'; cases ho'; exact hl
       · exact h3 l o (by omega) hl2 ho'
   · exact ⟨k, Nat.le_refl _, hk, fun l o h1 h2 => by omega, fun h => absurd h hkn, Me⟩
theorem Inv.cut (R : Row E n all call S M U) (I : Inv G φ0 w0 a0 all S M U lst φ c a w) {i : Nat} {o : Oper} (ho : all[i]? = some o) (hl : isLoud o = true) (hL : ¬ Ls lst i) (he : ∀ e ∈ o.after.toList, Region.binds .any e = true → Ls lst e.on) : c = i := by
 have hi : i < all.length := (List.getElem?_eq_some_iff.1 ho).1
 have h1 : ¬ i < c := fun h => hL ((I.cut2 i o ho hl).1 h)
 rcases Nat.lt_or_ge c i with h | h
 · obtain ⟨oc, hoc, hlc⟩ := I.cut3 (by omega)
   have hp := (okDraw_pair R.ok hoc ho (by omega)).2 h hlc hl
   have := I.preds R ho he hp
   have := (I.cut2 c oc hoc hlc).2 this
   omega
 · omega
theorem Inv.mk' (R : Row E a0.tmps.size all call S M U) (I : Inv G φ0 w0 a0 all S M U lst φ c a w) (hf0 : Free φ0 (M 0).next (M all.length).next) {i : Nat} {o : Oper} (ho : all[i]? = some o) (hL : ¬ Ls lst i) (he : ∀ e ∈ o.after.toList, Region.binds .any e = true → Ls lst e.on)
 {φ' : Mp} {u : Value} {w' : World} (hu : conc G φ' (U i) = some u) (hle : φ.le φ') (hnew : ∀ b, φ b = none → φ' b ≠ none → (M i).next ≤ b ∧ b < (M (i + 1)).next) (hfr : Frame G φ0 (M 0) w0 w')
 (hm : (isLoud o = false ∧ Mem G φ0 w0 M all.length φ' c (Ls (lst.setIfInBounds i true)) w') ∨ (isLoud o = true ∧ Mem G φ0 w0 M all.length φ' (i + 1) (Ls (lst.setIfInBounds i true)) w')) :
 ∃ φ' c', Inv G φ0 w0 a0 all S M U (lst.setIfInBounds i true) φ' c' (a.put o.dst u) w' := by
 have hi : i < all.length := (List.getElem?_eq_some_iff.1 ho).1
 have hset : ∀ j, Ls (lst.setIfInBounds i true) j ↔ j = i ∨ Ls lst j := Ls.set (by rw [I.size]; exact hi)
 have num : Num φ0 M all.length φ' (Ls (lst.setIfInBounds i true)) := by
  refine ⟨Mp.le_trans I.num.le hle, fun b hb0 hb => ?_⟩
  by_cases hb1 : φ b = none
  · obtain ⟨h1, h2⟩ := hnew b hb1 hb
    exact ⟨i, hi, (hset i).2 (.inl rfl), h1, h2⟩
  · obtain ⟨j, hj, hLj, h1, h2⟩ := I.num.new b hb0 hb1
    exact ⟨j, hj, (hset j).2 (.inr hLj), h1, h2⟩
 have hput : ∀ t, t < 4096 → ((o.dst = some t ∧ (a.put o.dst u).tmps.getD t undef = u) ∨ (o.dst ≠ some t ∧ (a.put o.dst u).tmps.getD t undef = a.tmps.getD t undef)) := by
  intro t ht
  obtain ⟨p, hp, _⟩ := R.run i hi o ho
  cases hd : o.dst with
  | none => exact .inr ⟨by simp, rfl⟩
  | some d =>
    rw [hd] at hp
    unfold putD at hp
    cases hb : (Nat.blt d a0.tmps.size && Nat.blt d 4096) with
    | false => simp only [hb] at hp; cases hp
    | true =>
      rw [Bool.and_eq_true, nblt, nblt, decide_eq_true_eq, decide_eq_true_eq] at hb
      by_cases htd : d = t
      · subst htd
        refine .inl ⟨rfl, ?_⟩
        have : d < a.tmps.size := by rw [I.tsize]; exact hb.1
        simp [Act.put, this]
      · refine .inr ⟨by simp; exact htd, ?_⟩
        simp [Act.put, Array.getElem?_setIfInBounds_ne htd]
 have core : ∀ c', c' ≤ all.length → (∀ l o, all[l]? = some o → isLoud o = true → (l < c' ↔ Ls (lst.setIfInBounds i true) l)) → (c' < all.length → ∃ o, all[c']? = some o ∧ isLoud o = true) → Mem G φ0 w0 M all.length φ' c' (Ls (lst.setIfInBounds i true)) w' →
  ∃ φ' c', Inv G φ0 w0 a0 all S M U (lst.setIfInBounds i true) φ' c' (a.put o.dst u) w' := by
  intro c' k1 k2 k3 Me
  refine ⟨φ', c', by simp [I.size], fun x y hy hLy hp => ?_, k1, k2, k3, fun x ox t hx hd ht hLx => ?_, fun t ht hno => ?_, Me, num, hfr, ?_, ?_⟩
  · rw [hset] at hLy ⊢
    rcases hLy with rfl | hLy
    · exact .inr (I.preds R ho he hp)
    · exact .inr (I.closed x y hy hLy hp)
  · rcases (hset x).1 hLx with rfl | hLx
    · rw [ho] at hx; cases hx
      rcases hput t ht with ⟨_, h⟩ | ⟨h, _⟩
      · rw [h]; exact hu
      · exact absurd hd h
    · have hne : x ≠ i := fun e => hL (e ▸ hLx)
      have hdi := ((okDraw_pair R.ok hx ho hne).1 t hd).2
      rcases hput t ht with ⟨h, _⟩ | ⟨_, h⟩
      · exact absurd h hdi
      · rw [h]; exact conc_mono hle (I.tmp1 x ox t hx hd ht hLx)
  · rcases hput t ht with ⟨h, _⟩ | ⟨_, h⟩
    · exact absurd h (hno i o ho ((hset i).2 (.inl rfl)))
    · rw [h]; exact conc_mono hle (I.tmp2 t ht fun x ox hx hLx => hno x ox hx ((hset x).2 (.inr hLx)))
  · rw [← I.defers]; cases o.dst <;> rfl
  · rw [← I.tsize]; cases o.dst <;> simp [Act.put]
 rcases hm with ⟨hl, Me⟩ | ⟨hl, Me⟩
 · refine core c I.cut1 (fun l ol hol hll => ?_) I.cut3 Me
   rw [I.cut2 l ol hol hll, hset]
   constructor
   · exact .inr
   · rintro (rfl | h)
     · rw [ho] at hol; cases hol; rw [hl] at hll; cases hll
     · exact h
 ·
  have hci := I.cut R ho hl hL he
  have hfree : ∀ k o, all[k]? = some o → isLoud o = false → ¬ Ls (lst.setIfInBounds i true) k → φ' (M k).next = none ∨ M (k + 1) = M k := by
   intro k ok hok hlk hLk
   have hk : k < all.length := (List.getElem?_eq_some_iff.1 hok).1
   rcases R.quiet hok hlk with hq | ⟨_, h1, h1n, hq⟩
   · exact .inr hq
   · have : (M (k + 1)).next = h1.next := by rw [hq, more_next]
     exact .inl (Num.free R num hf0 hk hLk _ (Nat.le_refl _) (by omega))
  obtain ⟨c', h1, h2, h3, h4, h5⟩ := Mem.advance R hfree all.length (i + 1) (by omega) (by omega) Me
  refine core c' h2 (fun l ol hol hll => ?_) h4 h5
  rw [hset]
  have hlc := I.cut2 l ol hol hll
  rw [hci] at hlc
  constructor
  · intro h
    rcases Nat.lt_trichotomy l i with hh | hh | hh
    · exact .inr (hlc.1 hh)
    · exact .inl hh
    · have := h3 l ol (by omega) h hol
      rw [this] at hll; cases hll
  · rintro (rfl | h)
    · omega
    · have := hlc.2 h
      omega
theorem HRel.sub {h h' : H} (r : HRel G φ h w) (hs : ∀ b x, h'.t.get b = some x → h.t.get b = some x) (hf : ∀ b, h'.next ≤ b → h'.t.get b = none) : HRel G φ h' w :=
 ⟨fun b x l hb hl => r.blk b x l (hs b x hb) hl, fun b b' x x' l l' h1 h2 h3 h4 => r.inj b b' x x' l l' (hs b x h1) (hs b' x' h2) h3 h4, hf⟩
theorem allB_same {f : V → V → Bool} (hf : ∀ x y, f x y = true → x = y) : ∀ {l m : List V}, allB f l m = true → l = m
 | [], [], _ => rfl
 | [], y :: m, e => by cases e
 | x :: l, [], e => by cases e
 | x :: l, y :: m, e => by
   rw [allB_cons] at e
   dsimp only at e
   cases hx : f x y with
   | false => rw [hx] at e; cases e
   | true =>
     rw [hx, cond_true] at e
     rw [hf x y hx, allB_same hf e]
theorem sameK_eq {j k : IntKind} (e : sameK j k = true) : j = k := by
 unfold sameK at e
 rw [nbeq, decide_eq_true_eq] at e
 cases j <;> cases k <;> first | rfl | cases e
theorem ieq_eq {x y : Int} (e : ieq x y = true) : x = y := by
 unfold ieq at e
 cases x with
 | ofNat m =>
   cases y with
   | ofNat n => have e : Nat.beq m n = true := e; rw [nbeq, decide_eq_true_eq] at e; rw [e]
   | negSucc n => cases e
 | negSucc m =>
   cases y with
   | ofNat n => cases e
   | negSucc n => have e : Nat.beq m n = true := e; rw [nbeq, decide_eq_true_eq] at e; rw [e]
theorem sameC_eq {x y : V} (e : sameC x y = true) : x = y := by
 unfold sameC at e
 split at e <;> first
  | rfl
  | (split at e <;> first | rfl | cases e)
  | (simp only [Bool.and_eq_true, nbeq, decide_eq_true_eq] at e; first | (obtain ⟨rfl, rfl⟩ := e; rfl) | (obtain ⟨⟨⟨rfl, rfl⟩, rfl⟩, rfl⟩ := e; rfl) | (obtain ⟨⟨h1, h2⟩, h3⟩ := e; rw [sameK_eq h1, ieq_eq h2, sameT_eq h3]) | (obtain ⟨h1, h2⟩ := e; rw [sameK_eq h1, ieq_eq h2]) | (rw [e]))
  | cases e
theorem sameV_eq {x y : V} (e : sameV x y = true) : x = y := by
 unfold sameV at e
 split at e
 · split at e
   · rw [allB_same (fun _ _ => sameC_eq) e]
   · cases e
 · split at e
   · rw [allB_same (fun _ _ => sameC_eq) e]
   · cases e
 · exact sameC_eq e
theorem Inv.step (ok : EnvOk E P G) (ck : CallOk P G call) (R : Row E a0.tmps.size all call S M U) (I : Inv G φ0 w0 a0 all S M U lst φ c a w) (hf0 : Free φ0 (M 0).next (M all.length).next) {Q : Exit → Act → World → Prop} {i : Nat} (hr : i ∈ Region.ready .any all.toArray lst) :
 wpOp P all.toArray Q i (fun a' w' => ∃ φ' c', Inv G φ0 w0 a0 all S M U (lst.setIfInBounds i true) φ' c' a' w') a w := by
 obtain ⟨o, ho, hi, hL, he⟩ := ready_ok I.size hr
 have hoa : all.toArray[i]? = some o := by simpa using ho
 obtain ⟨p, hp, e, _, hn⟩ := R.run i hi o ho
 have L := I.looks R ho hL he
 have hset : ∀ j, Ls (lst.setIfInBounds i true) j → j = i ∨ Ls lst j := fun j => (Ls.set (by rw [I.size]; exact hi) j).1
 have hs : notSel o = true := (okDraw_at R.ok ho).2.2.1
 have hws : w0.heap.size ≤ w.heap.size := I.frame.size
 have nomade : M (i + 1) = M i → ∀ b x, ¬ Made M i b x := fun h b x hm => by
  have h1 := hm.1
  have h2 := hm.2.1
  rw [h] at h2
  omega
 have quietM : isLoud o = false → M (i + 1) = M i → (isLoud o = false ∧ Mem G φ0 w0 M all.length φ c (Ls (lst.setIfInBounds i true)) w) := fun hl h => ⟨hl, I.mem.list (nomade h) hset⟩
 unfold wpOp
 simp only [hoa]
 rcases drawOp_ok L e with ⟨hw, eb⟩ | ⟨hw, hv, hh⟩
 · rw [hw, if_pos rfl]
   cases hl : isLoud o with
   | true =>
     have hci := I.cut R ho hl hL he
     subst hci
     have g := body_loud ok ck hs hl L I.mem.rel (Num.free R I.num hf0 hi hL) eb
     refine .inl (g.wp fun u w1 ⟨φ1, hv, r1, f1, x1⟩ => ?_)
     refine I.mk' R hf0 ho hL he hv x1.le (fun b h1 h2 => ?_) (I.frame.trans' f1 I.mem.foot) (.inr ⟨hl, Mem.loud R hi I.mem hws r1 f1 x1 hset⟩)
     by_cases hh : b < (M c).next ∨ (M (c + 1)).next ≤ b
     · exact absurd (x1.new b h1 hh) h2
     · omega
   | false =>
     cases hrd : isRead o with
     | true =>
       have fin : ∀ u, M (i + 1) = M i → (execOp a.eval o).run P w = .ok (.value u) w → conc G φ (U i) = some u →
        o.wp P a w (fun a' w' => ∃ φ' c', Inv G φ0 w0 a0 all S M U (lst.setIfInBounds i true) φ' c' a' w') Q := by
        intro u hM hrun hc
        unfold Oper.wp
        rw [hrun]
        exact I.mk' R hf0 ho hL he hc (Mp.le_refl _) (fun b h1 h2 => absurd h1 h2) I.frame (.inl (quietM hl hM))
       cases hnear : near all i c with
       | true =>
         unfold near at hnear
         rw [Bool.and_eq_true, nble, decide_eq_true_eq] at hnear
         have hq : ∀ j, i ≤ j → j < c → QStep all M j := by
          intro j h1 h2
          have hj : j < all.length := by have := I.cut1; omega
          have hoj : all[j]? = some all[j] := by simp
          have := onAll_ok hnear.2 j all[j] hoj
          rw [Nat.zero_add, nble, nblt, decide_eq_true h1, decide_eq_true h2] at this
          exact R.quiet hoj (by simpa using this)
         have r : HRel G φ (M i) w := I.mem.rel.sub (fun b x hb => up c hnear.1 hq (fun j _ h2 => I.mem.fresh j (by omega)) hb) (I.mem.fresh i hnear.1)
         obtain ⟨hM, u, hrun, hc⟩ := body_read ok hs hl hrd L r eb
         exact .inl (fin u hM hrun hc)
       | false =>
         have hel : c ∈ elsewhere all (masks all) i := by
          unfold elsewhere
          refine List.mem_filter.2 ⟨List.mem_range.2 (by have := I.cut1; omega), ?_⟩
          rw [hnear, Bool.and_eq_true, Bool.and_eq_true]
          refine ⟨⟨?_, onAll_mk fun l ol hol => ?_⟩, rfl⟩
          · unfold isCut
            split
            · rename_i oc hoc
              obtain ⟨oc', hoc', hlc⟩ := I.cut3 (List.getElem?_eq_some_iff.1 hoc).1
              rw [hoc] at hoc'
              cases hoc'
              exact hlc
            · rfl
          · rw [Nat.zero_add]
            cases hll : isLoud ol with
            | false => rfl
            | true =>
              have h2 := I.cut2 l ol hol hll
              rw [nblt]
              by_cases hlc : l < c
              · rw [decide_eq_true hlc]
                simp only [Bool.not_true, Bool.false_or, cond_true]
                cases hp : pre (masks all) i l with
                | false => rfl
                | true => exact absurd (I.closed i l (List.getElem?_eq_some_iff.1 hol).1 (h2.1 hlc) hp) hL
              · rw [decide_eq_false hlc]
                simp only [Bool.not_true, Bool.false_or, cond_false]
                cases hp : pre (masks all) l i with
                | false => rfl
                | true => exact absurd (h2.2 (I.preds R ho he hp)) hlc
         obtain ⟨k, u', k', e1, e2, hsame⟩ := R.tries i o c ho hrd hel
         have hM : M (i + 1) = M i := by
          rcases R.quiet ho hl with h | ⟨_, h1, h1n, h⟩
          · exact h
          ·
           unfold bodyD at eb
           rw [hl, hrd] at eb
           simp only [Box.use_v] at eb
           unfold readD at eb
           split at eb
           · injection eb with _ h2
             exact h2.symm
           · cases eb
         rcases drawOp_ok L e2 with ⟨_, eb2⟩ | ⟨hw2, _, _⟩
         · obtain ⟨_, u, hrun, hc⟩ := body_read ok hs hl hrd L I.mem.rel eb2
           exact .inl (fin u hM hrun (by rw [sameV_eq hsame]; exact hc))
         · rw [hw] at hw2; cases hw2
     | false =>
       obtain ⟨h1, Qu, g⟩ := body_det (P := P) (G := G) ok ck hs hl hrd eb
       have hfr := Num.free R I.num hf0 hi hL
       have hm1 : (M (i + 1)).next = h1.next := by
        rcases Qu with ⟨x, y⟩ | ⟨x, _, y⟩
        · rw [y, x]
        · rw [y, more_next]
       refine .inl ((g φ a w L (by rw [← hm1]; exact hfr)).wp fun u w1 ⟨φ1, hv, r1, f1, x1⟩ => ?_)
       have nofoot : ∀ k, ¬ Foot φ ⟨.lf, (M i).next⟩ k := fun k ⟨b, y, l, hb, _⟩ => (nomatch hb)
       refine I.mk' R hf0 ho hL he hv x1.le (fun b hb1 hb2 => ?_) (I.frame.trans' f1 fun k hk => absurd hk (nofoot k)) (.inl ⟨hl, Mem.det R hi hL I.mem I.cut1 hws hfr Qu (fun hlate j hj1 hj2 => ?_) r1 f1 x1 hset⟩)
       · by_cases hh : b < (M i).next ∨ h1.next ≤ b
         · exact absurd (x1.new b hb1 hh) hb2
         · omega
       · have hj : j < all.length := by have := I.cut1; omega
         have hoj : all[j]? = some all[j] := by simp
         cases hlj : isLoud all[j] with
         | false => exact R.quiet hoj hlj
         | true =>
           have hji : i < j := by
            rcases Nat.lt_or_ge i j with h | h
            · exact h
            · have : j = i := by omega
              subst this
              rw [ho] at hoj; cases hoj; rw [hl] at hlj; cases hlj
           have := onAll_ok hlate j all[j] hoj
           rw [Nat.zero_add, nblt, decide_eq_true hji, hlj] at this
           have hp : pre (masks all) i j = true := by simpa using this
           exact absurd (I.closed i j hj ((I.cut2 j all[j] hoj hlj).1 hj2) hp) hL
 · rw [hw]
   simp only [Bool.false_eq_true, if_false]
   have hc : conc G φ (U i) = some undef := by rw [hv, conc]; rfl
   refine I.mk' R hf0 ho hL he hc (Mp.le_refl _) (fun b h1 h2 => absurd h1 h2) I.frame ?_
   cases hl : isLoud o with
   | false => exact .inl ⟨rfl, (quietM hl hh).2⟩
   | true =>
     have hci := I.cut R ho hl hL he
     subst hci
     exact .inr ⟨rfl, (I.mem.same hh).list (nomade hh) hset⟩
theorem Inv.done (R : Row E n all call S M U) (I : Inv G φ0 w0 a0 all S M U lst φ c a w) (hall : ∀ i, i < all.length → Ls lst i) : Left G φ0 (M 0) w0 a0 (S all.length) (M all.length) a w := by
 have hc : c = all.length := by
  have := I.cut1
  rcases Nat.lt_or_ge c all.length with h | h
  · obtain ⟨o, ho, hl⟩ := I.cut3 h
    have := (I.cut2 c o ho hl).2 (hall c h)
    omega
  · omega
 subst hc
 refine ⟨φ, fun t ht => ?_, I.mem.rel, I.frame, ⟨I.num.le, fun b hb hr => ?_, R.next _ (Nat.le_refl _) 0 (Nat.zero_le _), I.mem.foot⟩, I.defers, I.tsize⟩
 · rcases R.get ht all.length (Nat.le_refl _) with ⟨q, o, h1, h2, h3, h4⟩ | ⟨h1, h2⟩
   · rw [h4]; exact I.tmp1 q o t h2 h3 ht (hall q h1)
   · rw [h2]; exact I.tmp2 t ht fun i o ho _ => h1 i o (List.getElem?_eq_some_iff.1 ho).1 ho
 · cases hx : φ b with
   | none => rfl
   | some l =>
     obtain ⟨j, hj, _, h1, h2⟩ := I.num.new b hb (by rw [hx]; simp)
     have h3 := R.next j (by omega) 0 (Nat.zero_le _)
     have h4 := R.next all.length (Nat.le_refl _) (j + 1) (by omega)
     omega
theorem count_set {l : List Bool} {i : Nat} (h : l[i]? = some false) : (l.set i true).count false + 1 = l.count false := by
 induction l generalizing i with
 | nil => simp at h
 | cons x l ih =>
   cases i with
   | zero => simp at h; subst h; simp
   | succ i =>
     simp at h
     have := ih h
     cases x <;> simp <;> omega
theorem wpAny_ok (ok : EnvOk E P G) (ck : CallOk P G call) (R : Row E a0.tmps.size all call S M U) (hf0 : Free φ0 (M 0).next (M all.length).next) {Q : Exit → Act → World → Prop}
 (hQ : ∀ a' w', Left G φ0 (M 0) w0 a0 (S all.length) (M all.length) a' w' → Q .normal a' w') :
 ∀ (fuel : Nat) (lst : Array Bool) (φ : Mp) (c : Nat) (a : Act) (w : World), Inv G φ0 w0 a0 all S M U lst φ c a w → lst.toList.count false ≤ fuel → wpAny P .any all.toArray Q fuel lst a w
 | 0, lst, φ, c, a, w, I, hk => by
   have hno : ∀ i, i < all.length → Ls lst i := by
    intro i hi
    have hlt : i < lst.size := by rw [I.size]; exact hi
    have h0 : lst.toList.count false = 0 := by omega
    have := List.count_eq_zero.1 h0
    unfold Ls
    cases hx : lst[i] with
    | true => simp [hlt, hx]
    | false =>
      refine absurd ?_ this
      rw [← hx]
      simp
   refine ⟨?_, hQ _ _ (I.done R hno)⟩
   cases hr : Region.ready .any all.toArray lst with
   | nil => rfl
   | cons i l =>
     obtain ⟨o, ho, hi, hL, _⟩ := ready_ok I.size (i := i) (by rw [hr]; simp)
     exact absurd (hno i hi) hL
 | fuel + 1, lst, φ, c, a, w, I, hk => by
   refine ⟨fun hr => hQ _ _ (I.done R fun i => ?_), fun i hi => ?_⟩
   · induction i using Nat.strongRecOn with
     | _ i ih =>
       intro hi
       cases hx : lst.getD i false with
       | true => exact hx
       | false =>
         have ho : all[i]? = some all[i] := by simp
         have hlt : i < lst.size := by rw [I.size]; exact hi
         have hx' : lst[i] = false := by simpa [hlt] using hx
         have : i ∈ Region.ready .any all.toArray lst := mem_ready.2 ⟨by simp [hlt, hx'], all[i], by simp [hi], fun e he hb => by
          have := (okDraw_at R.ok ho).2.1 e (by simpa using he) hb
          exact ih e.on this (by omega)⟩
         rw [hr] at this
         cases this
   · refine wpOp_mono (fun a' w' ⟨φ', c', I'⟩ => ?_) (I.step ok ck R hf0 hi)
     refine wpAny_ok ok ck R hf0 hQ fuel _ φ' c' a' w' I' ?_
     obtain ⟨o, ho, hil, hL, _⟩ := ready_ok I.size hi
     have hlt : i < lst.size := by rw [I.size]; exact hil
     have hx : lst.toList[i]? = some false := by
      cases hx : lst[i] with
      | false => simp [hlt, hx]
      | true => exact absurd (show Ls lst i by unfold Ls; simp [hlt, hx]) hL
     have := count_set hx
     rw [Array.toList_setIfInBounds]
     omega
theorem draw_ok (ok : EnvOk E P G) (ck : CallOk P G call) (hm : P.follows .mixedOrders = true) {id : Nat} {ops : Array Oper} {Q : Exit → Act → World → Prop} {s s' : Fr} {h h' : H} (e : (drawF E a.tmps.size ops.toList).v call s h = .ok s' h')
 (T : TRel G φ s a.tmps) (r : HRel G φ h w) (hf : Free φ h.next h'.next) (hQ : ∀ a' w', Left G φ h w a s' h' a' w' → Q .normal a' w') : (Code.region id ops true).wp P Q a w := by
 obtain ⟨S, M, U, rfl, rfl, rfl, rfl, R⟩ := drawF_row e
 refine wp_region_any hm ?_
 have hno : ∀ i, ¬ Ls (Array.replicate ops.size false) i := fun i hh => by
  unfold Ls at hh
  simp only [Array.getD_eq_getD_getElem?, Array.getElem?_replicate] at hh
  split at hh <;> cases hh
 have hn0 : ∀ b, φ b = none → φ b ≠ none → ∃ j, j < ops.toList.length ∧ Ls (Array.replicate ops.size false) j ∧ (M j).next ≤ b ∧ b < (M (j + 1)).next := fun b h1 h2 => absurd h1 h2
 have Me0 : Mem G φ w M ops.toList.length φ 0 (Ls (Array.replicate ops.size false)) { w with drawn := w.drawn + 1 } := by
  refine ⟨⟨fun b x l hb hl => (r.blk b x l hb hl).mono (Mp.le_refl _) rfl, r.inj, r.fresh⟩, fun k hk b hb => ?_, fun k hk _ => hk, fun j b x l _ _ hL => absurd hL (hno j), fun j j' b b' x x' l l' _ _ hL => absurd hL (hno j)⟩
  have : k = 0 := by omega
  subst this
  exact r.fresh b hb
 have num0 : Num φ M ops.toList.length φ (Ls (Array.replicate ops.size false)) := ⟨Mp.le_refl _, hn0⟩
 have hfree : ∀ k o, ops.toList[k]? = some o → isLoud o = false → ¬ Ls (Array.replicate ops.size false) k → φ (M k).next = none ∨ M (k + 1) = M k := by
  intro k ok hok hlk hLk
  have hk : k < ops.toList.length := (List.getElem?_eq_some_iff.1 hok).1
  rcases R.quiet hok hlk with hq | ⟨_, h1, h1n, hq⟩
  · exact .inr hq
  · have : (M (k + 1)).next = h1.next := by rw [hq, more_next]
    exact .inl (Num.free R num0 hf hk hLk _ (Nat.le_refl _) (by omega))
 obtain ⟨c, h1, h2, h3, h4, Me⟩ := Mem.advance R hfree ops.toList.length 0 (by omega) (Nat.zero_le _) Me0
 have I : Inv G φ w a ops.toList S M U (Array.replicate ops.size false) φ c a { w with drawn := w.drawn + 1 } := by
  refine ⟨by simp, fun i j _ hL => absurd hL (hno j), h2, fun l o ho hl => ⟨fun hlt => ?_, fun hL => absurd hL (hno l)⟩, h4, fun i o t _ _ _ hL => absurd hL (hno i), fun t ht _ => T t ht, Me, num0, ⟨fun _ => Nat.le_succ _, rfl, rfl, rfl, Nat.le_refl _, fun _ _ _ => rfl⟩, rfl, rfl⟩
  have := h3 l o (Nat.zero_le _) hlt ho
  rw [this] at hl
  cases hl
 have := wpAny_ok ok ck R hf (Q := Q) hQ ops.size (Array.replicate ops.size false) φ c a _ I (by simp [Array.toList_replicate])
 simpa using this
end
end Go.Proofs.YtmfmjhklajmhoaaGreat.Gv
