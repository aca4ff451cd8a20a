/- A function that goes over a map: hooked in. -/
import Derived.Test.YtmfmjhklajmhoaaGreatGvWild8
import Derived.Shelf.SlIter.Collect
import Derived.RangeFuncLeaves
import Derived.LoopN
import Derived.Lib.Hide
namespace Go.Proofs.YtmfmjhklajmhoaaGreat.Gv
open Go Go.Sort Go.RowKit
noncomputable def cmpI (cmpE : Call) (g : Nat) (x y : List V) : Option Int := match cmpE g [.agg x, .agg y] ⟨.lf, 0⟩ with | .ok v _ => (match v with | .int .i64 c => some c | _ => none) | .bad _ _ => none
noncomputable def lessR (cmpE : Call) (g : Nat) (x y : List V) : Bool := match cmpI cmpE g x y with | some c => ilt c 0 | none => false
noncomputable def insR (lt : List V → List V → Bool) (x : List V) (l : List (List V)) : List (List V) := List.rec (motive := fun _ => List (List V)) [x] (fun y t ih => bif lt x y then x :: y :: t else y :: ih) l
noncomputable def sortR (lt : List V → List V → Bool) (l : List (List V)) : List (List V) := List.rec (motive := fun _ => List (List V)) [] (fun x _ ih => insR lt x ih) l
noncomputable def fillR (l : List (List V)) : List (List V) := List.rec (motive := fun _ => List (List V)) [] (fun x _ ih => match x with | [] => ih | y :: t => (y :: t) :: ih) l
noncomputable def notLess (cmpE : Call) (g : Nat) (x y : List V) : Bool := match cmpI cmpE g x y with | some c => !ilt c 0 | none => false
noncomputable def upAll (cmpE : Call) (g : Nat) (x : List V) (l : List (List V)) : Bool := List.rec (motive := fun _ => Bool) true (fun y _ ih => bif lessR cmpE g x y && notLess cmpE g y x then ih else false) l
noncomputable def upR (cmpE : Call) (g : Nat) (l : List (List V)) : Bool := List.rec (motive := fun _ => Bool) true (fun x t ih => bif notLess cmpE g x x && upAll cmpE g x t then ih else false) l
noncomputable def tailO (E : Env) (cmpE : Call) (R : RowC) (o : Nat) (n : Nat) (call : Call) (y : Code) (s0 : Fr) (h1 : H) (rows : List (List V)) : WX :=
 match rows with
 | [] => (match putW n (some o) .nilslice s0 with | some s1 => codeW E R n call y s1 h1 [] [] | none => .bad "rule" 2)
 | row :: rows => (match R.cmp with
   | .func (.func g) [] [] => (fun (rs : List (List V)) => bif upR cmpE g rs then codeW E { R with tot := some rs } n call y s0 h1 [o] [] else .bad "rule: order" 0) (sortR (lessR cmpE g) (row :: rows))
   | _ => .bad "rule" 1)
noncomputable def tailW (E : Env) (cmpE : Call) (R : RowC) (ob : Option Nat) (n : Nat) (call : Call) (y : Code) (s0 : Fr) (h1 : H) (bls : List (List V)) : WX :=
 match ob with
 | none => codeW E R n call y s0 h1 [] []
 | some o => tailO E cmpE R o n call y s0 h1 (fillR bls)
noncomputable def runM (E : Env) (cmpE : Call) (R : RowC) (ob : Option Nat) (n : Nat) (call : Call) (c : Code) : Fr → H → WX :=
 Code.rec (motive := fun _ => Fr → H → WX)
  (fun s h => .nx s h [] [])
  (fun _ _ _ _ _ => .bad "spine" 0)
  (fun x y _ iy s h => match rangeOf n x with
   | some r => (match ruleW E R n call ob r s h with
     | none => .bad "rule" (ruleAsk E R n call ob r s h)
     | some (s0, h1, bls) => tailW E cmpE R ob n call y s0 h1 bls)
   | none => (match (codeF E n x).v call s h with
     | .nx s h => iy s h
     | .rt s h => .rt s h [] []
     | .ex _ _ _ => .bad "spine" 1
     | .bad w x => .bad w x))
  (fun _ _ _ _ _ _ _ => .bad "spine" 2)
  (fun _ _ _ _ _ => .bad "spine" 3)
  (fun _ _ _ _ => .bad "spine" 4)
  (fun _ _ _ _ _ _ _ _ => .bad "spine" 5)
  (fun _ _ _ => .bad "spine" 6)
  (fun _ _ _ _ => .bad "spine" 7)
  (fun _ _ _ => .bad "spine" 8)
  (fun _ _ _ => .bad "spine" 9)
  (fun s h => .rt s h [] [])
  (fun _ _ _ => .bad "spine" 10) c
noncomputable def resW (rs : List ResultVar) (s : Fr) : Option V := match rs with | [.tmp t] => bif Nat.blt t 4096 && !isW ((Fr.get t).v s) then some ((Fr.get t).v s) else none | _ => none
noncomputable def mapH (E : Env) (cmpE : Call) (R : RowC) (ob : Option Nat) (fn : Func) (call : Call) (args : List V) (h : H) : RV :=
 match fn.body with
 | some c => bif Nat.ble args.length fn.ntmps && Nat.ble args.length 4096 then (match runM E cmpE R ob fn.ntmps call c (Fr.ofL args 0 Fr.new) h with
   | .rt s h' _ _ => onSome "map: result" (resW fn.results.toList s) fun v => .ok v h'
   | .bad w x => .bad w x
   | _ => .bad "map: end" 0) else .bad "map: args" 0
 | none => .bad "map: body" 0
section
variable {E : Env} {P : Program} {G : Gh} {φ : Mp} {h h' : H} {w w' : World} {s s' : Fr} {a : Act} {v : V} {o : Oper} {R : RowC}
theorem insR_cons (lt : List V → List V → Bool) (x y : List V) (t : List (List V)) : insR lt x (y :: t) = (bif lt x y then x :: y :: t else y :: insR lt x t) := rfl
theorem insR_perm (lt : List V → List V → Bool) (x : List V) : ∀ l : List (List V), (insR lt x l).Perm (x :: l)
 | [] => List.Perm.refl _
 | y :: t => by
   rw [insR_cons]
   cases lt x y with
   | true => exact List.Perm.refl _
   | false => exact ((insR_perm lt x t).cons y).trans (List.Perm.swap _ _ _)
theorem sortR_perm (lt : List V → List V → Bool) : ∀ l : List (List V), (sortR lt l).Perm l
 | [] => List.Perm.refl _
 | x :: t => (insR_perm lt x (sortR lt t)).trans ((sortR_perm lt t).cons x)
theorem fillR_eq : ∀ l : List (List V), fillR l = l.filter fun x => !x.isEmpty
 | [] => rfl
 | x :: t => by
   show (match x with | [] => fillR t | y :: q => (y :: q) :: fillR t) = _
   cases x with
   | nil => simpa using fillR_eq t
   | cons y q => rw [List.filter_cons]; simp [fillR_eq t]
theorem lessR_ok {cmpE : Call} {g : Nat} {x y : List V} (e : lessR cmpE g x y = true) : ∃ c, cmpI cmpE g x y = some c ∧ c < 0 := by
 unfold lessR at e
 split at e
 · rename_i c hc; rw [ilt_ok, decide_eq_true_eq] at e; exact ⟨c, hc, e⟩
 · cases e
theorem notLess_ok {cmpE : Call} {g : Nat} {x y : List V} (e : notLess cmpE g x y = true) : ∃ c, cmpI cmpE g x y = some c ∧ ¬ c < 0 := by
 unfold notLess at e
 split at e
 · rename_i c hc; rw [ilt_ok, Bool.not_eq_true', decide_eq_false_iff_not] at e; exact ⟨c, hc, e⟩
 · cases e
theorem upAll_ok {cmpE : Call} {g : Nat} {x : List V} : ∀ {l : List (List V)}, upAll cmpE g x l = true → ∀ y ∈ l, lessR cmpE g x y = true ∧ notLess cmpE g y x = true
 | [], _, y, hy => by cases hy
 | z :: l, e, y, hy => by
   have e : (bif lessR cmpE g x z && notLess cmpE g z x then upAll cmpE g x l else false) = true := e
   cases hc : (lessR cmpE g x z && notLess cmpE g z x) with
   | false => rw [hc] at e; cases e
   | true =>
     rw [hc, cond_true] at e
     rw [Bool.and_eq_true] at hc
     rcases List.mem_cons.1 hy with rfl | hy
     · exact hc
     · exact upAll_ok e y hy
theorem upR_ok {cmpE : Call} {g : Nat} : ∀ {l : List (List V)}, upR cmpE g l = true → ∀ (i j : Nat) x y, l[i]? = some x → l[j]? = some y → ∃ c, cmpI cmpE g x y = some c ∧ (c < 0 ↔ i < j)
 | [], _, i, j, x, y, hx, _ => by simp at hx
 | z :: l, e, i, j, x, y, hx, hy => by
   have e : (bif notLess cmpE g z z && upAll cmpE g z l then upR cmpE g l else false) = true := e
   cases hc : (notLess cmpE g z z && upAll cmpE g z l) with
   | false => rw [hc] at e; cases e
   | true =>
     rw [hc, cond_true] at e
     rw [Bool.and_eq_true] at hc
     cases i with
     | zero =>
       simp at hx
       subst hx
       cases j with
       | zero =>
         simp at hy
         subst hy
         obtain ⟨c, h1, h2⟩ := notLess_ok hc.1
         exact ⟨c, h1, by omega⟩
       | succ j =>
         obtain ⟨c, h1, h2⟩ := lessR_ok (upAll_ok hc.2 y (List.mem_of_getElem? (i := j) (by simpa using hy))).1
         exact ⟨c, h1, by omega⟩
     | succ i =>
       cases j with
       | zero =>
         simp at hy
         subst hy
         obtain ⟨c, h1, h2⟩ := notLess_ok (upAll_ok hc.2 x (List.mem_of_getElem? (i := i) (by simpa using hx))).2
         exact ⟨c, h1, by omega⟩
       | succ j =>
         obtain ⟨c, h1, h2⟩ := upR_ok e i j x y (by simpa using hx) (by simpa using hy)
         exact ⟨c, h1, by omega⟩
theorem perm_map {α β : Type} {f : α → β} {l m : List β} (hp : l.Perm m) : ∀ r : List α, m = r.map f → ∃ d : List α, d.Perm r ∧ l = d.map f := by
 induction hp with
 | nil =>
   intro r hr
   have : r = [] := by cases r <;> first | rfl | cases hr
   subst this
   exact ⟨[], List.Perm.refl _, rfl⟩
 | cons x _ ih =>
   intro r hr
   cases r with
   | nil => cases hr
   | cons y r =>
     injection hr with h1 h2
     obtain ⟨d, g1, g2⟩ := ih r h2
     exact ⟨y :: d, g1.cons y, by rw [List.map_cons, h1, g2]⟩
 | swap x y l =>
   intro r hr
   cases r with
   | nil => cases hr
   | cons p r =>
     injection hr with h1 h2
     cases r with
     | nil => cases h2
     | cons q r =>
       injection h2 with h3 h4
       exact ⟨q :: p :: r, List.Perm.swap _ _ _, by rw [h1, h3, h4]; rfl⟩
 | trans _ _ ih1 ih2 =>
   intro r hr
   obtain ⟨d, g1, g2⟩ := ih2 r hr
   obtain ⟨d', g3, g4⟩ := ih1 d g2
   exact ⟨d', g3.trans g1, g4⟩
theorem flat_fill {α : Type} : ∀ l : List (List α), (l.filter fun x => !x.isEmpty).flatten = l.flatten
 | [] => rfl
 | x :: t => by
   rw [List.filter_cons, List.flatten_cons, ← flat_fill t]
   cases x <;> simp
theorem grown_of {w w' : World} (hos : w'.os = w.os) (htp : w'.tape = w.tape) (hout : w'.output = w.output) (hd : w.drawn ≤ w'.drawn) (hs : w.heap.size ≤ w'.heap.size) (hb : ∀ k, k < w.heap.size → w'.heap[k]? = w.heap[k]?) :
 ∃ q os, w' = grow (w.drewN q) os := by
 refine ⟨w'.drawn - w.drawn, w'.heap.extract w.heap.size w'.heap.size, ?_⟩
 cases w with
 | mk heap tape drawn os output =>
   cases w' with
   | mk heap' tape' drawn' os' output' =>
     simp only at hos htp hout hd hs hb
     subst hos htp hout
     have e1 : drawn + (drawn' - drawn) = drawn' := by omega
     have e2 : heap ++ heap'.extract heap.size heap'.size = heap' := by
      apply Array.ext_getElem?
      intro i
      rw [Array.getElem?_append]
      split
      · rename_i hi; exact (hb i hi).symm
      · rename_i hi
        rw [Array.getElem?_extract]
        by_cases hlt : i < heap'.size
        · rw [if_pos (by omega)]
          congr 1
          omega
        · rw [if_neg (by omega), Array.getElem?_eq_none (by omega)]
     show _ = ({ heap := heap ++ _, tape := _, drawn := drawn + _, os := _, output := _ } : World)
     rw [e1, e2]
     rfl
def Gh.up (G : Gh) : Gh := { G with mono := True }
theorem plC_up (v : V) : plC G.up v = plC G v := by cases v <;> rfl
theorem cmpI_run (hP : ProgOk P) {g : Nat} {x y : List V} {c : Int} {fuel : Nat} (hx : allPl x = true) (hy : allPl y = true) (eg : ∀ args w, (callFunc g args).run P w = .ok (.enter g args) w)
 (e : cmpI (callN (evE P (fun _ => none) [] [] []) fuel) g x y = some c) (W : World) :
 Calls P g #[.agg (x.map (plC G)).toArray, .agg (y.map (plC G)).toArray] W fun e W' => e = .returned (.int .i64 c) ∧ ∃ q os, W' = grow (W.drewN q) os := by
 unfold cmpI at e
 split at e
 · rename_i v h1 hc
   split at e
   · cases e
     have ck := callN_ok (P := P) (G := G.up) (evE_ok hP (noFacts (G := G.up)).ends (geOk_at noFacts.ge) (nlOk_at noFacts.nl)) (evE_fn hP noHooks) fuel
     have hl : concL G.up (fun _ => none) [.agg x, .agg y] = some [.agg (x.map (plC G)).toArray, .agg (y.map (plC G)).toArray] := by
      have key : ∀ z : List V, allPl z = true → conc G.up (fun _ => none) (.agg z) = some (.agg (z.map (plC G)).toArray) := fun z hz => by
       rw [conc, allPl_conc hz]
       have : z.map (plC G.up) = z.map (plC G) := List.map_congr_left fun v _ => plC_up v
       rw [this]
      exact concL_cons.2 ⟨_, _, key x hx, concL_cons.2 ⟨_, _, key y hy, concL_nil, rfl⟩, rfl⟩
     have r0 : HRel G.up (fun _ => none) ⟨.lf, 0⟩ W := ⟨fun b x l hb => (nomatch hb), fun b b' x x' l l' hb => (nomatch hb), fun b _ => rfl⟩
     have g1 := ck g _ _ _ _ hc (fun _ => none) W _ hl r0 (fun _ _ _ => rfl)
     have heq : ([.agg (x.map (plC G)).toArray, .agg (y.map (plC G)).toArray] : List Value).toArray = #[.agg (x.map (plC G)).toArray, .agg (y.map (plC G)).toArray] := rfl
     rw [heq, eg] at g1
     refine Calls.mono g1 ?_
     rintro e W' ⟨u, rfl, φ', hu, r, f, x'⟩
     rw [conc] at hu
     cases hu
     refine ⟨rfl, grown_of f.os f.tape f.output (f.drawn trivial) f.size fun k hk => f.block k hk ?_⟩
     rintro ⟨b, y, l, hb, _⟩
     exact (nomatch hb)
   · cases e
 · cases e
end
end Go.Proofs.YtmfmjhklajmhoaaGreat.Gv
namespace Go.Proofs.YtmfmjhklajmhoaaGreat.Gv
open Go Go.Sort Go.RowKit
section
variable {E : Env} {P : Program} {G : Gh} {φ : Mp} {h h' : H} {w w' : World} {s s' : Fr} {a : Act} {v : V} {o : Oper} {R : RowC} {bt' : List Nat} {bl' : List V}
theorem WFrame.weak {b b' : Nat} (f : WFrame G b' φ h w w') (hb : b ≤ b') : WFrame G b φ h w w' := ⟨f.drawn, f.os, f.tape, f.output, f.size, fun k hk => f.block k (by omega)⟩
theorem WExt.weak {b b' : Nat} {φ' : Mp} (x : WExt b' φ φ' h h') (hb : b ≤ b') : WExt b φ φ' h h' := ⟨x.le, x.new, x.next, fun k hk hl => x.foot k hk (by omega)⟩
def MLeft (G : Gh) (φ : Mp) (h : H) (w : World) (a : Act) (s' : Fr) (h' : H) (a' : Act) (w' : World) : Prop :=
 ∃ φ', WRel G φ' s' a'.tmps ∧ HRel G φ' h' w' ∧ Frame G φ h w w' ∧ Ext φ φ' h h' w ∧ a'.defers = a.defers ∧ a'.tmps.size = a.tmps.size
theorem WLeft.toM {base : Nat} {R0 : List Value} {φ1 : Mp} {h1 : H} {w1 w2 : World} {a1 a2 : Act} {s2 : Fr} {h2 : H} {bt bl} (f : WFrame G w.heap.size φ h w w1) (x : WExt w.heap.size φ φ1 h h1) (hb : w.heap.size ≤ base) (hd : a1.defers = a.defers) (hz : a1.tmps.size = a.tmps.size)
 (l : WLeft G R base R0 φ1 h1 w1 a1 s2 h2 bt bl a2 w2) : MLeft G φ h w a s2 h2 a2 w2 := by
 obtain ⟨φ2, T, _, r, f2, x2, hd2, hz2⟩ := l
 have g := f.trans x (f2.weak hb)
 have y := x.trans (x2.weak hb)
 exact ⟨φ2, T, r, ⟨g.drawn, g.os, g.tape, g.output, g.size, g.block⟩, ⟨y.le, y.new, y.next, y.foot⟩, hd2.trans hd, hz2.trans hz⟩
theorem tok_none (h : R.tot = none) (R0 : List Value) : TotOk P G R R0 := ⟨fun rows hr => by rw [h] at hr; cases hr⟩
theorem tok_some (hP : ProgOk P) {bls : List (List V)} {g fuel : Nat} (hcm : R.cmp = .func (.func g) [] []) (hbl : ∀ (j : Nat) bl, bls[j]? = some bl → (bl.length = 0 ∨ bl.length = R.k) ∧ allPl bl = true) (hn : bls.length ≤ 1000) (hk : 0 < R.k)
 (hcell : ∀ i, i < 1000 → (G.ε i).oneCell' = true) (eg : ∀ args w, (callFunc g args).run P w = .ok (.enter g args) w) (hS : SortOk P R.sf R.k) (hsf : ∀ args w, (callFunc R.sf args).run P w = .ok (.enter R.sf args) w)
 {rs : List (List V)} (hrs : rs = sortR (lessR (callN (evE P (fun _ => none) [] [] []) fuel) g) (fillR bls)) (hne : fillR bls ≠ []) (hup : upR (callN (evE P (fun _ => none) [] [] []) fuel) g rs = true) {vi : List Nat} (hvi : vi.Perm (List.range bls.length)) :
 TotOk P G { R with tot := some rs } (vi.map fun j => ((bls[j]?).getD []).map (plC G)).flatten := by
 refine ⟨fun rows hrows => ?_⟩
 have hrows' : some rs = some rows := hrows
 cases hrows'
 have hp : rs.Perm (bls.filter fun x => !x.isEmpty) := by rw [hrs, fillR_eq]; exact sortR_perm _ _
 have hmem : ∀ row ∈ rs, row.length = R.k ∧ allPl row = true := fun row hr => by
  obtain ⟨h1, h2⟩ := List.mem_filter.1 (hp.mem_iff.1 hr)
  obtain ⟨j, hj⟩ := List.mem_iff_getElem?.1 h1
  obtain ⟨h3, h4⟩ := hbl j row hj
  refine ⟨?_, h4⟩
  rcases h3 with h3 | h3
  · have : row = [] := List.eq_nil_of_length_eq_zero h3
    subst this
    simp at h2
  · exact h3
 have hlen : 0 < rs.length := by
  have h1 : rs.length = (fillR bls).length := by rw [hrs]; exact (sortR_perm _ _).length_eq
  rw [h1]
  exact List.length_pos_iff.2 hne
 have hlen2 : rs.length ≤ 1000000 := by
  have h1 := hp.length_eq
  have h2 := List.length_filter_le (fun x : List V => !x.isEmpty) bls
  omega
 obtain ⟨cr, hcr⟩ : ∃ cr : Nat → List Value, cr = fun i => ((rs[i]?).getD []).map (plC G) := ⟨_, rfl⟩
 obtain ⟨cf, hcf⟩ : ∃ cf : Nat → Nat → Int, cf = fun i j => (cmpI (callN (evE P (fun _ => none) [] [] []) fuel) g ((rs[i]?).getD []) ((rs[j]?).getD [])).getD 0 := ⟨_, rfl⟩
 have hvp : ((vi.map fun j => ((bls[j]?).getD []).map (plC G)).filter fun x => !x.isEmpty).Perm ((List.range rs.length).map cr) := by
  have h1 : (vi.map fun j => ((bls[j]?).getD []).map (plC G)).Perm (bls.map fun bl => bl.map (plC G)) := by
   refine (hvi.map _).trans ?_
   have : (List.range bls.length).map (fun j => ((bls[j]?).getD []).map (plC G)) = bls.map fun bl => bl.map (plC G) := by
    apply List.ext_getElem?
    intro i
    simp only [List.getElem?_map]
    by_cases hi : i < bls.length
    · rw [List.getElem?_range hi]
      simp [hi]
    · rw [List.getElem?_eq_none (by simpa using hi), List.getElem?_eq_none (by simpa using hi)]
      rfl
   rw [this]
  refine (h1.filter _).trans ?_
  have h2 : (bls.map fun bl => bl.map (plC G)).filter (fun x => !x.isEmpty) = (bls.filter fun x => !x.isEmpty).map fun bl => bl.map (plC G) := by
   rw [List.filter_map]
   congr 1
   apply List.filter_congr
   intro x _
   simp
  rw [h2]
  have h3 : (List.range rs.length).map cr = rs.map fun bl => bl.map (plC G) := by
   apply List.ext_getElem?
   intro i
   simp only [List.getElem?_map]
   by_cases hi : i < rs.length
   · rw [List.getElem?_range hi, hcr]
     simp [hi]
   · rw [List.getElem?_eq_none (by simpa using hi), List.getElem?_eq_none (by simpa using hi)]
     rfl
  rw [h3]
  exact (hp.map _).symm
 obtain ⟨d, hd1, hd2⟩ := perm_map (f := cr) hvp (List.range rs.length) rfl
 refine ⟨g, cr, cf, d, hcm, hlen, hlen2, hk, fun i row hi => ?_, fun i hi u hu => ?_, fun i j hi hj => ?_, eg, fun i j hi hj W => ?_, hd1, ?_, hS, hsf⟩
 · obtain ⟨h1, h2⟩ := hmem row (List.mem_of_getElem? hi)
   refine ⟨h1, fun φ => ?_⟩
   rw [hcr]
   simp only [hi, Option.getD_some]
   exact allPl_conc h2 φ
 · rw [hcr] at hu
   simp only [show rs[i]? = some rs[i] by simp [hi], Option.getD_some] at hu
   obtain ⟨x, hx, rfl⟩ := List.mem_map.1 hu
   have h2 := (hmem rs[i] (by simp)).2
   have key : ∀ (l : List V), allPl l = true → ∀ x ∈ l, isPl x = true := by
    intro l
    induction l with
    | nil => intro _ x hx; cases hx
    | cons y t ih =>
      intro e x hx
      have e : (bif isPl y then allPl t else false) = true := e
      cases hy : isPl y with
      | false => rw [hy] at e; cases e
      | true =>
        rw [hy] at e
        rcases List.mem_cons.1 hx with rfl | hx
        · exact hy
        · exact ih e x hx
   have hpx := key _ h2 x hx
   cases x <;> first | rfl | exact hcell _ (of_decide_eq_true ((nblt _ _).symm.trans hpx)) | cases hpx
 · obtain ⟨c, h1, h2⟩ := upR_ok hup i j rs[i] rs[j] (by simp [hi]) (by simp [hj])
   rw [hcf]
   simp only [show rs[i]? = some rs[i] by simp [hi], show rs[j]? = some rs[j] by simp [hj], Option.getD_some, h1]
   exact h2
 · obtain ⟨c, h1, h2⟩ := upR_ok hup i j rs[i] rs[j] (by simp [hi]) (by simp [hj])
   rw [hcf, hcr]
   simp only [show rs[i]? = some rs[i] by simp [hi], show rs[j]? = some rs[j] by simp [hj], Option.getD_some, h1]
   exact cmpI_run hP (hmem _ (by simp)).2 (hmem _ (by simp)).2 eg h1 W
 · rw [← hd2, flat_fill]
structure SortsOk (P : Program) (R : RowC) : Prop where
 k : 0 < R.k
 sort : SortOk P R.sf R.k
 sf : ∀ args w, (callFunc R.sf args).run P w = .ok (.enter R.sf args) w
 cmp : ∀ g, R.cmp = .func (.func g) [] [] → ∀ args w, (callFunc g args).run P w = .ok (.enter g args) w
theorem runM_ok (hP : ProgOk P) (ok : EnvOk E P G) (hmd : P.follows .mixedOrders = true) {call : Call} (ck : CallOk P G call) (hm : ¬ G.mono) (htot : R.tot = none) {ob : Option Nat} (hS : ∀ o, ob = some o → SortsOk P R) {n fuel : Nat} : ∀ (c : Code) (s : Fr) (h : H) (e : Exit) (s' : Fr) (h' : H) (bt' : List Nat) (bl' : List V),
 ArrW (runM E (callN (evE P (fun _ => none) [] [] []) fuel) R ob n call c s h) e s' h' bt' bl' → h.next ≤ h'.next ∧
  ∀ (φ : Mp) (a : Act) (w : World), TRel G φ s a.tmps → HRel G φ h w → Free φ h.next h'.next → a.tmps.size = n → c.wp P (fun e' a' w' => e' = e ∧ MLeft G φ h w a s' h' a' w') a w
 | .skip => fun s h e s' h' bt' bl' A => by
   obtain ⟨e1, e2, e3, e4, e5⟩ := ArrW.nx (show ArrW (.nx s h [] []) e s' h' bt' bl' from A)
   subst e1 e2 e5
   exact ⟨Nat.le_refl _, fun φ a w T r hf hz => wp_skip ⟨rfl, φ, T.wild, r, Frame.refl _ _ _ _, Ext.refl _ _ _, rfl, rfl⟩⟩
 | .ret => fun s h e s' h' bt' bl' A => by
   obtain ⟨e1, e2, e3, e4, e5⟩ := ArrW.rt (show ArrW (.rt s h [] []) e s' h' bt' bl' from A)
   subst e1 e2 e5
   exact ⟨Nat.le_refl _, fun φ a w T r hf hz => wp_ret ⟨rfl, φ, T.wild, r, Frame.refl _ _ _ _, Ext.refl _ _ _, rfl, rfl⟩⟩
 | .seq x y => fun s h e s' h' bt' bl' A => by
   have A : ArrW (match rangeOf n x with
    | some r => (match ruleW E R n call ob r s h with
      | none => .bad "rule" (ruleAsk E R n call ob r s h)
      | some (s0, h1, bls) => tailW E (callN (evE P (fun _ => none) [] [] []) fuel) R ob n call y s0 h1 bls)
    | none => (match (codeF E n x).v call s h with
      | .nx s h => runM E (callN (evE P (fun _ => none) [] [] []) fuel) R ob n call y s h
      | .rt s h => .rt s h [] []
      | .ex _ _ _ => .bad "spine" 1
      | .bad w x => .bad w x)) e s' h' bt' bl' := A
   cases hx : rangeOf n x with
   | none =>
     rw [hx] at A
     dsimp only at A
     cases hr : (codeF E n x).v call s h with
     | nx s1 h1 =>
       rw [hr] at A
       obtain ⟨n1, k1⟩ := code_ok ok ck hmd x s h .normal s1 h1 (.inl ⟨hr, rfl⟩)
       obtain ⟨n2, k2⟩ := runM_ok hP ok hmd ck hm htot hS y s1 h1 e s' h' bt' bl' A
       refine ⟨Nat.le_trans n1 n2, fun φ a w T r hf hz => wp_seq ?_⟩
       refine wp_mono (k1 φ a w T r (hf.left n2) hz) ?_
       rintro e1 a1 w1 ⟨rfl, φ1, T1, r1, f1, x1, hd, hz1⟩
       refine wp_mono (k2 φ1 a1 w1 T1 r1 (hf.right x1) (hz1.trans hz)) ?_
       rintro e2 a2 w2 ⟨rfl, φ2, T2, r2, f2, x2, hd2, hz2⟩
       exact ⟨rfl, φ2, T2, r2, f1.trans x1 f2, x1.trans f1.size x2, hd2.trans hd, hz2.trans hz1⟩
     | rt s1 h1 =>
       rw [hr] at A
       obtain ⟨e1, e2, e3, e4, e5⟩ := ArrW.rt A
       subst e1 e2 e5
       obtain ⟨n1, k1⟩ := code_ok ok ck hmd x s h .ret s1 h1 (.inr (.inr ⟨hr, rfl⟩))
       refine ⟨n1, fun φ a w T r hf hz => wp_seq ?_⟩
       refine wp_mono (k1 φ a w T r hf hz) ?_
       rintro e1 a1 w1 ⟨rfl, φ1, T1, r1, f1, x1, hd, hz1⟩
       exact ⟨rfl, φ1, T1.wild, r1, f1, x1, hd, hz1⟩
     | ex j s1 h1 => rw [hr] at A; exact (ArrW.bad A).elim
     | bad m j => rw [hr] at A; exact (ArrW.bad A).elim
   | some r =>
     rw [hx] at A
     dsimp only at A
     obtain ⟨hcode, hsh, hop, hdst, hgd, hm4⟩ := rangeOf_ok hx
     cases hru : ruleW E R n call ob r s h with
     | none => rw [hru] at A; exact (ArrW.bad A).elim
     | some q =>
       obtain ⟨s0, h1, bls⟩ := q
       rw [hru] at A
       dsimp only at A
       obtain ⟨n1, hbl, hlen, hk1000, hwo, k1⟩ := rule_ok ok ck hm htot hsh hop hdst hgd hm4 hru
       have hR0 : ∀ vi : List Nat, vi.Perm (List.range bls.length) → ((vi.map fun j => ((bls[j]?).getD []).map (plC G)).flatten).length ≤ bls.length * R.k := fun vi hvi => by
        have h5 := flat_le (k := R.k) (vi.map fun j => ((bls[j]?).getD []).map (plC G)) (fun c hc => by
         obtain ⟨q, hq, rfl⟩ := List.mem_map.1 hc
         cases hbq : bls[q]? with
         | none => simp
         | some bl => have := (hbl q bl hbq).1; simp only [Option.getD_some, List.length_map]; omega)
        have h6 := hvi.length_eq
        rw [List.length_map, h6, List.length_range] at h5
        exact h5
       have hR1 : ∀ vi : List Nat, vi.Perm (List.range bls.length) → ((vi.map fun j => ((bls[j]?).getD []).map (plC G)).flatten).length ≤ 1000000 := fun vi hvi => by
        have h5 := hR0 vi hvi
        have h6 : bls.length * R.k ≤ 1000 * 1000 := Nat.mul_le_mul hlen hk1000
        omega
       have fin : ∀ (R' : RowC) (s1 : Fr) (bt1 : List Nat), R'.el = R.el → R'.k = R.k → ArrW (codeW E R' n call y s1 h1 bt1 []) e s' h' bt' bl' →
        (∀ (φ' : Mp) (a1 : Act) (w1 : World) (base : Nat) (vi : List Nat), vi.Perm (List.range bls.length) → WRel G φ' s0 a1.tmps → RowRel G φ' R base (vi.map fun j => ((bls[j]?).getD []).map (plC G)).flatten h1 ob.toList [] a1.tmps w1 → a1.tmps.size = n →
         ∃ R0, WRel G φ' s1 a1.tmps ∧ RowRel G φ' R' base R0 h1 bt1 [] a1.tmps w1 ∧ R0.length ≤ 1000000 ∧ TotOk P G R' R0) →
        h.next ≤ h'.next ∧ ∀ (φ : Mp) (a : Act) (w : World), TRel G φ s a.tmps → HRel G φ h w → Free φ h.next h'.next → a.tmps.size = n → (Code.seq x y).wp P (fun e' a' w' => e' = e ∧ MLeft G φ h w a s' h' a' w') a w := by
        intro R' s1 bt1 hel hk A' K
        obtain ⟨n2, k2⟩ := codeW_ok ok ck hm y s1 h1 bt1 [] e s' h' bt' bl' A'
        refine ⟨Nat.le_trans n1 n2, fun φ a w T rr hf hz => wp_seq ?_⟩
        rw [hcode]
        refine wp_mono (k1 φ a w T rr (hf.left n2) hz) ?_
        rintro e1 a1 w1 ⟨rfl, φ1, base, vi, T1, r1, B1, hb1, hb2, f1, x1, hd, hz1, hvi⟩
        obtain ⟨R0, T2, B2, hlR, tok⟩ := K φ1 a1 w1 base vi hvi T1 B1 hz1
        refine wp_mono (k2 φ1 a1 w1 base R0 T2 B2 r1 (fun b hb3 hb4 => x1.new b (hf b (Nat.le_trans n1 hb3) hb4) (.inr hb3)) hz1 hb2 hlR tok) ?_
        rintro e2 a2 w2 ⟨rfl, L⟩
        exact ⟨rfl, L.toM f1 x1 hb1 hd (hz1.trans hz.symm)⟩
       unfold tailW at A
       cases hob : ob with
       | none =>
         subst hob
         refine fin R s0 [] rfl rfl A fun φ' a1 w1 base vi hvi T1 B1 hz1 => ⟨_, T1, .inl rfl, hR1 vi hvi, tok_none htot _⟩
       | some o =>
         subst hob
         have A : ArrW (tailO E (callN (evE P (fun _ => none) [] [] []) fuel) R o n call y s0 h1 (fillR bls)) e s' h' bt' bl' := A
         cases hfb : fillR bls with
         | nil =>
           rw [hfb] at A
           have A : ArrW (match putW n (some o) .nilslice s0 with | some s1 => codeW E R n call y s1 h1 [] [] | none => .bad "rule" 2) e s' h' bt' bl' := A
           cases hp : putW n (some o) .nilslice s0 with
           | none => rw [hp] at A; exact (ArrW.bad A).elim
           | some s1 =>
             rw [hp] at A
             refine fin R s1 [] rfl rfl A fun φ' a1 w1 base vi hvi T1 B1 hz1 => ?_
             refine ⟨_, ?_, .inl rfl, hR1 vi hvi, tok_none htot _⟩
             rcases B1 with hnil | ⟨v, nn, us, c1, c2, c0, c3, c4⟩
             · cases hnil
             · rw [concL_nil] at c1
               cases c1
               have hflat : (vi.map fun j => ((bls[j]?).getD []).map (plC G)).flatten = [] := by
                rw [List.flatten_eq_nil_iff]
                intro l hl
                obtain ⟨j, _, rfl⟩ := List.mem_map.1 hl
                cases hj : bls[j]? with
                | none => rfl
                | some bl =>
                  rw [fillR_eq] at hfb
                  have := List.filter_eq_nil_iff.1 hfb bl (List.mem_of_getElem? hj)
                  have : bl = [] := by simpa using this
                  subst this
                  rfl
               rw [hflat] at c2
               have hkp := (hS o rfl).k
               have hnn : nn = 0 := by
                have h9 := c2.1
                rw [List.append_nil, List.length_nil] at h9
                rcases Nat.mul_eq_zero.1 h9.symm with h | h
                · exact h
                · omega
               have hv := c0.2 hnn
               obtain ⟨ho4, hov⟩ := c3 o (by simp)
               have : allPut n .nilslice s0 [o] = some s1 := by
                show (match allPut n .nilslice s0 [] with | some s => putW n (some o) .nilslice s | none => none) = some s1
                exact hp
               exact allPut_ok (u := .slice none 0 0) (by rw [conc]) this T1 (fun t ht => by have : t = o := by simpa using ht
                                                                                             rw [this, hov, hv])
         | cons row rows =>
           rw [hfb] at A
           have A : ArrW (match R.cmp with
            | .func (.func g) [] [] => (fun (rs : List (List V)) => bif upR (callN (evE P (fun _ => none) [] [] []) fuel) g rs then codeW E { R with tot := some rs } n call y s0 h1 [o] [] else .bad "rule: order" 0) (sortR (lessR (callN (evE P (fun _ => none) [] [] []) fuel) g) (row :: rows))
            | _ => .bad "rule" 1) e s' h' bt' bl' := A
           split at A
           · rename_i g hcm
             dsimp only at A
             obtain ⟨rs, hrs⟩ : ∃ rs, rs = sortR (lessR (callN (evE P (fun _ => none) [] [] []) fuel) g) (row :: rows) := ⟨_, rfl⟩
             rw [← hrs] at A
             cases hup : upR (callN (evE P (fun _ => none) [] [] []) fuel) g rs with
             | false => rw [hup] at A; exact (ArrW.bad A).elim
             | true =>
               rw [hup, cond_true] at A
               have S := hS o rfl
               refine fin { R with tot := some rs } s0 [o] rfl rfl A fun φ' a1 w1 base vi hvi T1 B1 hz1 => ⟨_, T1, B1, hR1 vi hvi, ?_⟩
               exact tok_some hP hcm hbl hlen S.k G.cell (S.cmp g hcm) S.sort S.sf (by rw [hrs, hfb]) (by rw [hfb]; exact nofun) hup hvi
           · exact (ArrW.bad A).elim
 | .region .. => fun s h e s' h' bt' bl' A => (ArrW.bad (show ArrW (.bad "spine" 0) e s' h' bt' bl' from A)).elim
 | .cond .. => fun s h e s' h' bt' bl' A => (ArrW.bad (show ArrW (.bad "spine" 2) e s' h' bt' bl' from A)).elim
 | .block .. => fun s h e s' h' bt' bl' A => (ArrW.bad (show ArrW (.bad "spine" 3) e s' h' bt' bl' from A)).elim
 | .loop _ => fun s h e s' h' bt' bl' A => (ArrW.bad (show ArrW (.bad "spine" 4) e s' h' bt' bl' from A)).elim
 | .rangeFunc .. => fun s h e s' h' bt' bl' A => (ArrW.bad (show ArrW (.bad "spine" 5) e s' h' bt' bl' from A)).elim
 | .exit _ => fun s h e s' h' bt' bl' A => (ArrW.bad (show ArrW (.bad "spine" 6) e s' h' bt' bl' from A)).elim
 | .scope .. => fun s h e s' h' bt' bl' A => (ArrW.bad (show ArrW (.bad "spine" 7) e s' h' bt' bl' from A)).elim
 | .label _ => fun s h e s' h' bt' bl' A => (ArrW.bad (show ArrW (.bad "spine" 8) e s' h' bt' bl' from A)).elim
 | .goto _ => fun s h e s' h' bt' bl' A => (ArrW.bad (show ArrW (.bad "spine" 9) e s' h' bt' bl' from A)).elim
 | .refuse _ => fun s h e s' h' bt' bl' A => (ArrW.bad (show ArrW (.bad "spine" 10) e s' h' bt' bl' from A)).elim
end
end Go.Proofs.YtmfmjhklajmhoaaGreat.Gv
namespace Go.Proofs.YtmfmjhklajmhoaaGreat.Gv
open Go Go.Sort Go.RowKit
section
variable {E : Env} {P : Program} {G : Gh} {φ : Mp} {h h' : H} {w w' : World} {s s' : Fr} {a : Act} {v : V} {o : Oper} {R : RowC}
theorem resW_ok {fn : Func} {v : V} (e : resW fn.results.toList s = some v) (T : WRel G φ s a.tmps) : ∃ u, (results fn a.tmps).run P w = .ok u w ∧ conc G φ v = some u := by
 have hres : results fn a.tmps = (do
  let vs ← fn.results.mapM (getRes a.tmps)
  pure (if h : vs.size = 1 then vs[0] else .tuple vs)) := by
  unfold results
  congr 1
 unfold resW at e
 split at e
 · rename_i t ht
   cases hc : (Nat.blt t 4096 && !isW ((Fr.get t).v s)) with
   | false => rw [hc] at e; cases e
   | true =>
     rw [hc] at e
     cases e
     rw [Bool.and_eq_true, nblt, decide_eq_true_eq, Bool.not_eq_true'] at hc
     refine ⟨a.tmps.getD t undef, ?_, ?_⟩
     · rw [hres, Array.mapM_eq_mapM_toList, ht]
       simp [getRes]
     · rcases T t hc.1 with hw | hh
       · rw [hc.2] at hw; cases hw
       · exact hh
 · cases e
theorem mapH_ok {bd : List (Int × Int)} {ge : List (Int × List (Nat × Int))} {nl : List NL} (hP : ProgOk P) (F : Facts G bd ge nl) {f fuel : Nat} {fn : Func} {c : Code} (hf : P.funcs[f]? = some fn) (hb : fn.body = some c) (htot : R.tot = none) {ob : Option Nat} (hS : ∀ o, ob = some o → SortsOk P R)
 (hm : ¬ G.mono := by exact fun h => h) : HookOk P G f (mapH (evE P (fun _ => none) bd ge nl) (callN (evE P (fun _ => none) [] [] []) fuel) R ob fn) := by
 intro call ck l h v h' e φ w ul hl r hfr
 unfold mapH at e
 rw [hb] at e
 dsimp only at e
 obtain ⟨hlen, e1⟩ := bif_ok e
 clear e
 rw [Bool.and_eq_true, nble, nble, decide_eq_true_eq, decide_eq_true_eq] at hlen
 have hul := concL_length hl
 rw [run_enter hf (prog_name hP hf) hb]
 show Calls P f ul.toArray w _
 refine calls_of_wp hf hb ?_
 have T0 := start_ok (n := fn.ntmps) hl hlen.2
 have hsz : (ul.toArray ++ Array.replicate (fn.ntmps - ul.toArray.size) undef).size = fn.ntmps := by simp; omega
 split at e1
 · rename_i s1 h1 bt1 bl1 hrun
   obtain ⟨x, hx, e2⟩ := onSome_ok e1
   cases e2
   obtain ⟨n1, k1⟩ := runM_ok hP (evE_ok hP F.ends (geOk_at F.ge) (nlOk_at F.nl)) hP.md ck hm htot hS c _ h .ret s1 _ bt1 bl1 (.inr (.inr ⟨hrun, rfl⟩))
   refine wp_mono (k1 φ { tmps := ul.toArray ++ Array.replicate (fn.ntmps - ul.toArray.size) undef, defers := [] } w T0 r hfr hsz) ?_
   rintro e3 a3 w3 ⟨rfl, φ3, T3, r3, f3, x3, hd3, hz3⟩
   obtain ⟨u, hu, hc⟩ := resW_ok (P := P) (w := w3) hx T3
   exact ⟨hd3, u, hu, u, rfl, φ3, hc, r3, f3, x3⟩
 · cases e1
 · cases e1
end
end Go.Proofs.YtmfmjhklajmhoaaGreat.Gv
namespace Go.Proofs.YtmfmjhklajmhoaaGreat.Gv
open Go Go.Sort Go.RowKit
def ItA (w : World) (itb bm : Nat) (El : Array MapEntry) (clk : Nat) (seen : List Nat) : Prop :=
 w.heap[bm]? = some (.map El clk) ∧ w.heap[itb]? = some (.mapIter (some bm) clk seen.toArray clk)
theorem it_nextA {P : Program} {w : World} {itb bm clk : Nat} {El : Array MapEntry} {seen : List Nat} (hI : ItA w itb bm El clk seen) (hB : Born El.toList clk) (ty : TypeId) :
 ((∀ e ∈ El.toList, e.born ∈ seen) ∧ (Instr.next (.pointer (some ⟨itb, 0, none⟩)) false ty).run P w = .ok (.tuple #[.bool false]) w) ∨
 ∃ (j : Nat) (e : MapEntry) (w' : World), El.toList[j]? = some e ∧ e.born ∉ seen ∧ (Instr.next (.pointer (some ⟨itb, 0, none⟩)) false ty).run P w = .ok (.tuple #[.bool true, e.key, e.val]) w' ∧ ItA w' itb bm El clk (seen ++ [e.born]) ∧ w.grownBy w' (some itb) ∧ w'.heap.size = w.heap.size ∧
  (Instr.entry (.pointer (some ⟨itb, 0, none⟩))).run P w' = .ok (.tuple #[e.key, e.val]) w' := by
 rcases it_next (P := P) (mb := some bm) hI hB ty with h | ⟨j, e, w', h1, h2, h3, h4, h5⟩
 · exact .inl h
 · refine .inr ⟨j, e, w', h1, h2, h3, h4, ⟨h5.os, h5.tape, h5.output, Nat.le_of_eq h5.size.symm, fun k _ hn => h5.block k fun h => hn (by rw [h])⟩, h5.size, it_entry (mb := some bm) h4 hB (List.mem_of_getElem? h1)⟩
section
variable {F : Fence} {n : Nat} {P : Program} (w : World) {ops : Array Oper} {rest : List Oper} {o : Oper} {a : Act} {Q : Exit → Act → World → Prop}
theorem wpListIn_range_at (hg : o.guard = none) (m : Operand) (t : TypeId) (hop : o.op = Op.range t m) (k e : TypeId) (ht : P.underlying t = some (.map k e)) (bm clk : Nat) (El : Array MapEntry)
 (hm : a.eval m = .map (some bm)) (hw : w.heap[bm]? = some (.map El clk))
 (hK : ItA (w.alloc (.mapIter (some bm) clk #[] clk)) w.heap.size bm El clk [] → wpListIn F n P ops Q rest (a.put o.dst (.pointer (some ⟨w.heap.size, 0, none⟩))) (w.alloc (.mapIter (some bm) clk #[] clk))) :
 wpListIn F n P ops Q (o :: rest) a w := by
 refine wpListIn_plain hg fun K' hK' => ?_
 have hrun := run_range_map (P := P) w t k e bm El clk ht hw
 have hlt : bm < w.heap.size := (Array.getElem?_eq_some_iff.1 hw).1
 unfold Oper.wpIn
 refine ⟨?_, ?_⟩
 · simp [Oper.about, hop]
 · rw [Oper.semAt_plain F _ _ (by rw [hop]; intro c hc'; cases hc')]
   simp [execOp, hop, hm, hrun, Result.andThen]
   exact hK' _ _ (hK ⟨(Below.heap_alloc _ _ bm hlt).trans hw, World.alloc_heap_new w _⟩)
theorem wpListIn_next_at (hg : o.guard = none) (it : Operand) (hop : o.op = Op.next it false) (itb bm clk : Nat) (El : Array MapEntry) (seen : List Nat)
 (hit : a.eval it = .pointer (some ⟨itb, 0, none⟩)) (hI : ItA w itb bm El clk seen) (hB : Born El.toList clk)
 (hDone : RowKit.Hid (∀ e ∈ El.toList, e.born ∈ seen) → wpListIn F n P ops Q rest (a.put o.dst (.tuple #[.bool false])) w)
 (hMore : ∀ (j : Nat) (e : MapEntry) (w' : World), RowKit.Hid (El.toList[j]? = some e ∧ e.born ∉ seen ∧ ItA w' itb bm El clk (seen ++ [e.born]) ∧ w.grownBy w' (some itb) ∧ w'.heap.size = w.heap.size) →
  (Instr.entry (.pointer (some ⟨itb, 0, none⟩))).run P w' = .ok (.tuple #[e.key, e.val]) w' → wpListIn F n P ops Q rest (a.put o.dst (.tuple #[.bool true, e.key, e.val])) w') :
 wpListIn F n P ops Q (o :: rest) a w := by
 refine wpListIn_plain hg fun K' hK' => ?_
 unfold Oper.wpIn
 refine ⟨by simp [Oper.about, hop], ?_⟩
 rw [Oper.semAt_plain F _ _ (by rw [hop]; intro c hc'; cases hc')]
 rcases it_nextA (P := P) hI hB o.type with ⟨h0, hrun⟩ | ⟨j, e, w', h1, h2, hrun, h3, h4, h5, h6⟩
 · simp [execOp, hop, hit, hrun, Result.andThen]
   exact hK' _ _ (hDone (Lib.hid h0))
 · simp [execOp, hop, hit, hrun, Result.andThen]
   exact hK' _ _ (hMore j e w' (Lib.hid ⟨h1, h2, h3, h4, h5⟩) h6)
end
theorem part_of {clk : Nat} {El : Array MapEntry} {es : List MapEntry} (hB : Born El.toList clk) (hin : ∀ e ∈ es, e ∈ El.toList) (hnd : (es.map (·.born)).Nodup) : es.Perm (El.toList.filter fun e => decide (e.born ∈ es.map (·.born))) := by
 have hndE : El.toList.Nodup := List.Pairwise.of_map _ (fun a b h e => h (by rw [e])) hB.2
 have hnde : es.Nodup := List.Pairwise.of_map _ (fun a b h e => h (by rw [e])) hnd
 refine (List.perm_ext_iff_of_nodup hnde (hndE.filter _)).2 fun e => ?_
 rw [List.mem_filter, decide_eq_true_eq]
 refine ⟨fun h => ⟨hin e h, List.mem_map.2 ⟨e, h, rfl⟩⟩, fun ⟨h1, h2⟩ => ?_⟩
 obtain ⟨e', h3, h4⟩ := List.mem_map.1 h2
 have := born_inj hB.2 (hin e' h3) h1 h4
 subst this
 exact h3
theorem part_all {clk : Nat} {El : Array MapEntry} {es : List MapEntry} (hB : Born El.toList clk) (hin : ∀ e ∈ es, e ∈ El.toList) (hnd : (es.map (·.born)).Nodup) (hall : ∀ e ∈ El.toList, e.born ∈ es.map (·.born)) : es.Perm El.toList := by
 refine (part_of hB hin hnd).trans ?_
 rw [List.filter_eq_self.2 fun e he => decide_eq_true (hall e he)]
theorem part_less {clk : Nat} {El : Array MapEntry} {es : List MapEntry} {e : MapEntry} (hB : Born El.toList clk) (hin : ∀ e ∈ es, e ∈ El.toList) (hnd : (es.map (·.born)).Nodup) (he : e ∈ El.toList) (hnew : e.born ∉ es.map (·.born)) : es.length < El.size := by
 rw [(part_of hB hin hnd).length_eq, ← Array.length_toList]
 refine Nat.lt_of_le_of_ne (List.length_filter_le _ _) fun h => hnew ?_
 exact of_decide_eq_true (List.length_filter_eq_length_iff.1 h e he)
def encK (p : ByteArray × ByteArray) : Value := .agg #[.string p.1, .string p.2]
def celK (p : ByteArray × ByteArray) : List Value := [.string p.1, .string p.2]
def keyK (e : MapEntry) : ByteArray × ByteArray := match e.key with | .agg a => (match a.toList with | [.string x, .string y] => (x, y) | _ => (⟨#[]⟩, ⟨#[]⟩)) | _ => (⟨#[]⟩, ⟨#[]⟩)
def rfParts (c : Code) : Option (Code × Code) := match c with | .seq _ (.seq (.seq _ (.block _ (.rangeFunc _ _ a b))) _) => some (a, b) | _ => none
def apRecK (A B : Code) (fn : FuncId) (sv : Value) (Bs D : Nat) (st : LoopState) (pend : Option Code) : Loop :=
 { state := st, pending := pend, fn, tmps := #[.slice none 0 0, sv, .pointer (some ⟨Bs, 0, none⟩), undef, .slice none 0 0, undef, sv, undef, undef, undef, undef, undef, undef], params := #[7], assign := A, body := B, defers := D }
structure ApAtK (tS el : Nat) (A B : Code) (w0 : World) (fn : FuncId) (sv : Value) (Bs l D : Nat) (ss : List (ByteArray × ByteArray)) (W : World) : Prop where
 box : ∃ v, W.heap[Bs]? = some (.cells #[v] tS (0, 0)) ∧ W.ownsRow w0.heap.size el 2 v ss.length (ss.flatMap celK) ∧ (v = .slice none 0 0 ↔ ss = [])
 L : W.heap[l]? = some (.loop (apRecK A B fn sv Bs D .ready none))
 K : W.heap[D]? = some (.deferred (some []))
 below : Below w0.heap.size w0 W
theorem apK_abides (tS el : Nat) (A B : Code) (w0 : World) (fn : FuncId) (sv : Value) (Bs l D b : Nat) (hB : w0.heap.size ≤ b) : AbidesFrom b (ApAtK tS el A B w0 fn sv Bs l D) := fun s W W' row h hg hrow => by
 have hrow' : ∀ r, row = some r → ∃ o : Obj, W.heap[r]? = some o ∧ o.isWalk = true := fun r e => (hrow r e).2
 obtain ⟨v, hv, hr, hn⟩ := h.box
 exact ⟨⟨v, (grownBy_keeps hg hrow' hv rfl).trans hv, ownsRow_abides_a hr hg hrow', hn⟩, (grownBy_keeps hg hrow' h.L rfl).trans h.L, (grownBy_keeps hg hrow' h.K rfl).trans h.K,
  h.below.grown hg h.below.size (fun k e => Nat.le_trans hB (hrow k e).1)⟩
theorem cell_two_new (w : World) (x y : Value) (t : TypeId) : ∀ j u, [x, y][j]? = some u → (w.alloc (.cells #[x, y] t)).cell? ((⟨w.heap.size, 0, none⟩ : Addr).add j) = some u := by
 intro j u h
 have hn := World.alloc_heap_new w (.cells #[x, y] t)
 match j with
 | 0 => simp at h; subst h; unfold World.cell?; show (match (w.alloc (.cells #[x, y] t)).heap[w.heap.size]? with | some (.cells c _ _) => c[_]? | _ => none) = _; rw [hn]; rfl
 | 1 => simp at h; subst h; unfold World.cell?; show (match (w.alloc (.cells #[x, y] t)).heap[w.heap.size]? with | some (.cells c _ _) => c[_]? | _ => none) = _; rw [hn]; rfl
 | j + 2 => simp at h
def SfOk (P : Program) (f col srt : Nat) : Prop :=
 ∀ (w : World) (s c : Value) (C D : Value → World → Prop), Calls P col #[s] w (fun e w' => ∃ v, e = .returned v ∧ C v w') →
  (∀ v w', C v w' → Calls P srt #[v, c] w' fun e w'' => (∃ u, e = .returned u) ∧ D v w'') → Calls P f #[s, c] w fun e w' => ∃ v, e = .returned v ∧ D v w'
def CollOk (P : Program) (col it el : Nat) : Prop :=
 ∀ (w : World) (Bm b : Nat) (El : Array MapEntry) (c : Nat), w.cell? ⟨Bm, 0, none⟩ = some (.map (some b)) → w.heap[b]? = some (.map El c) → Born El.toList c → (∀ x ∈ El.toList, x.key = encK (keyK x)) → El.size ≤ 1000000 →
  Calls P col #[.func (.func it) #[] #[.pointer (some ⟨Bm, 0, none⟩)]] w fun e w' => ∃ v, e = .returned v ∧ ∃ ss : List (ByteArray × ByteArray), ss.Perm (El.toList.map keyK) ∧ w'.ownsRow w.heap.size el 2 v ss.length (ss.flatMap celK) ∧ (v = .slice none 0 0 ↔ ss = []) ∧ Below w.heap.size w w'
noncomputable def keysK (es : List (V × V)) : Option (List (List V)) :=
 List.rec (motive := fun _ => Option (List (List V))) (some []) (fun e _ ih => match e.1, ih with | .agg [.str n a, .str m b], some r => some ([.str n a, .str m b] :: r) | _, _ => none) es
noncomputable def sfE (col srt : Nat) (call : Call) (it b g : Nat) (h : H) : RV :=
 match call col [.func (.func it) [] [.ptr b 0]] h with
 | .ok .nilslice h1 => bif Nat.ble h.next h1.next then (match call srt [.nilslice, .func (.func g) [] []] h1 with
   | .ok _ h2 => bif Nat.ble h1.next h2.next then .ok .nilslice h2 else .bad "SortedFunc" 6
   | .bad w x => .bad w x) else .bad "SortedFunc" 7
 | .ok _ _ => .bad "SortedFunc" 8
 | .bad w x => .bad w x
noncomputable def sfH (cmpE : Call) (its cmps : List Nat) (col srt : Nat) (call : Call) (l : List V) (h : H) : RV :=
 match l with
 | [.func (.func it) [] [.ptr b 0], .func (.func g) [] []] => bif its.elem it && cmps.elem g then onCells h b fun cs n _ _ => bif Nat.blt 0 n then (match cs.get 0 with
   | some (.map m) => onMap h m fun es => (match keysK es with
     | some [] => sfE col srt call it b g h
     | some (x :: t) => (fun (rs : List (List V)) => bif upR cmpE g rs && Nat.ble (x :: t).length 1000 then .ok (.slice h.next 0 rs.length rs.length true) (h.new (.cells (T.ofList (List.flatten rs)) (rs.length * 2) 2 false)) else .bad "SortedFunc" 3) (sortR (lessR cmpE g) (x :: t))
     | none => .bad "SortedFunc" 2)
   | _ => sfE col srt call it b g h) else .bad "SortedFunc" 4 else .bad "SortedFunc" 5
 | _ => .bad "SortedFunc" 0
theorem keysK_cons (e : V × V) (t : List (V × V)) : keysK (e :: t) = (match e.1, keysK t with | .agg [.str n a, .str m b], some r => some ([.str n a, .str m b] :: r) | _, _ => none) := rfl
theorem keysK_ok {G : Gh} {φ : Mp} : ∀ {es : List (V × V)} {ks : List (List V)} {El : List MapEntry}, keysK es = some ks → Ents G φ es El →
 (∀ x ∈ El, x.key = encK (keyK x)) ∧ El.map (fun x => celK (keyK x)) = ks.map (fun r => r.map (plC G)) ∧ (∀ (r : List V), r ∈ ks → r.length = 2 ∧ allPl r = true)
 | [], ks, El, e, hE => by
   cases e
   have : El = [] := by
    have h1 := hE.1
    simp at h1
    exact h1
   subst this
   exact ⟨by simp, rfl, by simp⟩
 | (k, v) :: t, ks, El, e, hE => by
   rw [keysK_cons] at e
   dsimp only at e
   split at e
   · rename_i n a m b r hr
     cases e
     cases El with
     | nil => have h1 := hE.1; simp at h1
     | cons y El =>
       obtain ⟨u, hu, hk, _⟩ := hE.2 0 _ _ rfl
       simp at hu
       subst hu
       have hE' : Ents G φ t El := ⟨by have := hE.1; simpa using this, fun i k v hi => by simpa using hE.2 (i + 1) k v (by simpa using hi)⟩
       obtain ⟨h1, h2, h3⟩ := keysK_ok hr hE'
       have hy : y.key = .agg #[.string ⟨(strL n a).toArray⟩, .string ⟨(strL m b).toArray⟩] := by
        rw [conc] at hk
        have : concL G φ [.str n a, .str m b] = some [.string ⟨(strL n a).toArray⟩, .string ⟨(strL m b).toArray⟩] := concL_cons.2 ⟨_, _, by rw [conc], concL_cons.2 ⟨_, _, by rw [conc], concL_nil, rfl⟩, rfl⟩
        rw [this] at hk
        simpa using hk.symm
       have hky : keyK y = (⟨(strL n a).toArray⟩, ⟨(strL m b).toArray⟩) := by unfold keyK; rw [hy]
       refine ⟨fun x hx => ?_, ?_, fun r' hr' => ?_⟩
       · rcases List.mem_cons.1 hx with rfl | hx
         · rw [hky, hy]; rfl
         · exact h1 x hx
       · rw [List.map_cons, List.map_cons, h2, hky]
         rfl
       · rcases List.mem_cons.1 hr' with rfl | hr'
         · exact ⟨rfl, rfl⟩
         · exact h3 r' hr'
   · cases e
theorem rows_range (G : Gh) (rows : List (List V)) : rows.map (fun r => r.map (plC G)) = (List.range rows.length).map fun j => ((rows[j]?).getD []).map (plC G) := by
 apply List.ext_getElem?
 intro i
 simp only [List.getElem?_map]
 by_cases hi : i < rows.length
 · rw [List.getElem?_range hi]
   simp [hi]
 · rw [List.getElem?_eq_none (by simpa using hi), List.getElem?_eq_none (by simpa using hi)]
   rfl
section
variable {P : Program} {G : Gh} {φ : Mp} {h : H} {w w' : World}
theorem sfE_ok (hP : ProgOk P) {call : Call} (ck : CallOk P G call) {f col srt it b g : Nat} {fn1 fn2 : Func} {c1 c2 : Code} (h1 : P.funcs[col]? = some fn1) (h1b : fn1.body = some c1) (h2 : P.funcs[srt]? = some fn2) (h2b : fn2.body = some c2) (hS : SfOk P f col srt)
 {v : V} {h' : H} (e : sfE col srt call it b g h = .ok v h') {ul : List Value} (hl : concL G φ [.func (.func it) [] [.ptr b 0], .func (.func g) [] []] = some ul) (r : HRel G φ h w) (hf : Free φ h.next h'.next) :
 Calls P f ul.toArray w fun e w' => ∃ u, e = .returned u ∧ Post G φ h w v h' u w' := by
 obtain ⟨us, t1, hs, ht1, rfl⟩ := concL_cons.1 hl
 obtain ⟨uc, t2, hc, ht2, rfl⟩ := concL_cons.1 ht1
 rw [concL_nil] at ht2
 cases ht2
 unfold sfE at e
 split at e
 · rename_i hx e1
   obtain ⟨hn1, e2⟩ := bif_ok e
   clear e
   rw [nble, decide_eq_true_eq] at hn1
   split at e2
   · rename_i vx hy e3
     obtain ⟨hn2, e4⟩ := bif_ok e2
     clear e2
     rw [nble, decide_eq_true_eq] at hn2
     cases e4
     have g1 := ck col _ _ _ _ e1 φ w [us] (concL_cons.2 ⟨_, _, hs, concL_nil, rfl⟩) r (hf.left hn2)
     rw [run_enter h1 (prog_name hP h1) h1b] at g1
     refine hS w us uc (fun v w' => Post G φ h w .nilslice hx v w') (fun v w'' => Post G φ h w .nilslice h' v w'') g1 ?_
     rintro v1 w1 ⟨φ1, hv1, r1, f1, x1⟩
     rw [conc] at hv1
     cases hv1
     have hcm : concL G φ1 [.nilslice, .func (.func g) [] []] = some [.slice none 0 0, uc] := concL_cons.2 ⟨_, _, by rw [conc], concL_cons.2 ⟨_, _, conc_mono x1.le hc, concL_nil, rfl⟩, rfl⟩
     have g2 := ck srt _ _ _ _ e3 φ1 w1 _ hcm r1 (hf.right x1)
     rw [run_enter h2 (prog_name hP h2) h2b] at g2
     refine Calls.mono g2 ?_
     rintro e w2 ⟨u, rfl, φ2, _, r2, f2, x2⟩
     exact ⟨⟨u, rfl⟩, φ2, by rw [conc], r2, f1.trans x1 f2, x1.trans f1.size x2⟩
   · cases e2
 · cases e
 · cases e
theorem sfH_ok (hm : ¬ G.mono) (hP : ProgOk P) {f col srt el fuel : Nat} {fn fn1 fn2 : Func} {c c1 c2 : Code} (hf : P.funcs[f]? = some fn) (hb : fn.body = some c) (h1 : P.funcs[col]? = some fn1) (h1b : fn1.body = some c1) (h2 : P.funcs[srt]? = some fn2) (h2b : fn2.body = some c2) (hS : SfOk P f col srt)
 {its : List Nat} (hC : ∀ it ∈ its, CollOk P col it el) (hT : SortOk P srt 2) {cmps : List Nat} (hgs : ∀ g ∈ cmps, ∃ gn gc, P.funcs[g]? = some gn ∧ gn.body = some gc) : HookOk P G f (sfH (callN (evE P (fun _ => none) [] [] []) fuel) its cmps col srt) := by
 intro call ck l h v h' e φ w ul hl r hfr
 unfold sfH at e
 split at e
 · rename_i it b g
   cases hk : (its.elem it && cmps.elem g) with
   | false => rw [hk] at e; cases e
   | true =>
     rw [hk, cond_true] at e
     rw [Bool.and_eq_true] at hk
     have hcol := hC it (List.elem_iff.1 hk.1)
     obtain ⟨cs, n, sz, ex, hbk, e1⟩ := onCells_ok e
     clear e
     obtain ⟨hn, e⟩ := bif_ok e1
     clear e1
     rw [nblt, decide_eq_true_eq] at hn
     rw [run_enter hf (prog_name hP hf) hb]
     obtain ⟨lb, hlb, hul⟩ : ∃ lb, φ b = some lb ∧ ul = [.func (.func it) #[] #[.pointer (some ⟨lb.blk, 0, none⟩)], .func (.func g) #[] #[]] := by
      obtain ⟨u, t, hu, ht, rfl⟩ := concL_cons.1 hl
      obtain ⟨ug, t', hug, ht', rfl⟩ := concL_cons.1 ht
      rw [concL_nil] at ht'
      cases ht'
      obtain ⟨uf, uc, h1, h2, rfl⟩ := conc_func' hu
      rw [concL_nil] at h1
      cases h1
      obtain ⟨u2, t2, hu2, ht2, rfl⟩ := concL_cons.1 h2
      rw [concL_nil] at ht2
      cases ht2
      obtain ⟨lb, hlb, rfl⟩ := conc_ptr hu2
      obtain ⟨vf, vc, k1, k2, rfl⟩ := conc_func' hug
      rw [concL_nil] at k1 k2
      cases k1
      cases k2
      exact ⟨lb, hlb, rfl⟩
     split at e
     · rename_i m hx
       obtain ⟨C, el', g1, _, _, g5⟩ := r.cells hbk hlb
       obtain ⟨u, hu, hc⟩ := g5 0 _ hn hx
       have hcell : w.cell? ⟨lb.blk, 0, none⟩ = some u := by simp [World.cell?, g1, hc]
       obtain ⟨lm, hlm, rfl⟩ := conc_map hu
       obtain ⟨es, bs, clk, hmm, e1⟩ := onMap_ok e
       clear e
       obtain ⟨El, hw, hE, hB, _⟩ := r.ents2 hmm hlm
       split at e1
       · exact sfE_ok hP ck h1 h1b h2 h2b hS e1 hl r hfr
       · rename_i x t hks
         dsimp only at e1
         obtain ⟨rs, hrs⟩ : ∃ rs, rs = sortR (lessR (callN (evE P (fun _ => none) [] [] []) fuel) g) (x :: t) := ⟨_, rfl⟩
         rw [← hrs] at e1
         obtain ⟨hup, e2⟩ := bif_ok e1
         clear e1
         rw [Bool.and_eq_true, nble, decide_eq_true_eq] at hup
         cases e2
         obtain ⟨k1, k2, k3⟩ := keysK_ok hks hE
         have hlen : El.size = (x :: t).length := by
          have := congrArg List.length k2
          simpa using this
         subst hul
         have hfill : fillR (x :: t) = x :: t := by
          rw [fillR_eq, List.filter_eq_self]
          intro q hq
          have := (k3 q hq).1
          cases q with
          | nil => cases this
          | cons _ _ => rfl
         have hrl : rs.length = (x :: t).length := by rw [hrs]; exact (sortR_perm _ _).length_eq
         obtain ⟨gn, gc, hgn⟩ := hgs g (List.elem_iff.1 hk.2)
         have eg : ∀ args w, (callFunc g args).run P w = .ok (.enter g args) w := fun args w => run_enter hgn.1 (prog_name hP hgn.1) hgn.2 args
         refine hS w _ _ (fun v w' => ∃ ss : List (ByteArray × ByteArray), ss.Perm (El.toList.map keyK) ∧ w'.ownsRow w.heap.size el 2 v ss.length (ss.flatMap celK) ∧ (v = .slice none 0 0 ↔ ss = []) ∧ Below w.heap.size w w')
          (fun v w'' => Post G φ h w (.slice h.next 0 rs.length rs.length true) (h.new (.cells (T.ofList (List.flatten rs)) (rs.length * 2) 2 false)) v w'')
          (hcol w lb.blk lm.blk El clk hcell hw hB k1 (by omega)) ?_
         rintro v1 w1 ⟨ss, hp, hrow, hnil, hbel⟩
         have hf' : (El.toList.map fun x => celK (keyK x)) = (List.range (x :: t).length).map fun j => (((x :: t)[j]?).getD []).map (plC G) := by
          rw [k2]
          exact rows_range G (x :: t)
         have hp' : (ss.map celK).Perm ((List.range (x :: t).length).map fun j => (((x :: t)[j]?).getD []).map (plC G)) := by
          rw [← hf']
          have := hp.map celK
          rwa [List.map_map] at this
         obtain ⟨vi, hvi, hss⟩ := perm_map hp' (List.range (x :: t).length) rfl
         have hssl : ss.length = rs.length := by rw [hp.length_eq, hrl, List.length_map, ← hlen, Array.length_toList]
         have tok := tok_some (P := P) (G := G) hP (R := ⟨el, 2, 32, none, srt, .func (.func g) [] []⟩) (bls := x :: t) (g := g) (fuel := fuel) rfl (fun j bl hj => by
          have := k3 bl (List.mem_of_getElem? hj)
          exact ⟨.inr this.1, this.2⟩) hup.2 (show 0 < 2 by decide) G.cell eg hT (fun args w => run_enter h2 (prog_name hP h2) h2b args) (rs := rs) (by rw [hfill]; exact hrs) (by rw [hfill]; exact nofun) hup.1 hvi
         obtain ⟨g', cr, cf, d, hg', hn0, hnb, hk0, hrowc, hone, hcf, heg, hcmp, hperm, hR0, hsort, hsf⟩ := tok.tot rs rfl
         cases hg'
         rcases hrow.2 with ⟨_, h0⟩ | ⟨gb, cap, cur, rfl, hgb, hheap, hcap, hcm2, hcs, htake⟩
         · omega
         · have hcrl : ∀ i, i < rs.length → (cr i).length = 2 := fun i hi => by
            obtain ⟨q1, q2⟩ := hrowc i rs[i] (by simp [hi])
            rw [concL_length (q2 φ), q1]
           have htk : cur.toList.take (rs.length * 2) = (d.map cr).flatten := by
            rw [← hssl, htake, ← hR0, List.flatMap_def, hss]
           rw [hssl] at hcap hrow ⊢
           have main := sort_row (P := P) (w := w1) hsort hk0 (n := rs.length) (cr := cr) hn0 hcrl hone hcf heg hcmp hperm hheap htk (by show rs.length * 2 ≤ _; omega) (by omega) (cap := cap)
           refine Calls.mono main ?_
           rintro e w2 ⟨rfl, cur', hh', hcs', htk', hos, htp, hout, hsz, hblk⟩
           refine ⟨⟨_, rfl⟩, ?_⟩
           have hbel2 : Below w.heap.size w w2 := ⟨hos.trans hbel.os, htp.trans hbel.tape, hout.trans hbel.output, Nat.le_trans hbel.size hsz, fun k hk => (hblk k (by have := hbel.size; omega) (by omega)).trans (hbel.block k hk)⟩
           have hfn : φ h.next = none := hfr _ (Nat.le_refl _) (by simp [H.new])
           have hrel : ∀ φ', concL G φ' (List.flatten rs) = some (((List.range rs.length).map cr).flatten) := by
            intro φ'
            have key : ∀ (l : List (List V)) (j : Nat), (∀ (i : Nat) row, l[i]? = some row → concL G φ' row = some (cr (j + i))) → concL G φ' l.flatten = some (((List.range' j l.length).map cr).flatten) := by
             intro l
             induction l with
             | nil => intro j _; exact concL_nil
             | cons x l ih =>
               intro j hj
               rw [List.flatten_cons, List.length_cons, List.range'_succ, List.map_cons, List.flatten_cons]
               refine concL_append (by simpa using hj 0 x (by simp)) (ih (j + 1) fun i row hi => ?_)
               have := hj (i + 1) row (by simpa using hi)
               rwa [show j + (i + 1) = j + 1 + i from by omega] at this
            have := key rs 0 (fun i row hi => by rw [Nat.zero_add]; exact (hrowc i row hi).2 _)
            rwa [← List.range_eq_range'] at this
           obtain ⟨r', f', x'⟩ := r.grow hm hbel2 hfn (x := .cells (T.ofList (List.flatten rs)) (rs.length * 2) 2 false) (g := gb) (sl := cap - rs.length) hgb ⟨cur', el, hh', by
            show cur'.size = rs.length * 2 + (cap - rs.length) * 2
            omega, (fun h => nomatch h), fun i y hi hy => by
            have hy' := T.get_ofList hy
            obtain ⟨u', hu', hcu⟩ := concL_get (hrel _) i y hy'
            refine ⟨u', hcu, ?_⟩
            rw [← htk', List.getElem?_take, if_pos hi] at hu'
            simpa using hu'⟩
           refine ⟨_, ?_, r', f', x'⟩
           rw [conc, Mp.put_self]
           simp only [cond_true]
           rw [show rs.length + (cap - rs.length) = cap from by omega]
       · cases e1
     · exact sfE_ok hP ck h1 h1b h2 h2b hS e hl r hfr
 · cases e
end
noncomputable def roH (E : Env) (f : Nat) (call : Call) (l : List V) (h : H) : RV := (fnF E f).v call l h
theorem roH_ok {P : Program} {G : Gh} {bd : List (Int × Int)} {ge : List (Int × List (Nat × Int))} {nl : List NL} (hP : ProgOk P) (F : Facts G bd ge nl) (f : Nat) : HookOk P G f (roH (evR P bd ge nl) f) := by
 intro call ck l h v h' e φ w ul hl r hf
 have ok0 : EnvOk (evE P (fun _ => none) bd ge nl) P G := evE_ok hP F.ends (geOk_at F.ge) (nlOk_at F.nl)
 have fk0 : FnOk (evE P (fun _ => none) bd ge nl) P G := evE_fn hP noHooks
 have ok : EnvOk (evR P bd ge nl) P G := ⟨ok0.ty, ok0.bd, ok0.ge, ok0.nl⟩
 have fk : FnOk (evR P bd ge nl) P G := ⟨fk0.fn, fk0.hk, fk0.md⟩
 exact fn_ok ok fk ck e hl r hf
end Go.Proofs.YtmfmjhklajmhoaaGreat.Gv
