/- Values and blocks that are the same. -/
import Derived.Test.YtmfmjhklajmhoaaGreatGvMul
namespace Go.Proofs.YtmfmjhklajmhoaaGreat.Gv
open Go
def sameBool (a b : Bool) : Bool := match a, b with | true, true => true | false, false => true | _, _ => false
noncomputable def sameD (n : Nat) : V → V → Bool := Nat.rec (motive := fun _ => V → V → Bool) (fun _ _ => false) (fun _ ih x y => match x with
 | .agg l => (match y with | .agg m => allB ih l m | _ => false)
 | .tuple l => (match y with | .tuple m => allB ih l m | _ => false)
 | .slice b o n c x => (match y with | .slice b' o' n' c' x' => Nat.beq b b' && (Nat.beq o o' && (Nat.beq n n' && (Nat.beq c c' && sameBool x x'))) | _ => false)
 | .func (.func f) a b => (match y with | .func (.func g) c d => Nat.beq f g && (allB ih a c && allB ih b d) | _ => false)
 | x => sameC x y) n
noncomputable def sameEs (l m : List (V × V)) : Bool := List.rec (motive := fun _ => List (V × V) → Bool) (fun m => match m with | [] => true | _ => false) (fun p _ ih m => match m with | q :: m => bif sameD 4 p.1 q.1 then (bif sameD 4 p.2 q.2 then ih m else false) else false | [] => false) l m
noncomputable def sameNs (l m : List Nat) : Bool := List.rec (motive := fun _ => List Nat → Bool) (fun m => match m with | [] => true | _ => false) (fun p _ ih m => match m with | q :: m => bif Nat.beq p q then ih m else false | [] => false) l m
noncomputable def sameCs (cs cs' : T V) (n : Nat) : Bool := Nat.rec (motive := fun _ => Bool) true (fun i ih => match cs.get i with
 | some v => (match cs'.get i with | some v' => bif sameD 4 v v' then ih else false | none => false)
 | none => ih) n
noncomputable def sameBk (x y : B) : Bool := match x, y with
 | .cells cs n sz ex, .cells cs' n' sz' ex' => Nat.beq n n' && (Nat.beq sz sz' && (sameBool ex ex' && sameCs cs cs' n))
 | .map es bs clk, .map es' bs' clk' => sameEs es es' && (sameNs bs bs' && Nat.beq clk clk')
 | _, _ => false
theorem sameBool_eq' {a b : Bool} (h : sameBool a b = true) : a = b := by cases a <;> cases b <;> first | rfl | cases h
theorem sameD_eq : ∀ (n : Nat) (x y : V), sameD n x y = true → x = y
 | 0, x, y, e => by cases e
 | n + 1, x, y, e => by
   cases x with
   | agg l =>
     cases y <;> try (cases e; done)
     have e : allB (sameD n) l _ = true := e
     rw [allB_same (fun _ _ => sameD_eq n _ _) e]
   | tuple l =>
     cases y <;> try (cases e; done)
     have e : allB (sameD n) l _ = true := e
     rw [allB_same (fun _ _ => sameD_eq n _ _) e]
   | slice b o m c x =>
     cases y <;> try (cases e; done)
     rename_i b' o' m' c' x'
     have e : (Nat.beq b b' && (Nat.beq o o' && (Nat.beq m m' && (Nat.beq c c' && sameBool x x')))) = true := e
     simp only [Bool.and_eq_true, nbeq, decide_eq_true_eq] at e
     obtain ⟨rfl, rfl, rfl, rfl, hx⟩ := e
     rw [sameBool_eq' hx]
   | func fn a b =>
     cases fn with
     | func f =>
       cases y <;> try (cases e; done)
       rename_i fn' c d
       cases fn' <;> try (cases e; done)
       rename_i g
       have e : (Nat.beq f g && (allB (sameD n) a c && allB (sameD n) b d)) = true := e
       simp only [Bool.and_eq_true, nbeq, decide_eq_true_eq] at e
       obtain ⟨rfl, h1, h2⟩ := e
       rw [allB_same (fun _ _ => sameD_eq n _ _) h1, allB_same (fun _ _ => sameD_eq n _ _) h2]
     | _ => exact sameC_eq e
   | _ => exact sameC_eq e
theorem sameEs_eq : ∀ {l m : List (V × V)}, sameEs l m = true → l = m
 | [], [], _ => rfl
 | [], _ :: _, e => by cases e
 | _ :: _, [], e => by cases e
 | p :: l, q :: m, e => by
   have e : (bif sameD 4 p.1 q.1 then (bif sameD 4 p.2 q.2 then sameEs l m else false) else false) = true := e
   cases h1 : sameD 4 p.1 q.1 with
   | false => rw [h1] at e; cases e
   | true =>
     rw [h1, cond_true] at e
     cases h2 : sameD 4 p.2 q.2 with
     | false => rw [h2] at e; cases e
     | true =>
       rw [h2, cond_true] at e
       rw [sameEs_eq e, show p = q from Prod.ext (sameD_eq _ _ _ h1) (sameD_eq _ _ _ h2)]
theorem sameNs_eq : ∀ {l m : List Nat}, sameNs l m = true → l = m
 | [], [], _ => rfl
 | [], _ :: _, e => by cases e
 | _ :: _, [], e => by cases e
 | p :: l, q :: m, e => by
   have e : (bif Nat.beq p q then sameNs l m else false) = true := e
   cases h1 : Nat.beq p q with
   | false => rw [h1] at e; cases e
   | true =>
     rw [h1, cond_true] at e
     rw [nbeq, decide_eq_true_eq] at h1
     rw [sameNs_eq e, h1]
theorem sameCs_ok {cs cs' : T V} : ∀ {n : Nat}, sameCs cs cs' n = true → ∀ i v, i < n → cs.get i = some v → cs'.get i = some v
 | 0, _, i, v, hi, _ => absurd hi (Nat.not_lt_zero _)
 | n + 1, e, i, v, hi, hv => by
   have e : (match cs.get n with
    | some v => (match cs'.get n with | some v' => bif sameD 4 v v' then sameCs cs cs' n else false | none => false)
    | none => sameCs cs cs' n) = true := e
   by_cases hin : i = n
   · subst hin
     rw [hv] at e
     dsimp only at e
     split at e
     · rename_i v' hv'
       cases hs : sameD 4 v v' with
       | false => rw [hs] at e; cases e
       | true => rw [sameD_eq _ _ _ hs]; exact hv'
     · cases e
   · have hlt : i < n := by omega
     cases h1 : cs.get n with
     | none => rw [h1] at e; exact sameCs_ok e i v hlt hv
     | some v1 =>
       rw [h1] at e
       dsimp only at e
       cases h2 : cs'.get n with
       | none => rw [h2] at e; cases e
       | some v' =>
         rw [h2] at e
         dsimp only at e
         cases hs : sameD 4 v1 v' with
         | false => rw [hs] at e; cases e
         | true => rw [hs] at e; exact sameCs_ok e i v hlt hv
end Go.Proofs.YtmfmjhklajmhoaaGreat.Gv
namespace Go.Proofs.YtmfmjhklajmhoaaGreat.Gv
open Go
noncomputable def ofLH (l : List (Nat × B)) : T B := List.rec (motive := fun _ => T B) .lf (fun p _ ih => ih.set p.1 p.2) l
noncomputable def subL (l : List (Nat × B)) (t : T B) : Bool := List.rec (motive := fun _ => Bool) true (fun p _ ih => match t.get p.1 with | some y => bif sameBk p.2 y then ih else false | none => false) l
structure SN where
 f : Nat
 args : List V
 l0 : List (Nat × B)
 n0 : Nat
 v : V
 l1 : List (Nat × B)
 n1 : Nat
noncomputable def SN.h0 (t : SN) : H := ⟨ofLH t.l0, t.n0⟩
noncomputable def SN.h1 (t : SN) : H := ⟨ofLH t.l1, t.n1⟩
noncomputable def isSn (t : SN) (r : RV) : Bool := match r with | .ok u h => sameD 4 t.v u && (Nat.beq h.next t.n1 && subL t.l1 h.t) | .bad _ _ => false
noncomputable def hkS : List SN → Nat → Option (Call → List V → H → RV)
 | [], _ => none
 | t :: l, n => bif Nat.beq n t.f then some (fun call a h => bif Nat.beq h.next t.n0 && (allB (sameD 4) t.args a && subL t.l0 h.t) then .ok t.v t.h1 else (match hkS l n with | some g => g call a h | none => .bad "snap" n)) else hkS l n
section
variable {P : Program} {G : Gh} {φ : Mp} {h h' : H} {w w' : World} {v : V} {u : Value}
theorem ofLH_get : ∀ {l : List (Nat × B)} {b : Nat} {x : B}, (ofLH l).get b = some x → (b, x) ∈ l
 | [], b, x, e => by cases e
 | p :: l, b, x, e => by
   have e : ((ofLH l).set p.1 p.2).get b = some x := e
   rcases Gv.T.get_set e with ⟨rfl, rfl⟩ | ⟨_, e⟩
   · simp
   · simp [ofLH_get e]
theorem subL_get {t : T B} : ∀ {l : List (Nat × B)} {b : Nat} {x : B}, subL l t = true → (b, x) ∈ l → ∃ y, t.get b = some y ∧ sameBk x y = true
 | [], b, x, _, hm => by cases hm
 | p :: l, b, x, e, hm => by
   have e : (match t.get p.1 with | some y => bif sameBk p.2 y then subL l t else false | none => false) = true := e
   cases hp : t.get p.1 with
   | none => rw [hp] at e; cases e
   | some y =>
     rw [hp] at e
     dsimp only at e
     cases hs : sameBk p.2 y with
     | false => rw [hs] at e; cases e
     | true =>
       rw [hs, cond_true] at e
       rcases List.mem_cons.1 hm with rfl | hm
       · exact ⟨y, hp, hs⟩
       · exact subL_get e hm
theorem same_brel {x y : B} {l : Loc} (e : sameBk x y = true) (r : BRel G φ y l w) : BRel G φ x l w := by
 cases x with
 | cells cs n sz ex =>
   cases y <;> try (cases e; done)
   rename_i cs' n' sz' ex'
   have e : (Nat.beq n n' && (Nat.beq sz sz' && (sameBool ex ex' && sameCs cs cs' n))) = true := e
   simp only [Bool.and_eq_true, nbeq, decide_eq_true_eq] at e
   obtain ⟨rfl, rfl, hx, hc⟩ := e
   have hx := sameBool_eq' hx
   subst hx
   obtain ⟨C, e, h1, h2, h3, h5⟩ := r
   exact ⟨C, e, h1, h2, h3, fun i v hi hv => h5 i v hi (sameCs_ok hc i v hi hv)⟩
 | map es bs clk =>
   cases y <;> try (cases e; done)
   rename_i es' bs' clk'
   have e : (sameEs es es' && (sameNs bs bs' && Nat.beq clk clk')) = true := e
   simp only [Bool.and_eq_true, nbeq, decide_eq_true_eq] at e
   obtain ⟨h1, h2, rfl⟩ := e
   rw [sameEs_eq h1, sameNs_eq h2]
   exact r
 | iter m since seen last => cases e
 | ro cs n => cases e
theorem same_ro {x y : B} (e : sameBk x y = true) : y.isRo = false := by
 cases x <;> cases y <;> first | rfl | cases e
theorem HRel.lit (r : HRel G φ h w) {l : List (Nat × B)} (e : subL l h.t = true) : HRel G φ ⟨ofLH l, h.next⟩ w :=
 ⟨fun b x lc hb hl => by
  obtain ⟨y, hy, hs⟩ := subL_get e (ofLH_get hb)
  exact same_brel hs (r.blk b y lc hy hl),
  fun b b' x x' lc lc' h1 h2 h3 h4 h5 => by
   obtain ⟨y, hy, hs⟩ := subL_get e (ofLH_get h1)
   obtain ⟨y', hy', hs'⟩ := subL_get e (ofLH_get h2)
   exact .inl (r.inj1 hy hy' h3 h4 (same_ro hs') h5),
  fun b hb => by
   cases hx : (ofLH l).get b with
   | none => rfl
   | some x =>
     obtain ⟨y, hy, _⟩ := subL_get e (ofLH_get hx)
     rw [r.fresh b hb] at hy
     cases hy⟩
theorem lit_foot {l : List (Nat × B)} {n k : Nat} (e : subL l h.t = true) (f : Foot φ ⟨ofLH l, n⟩ k) : Foot φ h k := by
 obtain ⟨b, x, lc, h1, h2, h3⟩ := f
 obtain ⟨y, hy, _⟩ := subL_get e (ofLH_get h1)
 exact ⟨b, y, lc, hy, h2, h3⟩
structure SNOk (P : Program) (G : Gh) (t : SN) : Prop where
 enter : ∃ fn c, P.funcs[t.f]? = some fn ∧ fn.body = some c
 run : ∀ (φ : Mp) (w : World) (ul : List Value), concL G φ t.args = some ul → HRel G φ t.h0 w → Free φ t.n0 t.n1 → Calls P t.f ul.toArray w fun e w' => ∃ u, e = .returned u ∧ Post G φ t.h0 w t.v t.h1 u w'
theorem snap_ok {hk : Nat → Option (Call → List V → H → RV)} {bd : List (Int × Int)} {ge : List (Int × List (Nat × Int))} {nl : List NL}
 (hP : ProgOk P) (F : Facts G bd ge nl) (hh : HooksOk P G hk) (n : Nat) (t : SN) {fn : Func} (hf : P.funcs[t.f]? = some fn) {c : Code} (hb : fn.body = some c)
 (e : isSn t (callN (evE P hk bd ge nl) n t.f t.args t.h0) = true) : SNOk P G t := by
 refine ⟨⟨fn, c, hf, hb⟩, fun φ w ul hl r hfr => ?_⟩
 unfold isSn at e
 cases hr : callN (evE P hk bd ge nl) n t.f t.args t.h0 with
 | bad m i => rw [hr] at e; cases e
 | ok v h' =>
   rw [hr] at e
   dsimp only at e
   simp only [Bool.and_eq_true, nbeq, decide_eq_true_eq] at e
   obtain ⟨e1, e2, e3⟩ := e
   have e1 := sameD_eq _ _ _ e1
   subst e1
   have e2' : h'.next = t.h1.next := e2
   refine (run_ok (evE_ok hP F.ends (geOk_at F.ge) (nlOk_at F.nl)) (evE_fn hP hh) hf (prog_name hP hf) hb hr hl r (by rw [e2]; exact hfr)).mono ?_
   rintro e w' ⟨u, rfl, φ', hu, r', f', x'⟩
   refine ⟨u, rfl, φ', hu, ?_, f', x'.le, fun b hb hn => x'.new b hb (by rw [e2']; exact hn), by rw [← e2']; exact x'.next, fun k hk hw => x'.foot k (lit_foot e3 hk) hw⟩
   have := r'.lit e3
   rw [e2] at this
   exact this
theorem hkS_ok (hP : ProgOk P) : ∀ (T : List SN), (∀ t ∈ T, SNOk P G t) → HooksOk P G (hkS T)
 | [], _ => fun f g e => (nomatch e)
 | t :: l, ht => fun f g e call ck a h v h' eg φ w ul hl r hf => by
   unfold hkS at e
   rw [nbeq] at e
   by_cases hft : f = t.f
   · rw [decide_eq_true hft, cond_true] at e
     cases e
     dsimp only at eg
     cases hs : (Nat.beq h.next t.n0 && (allB (sameD 4) t.args a && subL t.l0 h.t)) with
     | true =>
       rw [hs, cond_true] at eg
       simp only [Bool.and_eq_true, nbeq, decide_eq_true_eq] at hs
       obtain ⟨h1, h2, h3⟩ := hs
       cases eg
       have hta := allB_same (fun _ _ => sameD_eq _ _ _) h2
       subst hft
       have ok := ht t (by simp)
       obtain ⟨fn, c, k1, k2⟩ := ok.enter
       rw [run_enter k1 (prog_name hP k1) k2]
       have r0 : HRel G φ t.h0 w := by
        have := r.lit h3
        rw [h1] at this
        exact this
       have hf' : Free φ t.n0 t.n1 := by rw [← h1]; exact hf
       refine (ok.run φ w ul (by rw [hta]; exact hl) r0 hf').mono ?_
       rintro e w' ⟨u, rfl, φ', hu, r', f', x'⟩
       refine ⟨u, rfl, φ', hu, r', ⟨f'.drawn, f'.os, f'.tape, f'.output, f'.size, fun k hk hn => f'.block k hk fun hF => hn (lit_foot h3 hF)⟩, x'.le, fun b hb hn => x'.new b hb ?_, ?_, fun k hk hw => lit_foot h3 (x'.foot k hk hw)⟩
       · rw [h1] at hn; exact hn
       · rw [h1]; exact x'.next
     | false =>
       rw [hs, cond_false] at eg
       cases hx : hkS l f with
       | none => rw [hx] at eg; cases eg
       | some g' =>
         rw [hx] at eg
         exact hkS_ok hP l (fun t' h' => ht t' (by simp [h'])) f g' hx call ck a h v h' eg φ w ul hl r hf
   · rw [decide_eq_false hft, cond_false] at e
     exact hkS_ok hP l (fun t' h' => ht t' (by simp [h'])) f g e call ck a h v h' eg φ w ul hl r hf
end
end Go.Proofs.YtmfmjhklajmhoaaGreat.Gv
namespace Go.Proofs.YtmfmjhklajmhoaaGreat.Gv.Lt
open Go
def kd : Nat → IntKind | 0 => .i8 | 1 => .i16 | 2 => .i32 | 3 => .i64 | 4 => .u8 | 5 => .u16 | 6 => .u32 | _ => .u64
def u : V := .undef
def b (x : Bool) : V := .bool x
def i (n : Nat) : V := .int .i64 (.ofNat n)
def j (n : Nat) : V := .int .i64 (.negSucc n)
def k (c n : Nat) : V := .int (kd c) (.ofNat n)
def y (c : Int) (ts : List (Nat × Int)) : V := .sint .i64 c ts
def s (n v : Nat) : V := .str n v
def p (b o : Nat) : V := .ptr b o
def r (b n c : Nat) : V := .slice b 0 n c true
def w (b o n c : Nat) (x : Bool) : V := .slice b o n c x
def ns : V := .nilslice
def e (i : Nat) : V := .emp i
def m (b : Nat) : V := .map b
def nm : V := .nilmap
def a (l : List V) : V := .agg l
def t (l : List V) : V := .tuple l
def o (i : Nat) : V := .opq i
def fn (f : Nat) (x c : List V) : V := .func (.func f) x c
noncomputable def C (b n sz : Nat) (ex : Bool) (l : List V) : Nat × B := (b, .cells (T.ofList l) n sz ex)
def M (b : Nat) (es : List (V × V)) (bs : List Nat) (clk : Nat) : Nat × B := (b, .map es bs clk)
noncomputable def ov (ch : List (Nat × B)) (dr : List Nat) (l : List (Nat × B)) : List (Nat × B) :=
 List.rec (motive := fun _ => List (Nat × B)) ch (fun q _ ih => bif hasN q.1 dr then ih else q :: ih) l
end Go.Proofs.YtmfmjhklajmhoaaGreat.Gv.Lt
namespace Go.Proofs.YtmfmjhklajmhoaaGreat.Gv
open Go Go.RowKit
section
variable {P : Program} {G : Gh}
end
end Go.Proofs.YtmfmjhklajmhoaaGreat.Gv
