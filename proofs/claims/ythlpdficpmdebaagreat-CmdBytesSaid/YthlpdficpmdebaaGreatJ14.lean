/- cmd.shapes: what each kind of command has, looked up. -/
import Derived.Test.YthlpdficpmdebaaGreatJ11
import Derived.Test.YthlpdficpmdebaaGreatLib
namespace Go.Proofs.YthlpdficpmdebaaGreat.Wire
open Go Go.RowKit Go.Lib Gv
noncomputable def shE (bd : List (Int × Int)) : Env := evE Tryz.prog (fun _ => none) bd [] []
noncomputable def shR : RV := callN (shE []) 10 51 [] H0
def lkO : Oper := { dst := some 2, op := .lookup 113 (.tmp 0) (.tmp 1) true, type := 0, pos := "", after := #[], guard := none }
noncomputable def cellsI (cs : T V) : Nat → Option (List Int)
  | 0 => some []
  | n + 1 => match cellsI cs n, cs.get n with
    | some l, some (.int .i64 x) => some (l ++ [x])
    | _, _ => none
theorem cellsI_ok {cs : T V} : ∀ {n : Nat} {l : List Int}, cellsI cs n = some l → l.length = n ∧ ∀ j x, l[j]? = some x → cs.get j = some (.int .i64 x)
  | 0, l, e => by
    simp only [cellsI, Option.some.injEq] at e
    subst e
    exact ⟨rfl, fun j x h => by simp at h⟩
  | n + 1, l, e => by
    unfold cellsI at e
    split at e
    · rename_i l0 x h1 h2
      obtain ⟨a, b⟩ := cellsI_ok h1
      simp only [Option.some.injEq] at e
      subst e
      refine ⟨by simp [a], fun j y hy => ?_⟩
      by_cases hj : j < l0.length
      · rw [List.getElem?_append_left hj] at hy
        exact b j y hy
      · by_cases hj2 : j = l0.length
        · subst hj2
          simp at hy
          subst hy
          rw [a]
          exact h2
        · rw [List.getElem?_eq_none (by simp; omega)] at hy
          cases hy
    · cases e
/-- A slice of numbers in an abstract memory. -/
noncomputable def slI (h : H) (sl : V) : Option (List Int) := match sl with
  | .nilslice => some []
  | .slice b o n _ _ => (match h.t.get b with
    | some (.cells cs m _ _) => bif Nat.beq o 0 && Nat.ble n m then (match cellsI cs n with | some l => bif Nat.beq l.length n then some l else none | none => none) else none
    | _ => none)
  | _ => none
abbrev RowT := Bool × Int × Int × Int × Int × List Int
noncomputable def gotRow (h : H) (r : RV) : Option RowT := match r with
  | .ok (.tuple [.agg [.int .i64 wh, .int .i64 t, .int .i64 n, .int .i64 s, sl], .bool is]) _ => (match slI h sl with | some l => some (is, wh, t, n, s, l) | none => none)
  | _ => none
noncomputable def getRow (bd : List (Int × Int)) (k : V) : Option RowT := match shR with
  | .ok (.map b) h => gotRow h ((opF (shE bd) lkO).v (Fr.ofL [.map b, k] 0 Fr.new) h)
  | _ => none
set_option maxRecDepth 100000 in
theorem row1 : getRow [] (.int .i64 1) = some (true, 1, 1, 1, 0, []) := by kernel_rfl
set_option maxRecDepth 100000 in
theorem row2 : getRow [] (.int .i64 2) = some (true, 1, 2, 0, 0, []) := by kernel_rfl
set_option maxRecDepth 100000 in
theorem row3 : getRow [] (.int .i64 3) = some (true, 1, 1, 7, 0, [0, 1]) := by kernel_rfl
set_option maxRecDepth 100000 in
theorem row4 : getRow [] (.int .i64 4) = some (true, 1, 0, 0, 1, []) := by kernel_rfl
set_option maxRecDepth 100000 in
theorem row5 : getRow [] (.int .i64 5) = some (true, 1, 1, 1, 0, []) := by kernel_rfl
set_option maxRecDepth 100000 in
theorem row6 : getRow [] (.int .i64 6) = some (true, 1, 1, 1, 0, []) := by kernel_rfl
set_option maxRecDepth 100000 in
theorem row7 : getRow [] (.int .i64 7) = some (true, 1, 2, 1, 0, []) := by kernel_rfl
set_option maxRecDepth 100000 in
theorem row8 : getRow [] (.int .i64 8) = some (true, 1, 2, 1, 0, [0]) := by kernel_rfl
set_option maxRecDepth 100000 in
theorem row9 : getRow [] (.int .i64 9) = some (true, 2, 6, 8, 0, [0, 6, 7]) := by kernel_rfl
set_option maxRecDepth 100000 in
theorem row10 : getRow [] (.int .i64 10) = some (true, 2, 0, 1, 1, [0]) := by kernel_rfl
set_option maxRecDepth 100000 in
theorem row11 : getRow [] (.int .i64 11) = some (true, 2, 0, 1, 0, []) := by kernel_rfl
set_option maxRecDepth 100000 in
theorem row12 : getRow [] (.int .i64 12) = some (true, 2, 0, 1, 0, []) := by kernel_rfl
set_option maxRecDepth 100000 in
theorem row13 : getRow [] (.int .i64 13) = some (true, 2, 0, 2, 0, []) := by kernel_rfl
set_option maxRecDepth 100000 in
theorem row14 : getRow [] (.int .i64 14) = some (true, 2, 0, 2, 0, [1]) := by kernel_rfl
set_option maxRecDepth 100000 in
theorem row15 : getRow [] (.int .i64 15) = some (true, 2, 0, 3, 3, []) := by kernel_rfl
set_option maxRecDepth 100000 in
theorem row16 : getRow [] (.int .i64 16) = some (true, 1, 0, 0, 0, []) := by kernel_rfl
set_option maxRecDepth 100000 in
theorem row17 : getRow [] (.int .i64 17) = some (true, 1, 0, 2, 0, [0, 1]) := by kernel_rfl
set_option maxRecDepth 100000 in
theorem row18 : getRow [] (.int .i64 18) = some (true, 1, 0, 0, 0, []) := by kernel_rfl
set_option maxRecDepth 100000 in
theorem row19 : getRow [] (.int .i64 19) = some (true, 1, 0, 0, 0, []) := by kernel_rfl
set_option maxRecDepth 100000 in
theorem row30 : getRow [] (.int .i64 30) = some (true, 3, 0, 1, 0, []) := by kernel_rfl
set_option maxRecDepth 100000 in
theorem row31 : getRow [] (.int .i64 31) = some (true, 3, 2, 0, 0, []) := by kernel_rfl
set_option maxRecDepth 100000 in
theorem row32 : getRow [] (.int .i64 32) = some (true, 3, 0, 0, 0, []) := by kernel_rfl
set_option maxRecDepth 100000 in
theorem row33 : getRow [] (.int .i64 33) = some (true, 2, 0, 0, 0, []) := by kernel_rfl
set_option maxRecDepth 100000 in
theorem row34 : getRow [] (.int .i64 34) = some (true, 3, 0, 0, 0, []) := by kernel_rfl
set_option maxRecDepth 100000 in
theorem row35 : getRow [] (.int .i64 35) = some (true, 3, 0, 1, 0, []) := by kernel_rfl
set_option maxRecDepth 100000 in
theorem row36 : getRow [] (.int .i64 36) = some (true, 3, 1, 0, 0, []) := by kernel_rfl
set_option maxRecDepth 100000 in
theorem rowUa : getRow [(-9223372036854775808, 0)] (.sint .i64 0 [(0,1)]) = some (false, 0, 0, 0, 0, []) := by kernel_rfl
set_option maxRecDepth 100000 in
theorem rowUb : getRow [(20, 29)] (.sint .i64 0 [(0,1)]) = some (false, 0, 0, 0, 0, []) := by kernel_rfl
set_option maxRecDepth 100000 in
theorem rowUc : getRow [(37, 9223372036854775807)] (.sint .i64 0 [(0,1)]) = some (false, 0, 0, 0, 0, []) := by kernel_rfl
/-- What a lookup hands back, in every world in which the map still stands. -/
def LookPost (kind : Int) (is : Bool) (wh t n s : Int) (tr : List Int) (w : World) (en : Ending) (w' : World) : Prop :=
  ∃ mb T tc, en = .returned (.map (some mb)) ∧ Below w.heap.size w w' ∧ IntsAt w' T tr ∧ (∀ ad, T = some ad → w.heap.size ≤ ad.block) ∧
    (∀ W : World, Below w'.heap.size w' W → (Instr.lookup 113 (.map (some mb)) (.int .i64 kind) true).run Tryz.prog W = .ok (.tuple #[.agg #[.int .i64 wh, .int .i64 t, .int .i64 n, .int .i64 s, .slice T tr.length tc], .bool is]) W)
theorem sl_in {G : Gh} {φ : Mp} {h : H} {w : World} {sl : V} {l : List Int} {u : Value} (r : HRel G φ h w) (e : slI h sl = some l) (hu : conc G φ sl = some u) : ∃ T tc, u = .slice T l.length tc ∧ IntsAt w T l ∧ ∀ ad, T = some ad → Foot φ h ad.block := by
  unfold slI at e
  split at e
  · simp only [Option.some.injEq] at e
    subst e
    rw [conc] at hu
    injection hu with hu
    exact ⟨none, 0, hu.symm, fun h0 => absurd rfl h0, fun ad h0 => by cases h0⟩
  · rename_i b o n c x
    rw [conc] at hu
    split at hu
    · rename_i loc hl
      injection hu with hu
      split at e
      · rename_i cs m sz ex hb
        cases hq : (Nat.beq o 0 && Nat.ble n m) with
        | false => rw [hq] at e; cases e
        | true =>
          rw [hq, cond_true] at e
          simp only [Bool.and_eq_true, Nat.beq_eq, Nat.ble_eq] at hq
          obtain ⟨rfl, hnm⟩ := hq
          split at e
          · rename_i l0 hc
            cases hq2 : Nat.beq l0.length n with
            | false => rw [hq2] at e; cases e
            | true =>
              rw [hq2, cond_true] at e
              injection e with e
              subst e
              have hn := Nat.eq_of_beq_eq_true hq2
              obtain ⟨_, hcell⟩ := cellsI_ok hc
              obtain ⟨C, et, hC, hsz, _, hcs⟩ := r.blk b _ _ hb hl
              refine ⟨some ⟨loc.blk, 0, none⟩, _, by rw [← hu, hn], fun _ => ⟨_, rfl, fun j y hy => ?_⟩, fun ad h0 => by cases h0; exact ⟨b, _, loc, hb, hl, rfl⟩⟩
              have hj : j < l0.length := (List.getElem?_eq_some_iff.1 hy).1
              obtain ⟨uu, h1, h2⟩ := hcs j _ (by omega) (hcell j y hy)
              rw [conc] at h1
              injection h1 with h1
              have ha : (⟨loc.blk, 0, none⟩ : Addr).add j = ⟨loc.blk, j, none⟩ := by unfold Addr.add; split <;> simp_all
              rw [ha, World.cell?, hC, h1]
              simpa using h2
          · cases e
      · cases e
    · cases hu
  · cases e
set_option maxRecDepth 100000 in
theorem look_of {bd : List (Int × Int)} {G : Gh} (hbd : ∀ (i : Nat) lo hi, bd[i]? = some (lo, hi) → lo ≤ G.σ i ∧ G.σ i ≤ hi) {k : V} {kind : Int} (hk : ∀ φ, conc G φ k = some (.int .i64 kind)) {is : Bool} {wh t n s : Int} {tr : List Int}
    (e : getRow bd k = some (is, wh, t, n, s, tr)) (w : World) : Calls Tryz.prog 51 #[] w (LookPost kind is wh t n s tr w) := by
  unfold getRow at e
  split at e
  · rename_i b h hr
    have r0 : HRel G (fun _ => none) H0 w := ⟨fun b x l hb => (nomatch hb), fun b b' x x' l l' hb => (nomatch hb), fun b _ => rfl⟩
    have ok0 : EnvOk (shE []) Tryz.prog G := evE_ok progOk (fun i lo hi h => by simp at h) (fun f h => by cases h) (fun n h => by cases h)
    have ok1 : EnvOk (shE bd) Tryz.prog G := evE_ok progOk hbd (fun f h => by cases h) (fun n h => by cases h)
    refine (run_ok (ul := []) ok0 (evE_fn progOk noHooks) Tryz.func51 (prog_name progOk Tryz.func51) rfl hr concL_nil r0 (fun _ _ _ => rfl)).mono ?_
    rintro en w' ⟨u', rfl, φ', hu, r, f', x⟩
    rw [conc] at hu
    split at hu
    · rename_i loc hl
      injection hu with hu
      subst hu
      have hb : Below w.heap.size w w' := by
        refine ⟨f'.os, f'.tape, f'.output, f'.size, fun k hk => f'.block k hk ?_⟩
        rintro ⟨b, y, l, hb, _⟩
        exact (nomatch hb)
      unfold gotRow at e
      split at e
      · rename_i wh' t' n' s' sl is' h2 hop
        split at e
        · rename_i l hs
          simp only [Option.some.injEq, Prod.mk.injEq] at e
          obtain ⟨rfl, rfl, rfl, rfl, rfl, rfl⟩ := e
          have look : ∀ W : World, Below w'.heap.size w' W → ∃ T tc, (Instr.lookup 113 (.map (some loc.blk)) (.int .i64 kind) true).run Tryz.prog W = .ok (.tuple #[.agg #[.int .i64 wh', .int .i64 t', .int .i64 n', .int .i64 s', .slice T l.length tc], .bool is']) W ∧ conc G φ' sl = some (.slice T l.length tc) ∧ IntsAt w' T l ∧ ∀ ad, T = some ad → Foot φ' h ad.block := by
            intro W hW
            have rW : HRel G φ' h W := r.frame (Mp.le_refl _) (fun b x l _ hl => hl) (fun k hk => hW.block k (r.foot_lt hk))
            have T0 := start_ok (G := G) (φ := φ') (l := [.map b, k]) (ul := [.map (some loc.blk), .int .i64 kind]) (n := 3) (concL_cons.2 ⟨_, _, by rw [conc, hl], concL_cons.2 ⟨_, _, hk φ', concL_nil, rfl⟩, rfl⟩) (by simp)
            obtain ⟨_, u, hrun, hcu⟩ := lookup_ok (a := ⟨#[.map (some loc.blk), .int .i64 kind, undef], []⟩) (o := lkO) ok1 rfl rfl rfl T0 rW hop
            have hL : (Instr.lookup 113 (.map (some loc.blk)) (.int .i64 kind) true).run Tryz.prog W = .ok u W := by
              have h9 : ((Instr.lookup 113 (.map (some loc.blk)) (.int .i64 kind) true).run Tryz.prog W).andThen (fun v w => (pure (Next.value v) : Sem Next).run Tryz.prog w) = .ok (.value u) W := by
                have h8 := hrun
                simp only [execOp, lkO, Sem.run_bind] at h8
                exact h8
              cases hx : (Instr.lookup 113 (.map (some loc.blk)) (.int .i64 kind) true).run Tryz.prog W with
              | ok v W' =>
                rw [hx] at h9
                simp [Result.andThen, Sem.run_pure] at h9
                obtain ⟨rfl, rfl⟩ := h9
                rfl
              | halt a b => rw [hx] at h9; simp [Result.andThen] at h9
            cases hsl : conc G φ' sl with
            | none => simp [conc, concL, hsl] at hcu
            | some su =>
              simp [conc, concL, hsl] at hcu
              obtain ⟨T, tc, rfl, hi⟩ := sl_in r hs hsl
              exact ⟨T, tc, by rw [hL, ← hcu], rfl, hi⟩
          obtain ⟨T, tc, h1, hT, hi, hfo⟩ := look w' (Below.refl _ _)
          refine ⟨loc.blk, T, tc, rfl, hb, hi, fun ad had => ?_, fun W hW => ?_⟩
          · rcases Nat.lt_or_ge ad.block w.heap.size with hlt | hge
            · obtain ⟨b, y, l, hb, _⟩ := x.foot _ (hfo ad had) hlt
              exact (nomatch hb)
            · exact hge
          obtain ⟨T2, tc2, h3, hT2, _, _⟩ := look W hW
          rw [hT] at hT2
          simp only [Option.some.injEq, Value.slice.injEq] at hT2
          obtain ⟨e1, _, e2⟩ := hT2
          rw [h3, ← e1, ← e2]
        · cases e
      · cases e
    · cases hu
  · cases e
end Go.Proofs.YthlpdficpmdebaaGreat.Wire
/- cmd.shape.fits, and the truths of a command. -/
namespace Go.Proofs.YthlpdficpmdebaaGreat.Wire
open Go Go.RowKit Go.Lib
/-- Whether so many numbers are right. -/
def fitB (n s : Int) (m : Nat) : Bool := decide ((m : Int) = n) || (decide (0 < s ∧ n < (m : Int) ∧ (m : Int) ≤ 60) && (((m : Int) - n) % s == 0))
set_option maxRecDepth 20000 in
set_option maxHeartbeats 1000000 in
/-- Whether so many numbers are right: the same answer in every world. -/
theorem fits_any (wh t n s : Int) (m : Nat) (hn : 0 ≤ n ∧ n ≤ 60) (hs : 0 ≤ s ∧ s ≤ 60) : ∃ r : Bool, r = fitB n s m ∧ (r = true → n ≤ m) ∧ ∀ (T : Option Addr) (tl tc : Nat) (w : World),
    Calls Tryz.prog 52 #[.agg #[.int .i64 wh, .int .i64 t, .int .i64 n, .int .i64 s, .slice T tl tc], .int .i64 m] w fun en w' => en = .returned (.bool r) ∧ Below w.heap.size w w' := by
  obtain ⟨hn1, hn2⟩ := hn
  obtain ⟨hs1, hs2⟩ := hs
  by_cases h1 : (m : Int) = n
  · refine ⟨true, by simp [fitB, h1], fun _ => by omega, fun T tl tc w => ?_⟩
    obtain ⟨N, rfl⟩ : ∃ N : Nat, n = N := ⟨n.toNat, by omega⟩
    have h2 : m = N := by omega
    subst h2
    go_enter Tryz.func52, Tryz.ntmps52
    go_wp2_with fail
    refine bodyPost_ret (results_tmp rfl _ _ _) rfl ?_
    exact ⟨rfl, (Below.refl _ w).alloc (Nat.le_refl _) _⟩
  · have hb : ((m : Int) == n) = false := by rw [beq_eq_false_iff_ne]; exact h1
    by_cases h2 : 0 < s ∧ n < (m : Int) ∧ (m : Int) ≤ 60
    · obtain ⟨h3, h4, h5⟩ := h2
      have hF : (((m : Int) - n) % s == 0) = fitB n s m := by simp [fitB, h1, h3, h4, h5]
      clear h1
      refine ⟨((m : Int) - n) % s == 0, hF, fun _ => by omega, fun T tl tc w => ?_⟩
      clear hF
      have h6 : ¬ s = 0 := by omega
      go_enter Tryz.func52, Tryz.ntmps52
      go_wp2_with fail
      go_ret
      exact ⟨rfl, (Below.refl _ w).alloc (Nat.le_refl _) _⟩
    · refine ⟨false, by simp only [fitB, h1, h2, decide_false, Bool.false_and, Bool.or_false], fun h => by simp at h, fun T tl tc w => ?_⟩
      clear h1
      rcases (show s ≤ 0 ∨ (0 < s ∧ (m : Int) ≤ n) ∨ (0 < s ∧ n < (m : Int) ∧ 60 < (m : Int)) by omega) with h3 | ⟨h3, h4⟩ | ⟨h3, h4, h5⟩
      all_goals
        clear h2
        go_enter Tryz.func52, Tryz.ntmps52
        go_wp2_with fail
        go_ret
        exact ⟨rfl, (Below.refl _ w).alloc (Nat.le_refl _) _⟩
/-- A number that is no truth. -/
def badB (x : Int) : Bool := x != 0 && x != 1
set_option maxRecDepth 20000 in
set_option maxHeartbeats 1000000 in
theorem truth_any (b : Nat) (kind : Int) (party : ByteArray) (A : Option Addr) (n c : Nat) (A' : Option Addr) (m c' : Nat) (nums : List Int) (i : Nat) (w : World) (hb : w.heap[b]? = some (cmdBox kind party A n c A' m c')) (hx : IntsAt w A nums) (hn : nums.length = n) (hi : i < n) :
    Calls Tryz.prog 54 #[.int .i64 i, .pointer (some ⟨b, 0, none⟩)] w fun en w' => en = .returned (.bool (badB (nums.getD i 0))) ∧ w = w' := by
  obtain ⟨k0, k1, k2, k3⟩ := cmdBox_cells hb
  have hil : i < nums.length := by omega
  obtain ⟨ad, rfl, hcs⟩ := hx (by intro e0; rw [e0] at hil; simp at hil)
  have hcell : w.cell? (ad.add i) = some (.int .i64 nums[i]) := hcs i _ (List.getElem?_eq_getElem hil)
  have hg : nums.getD i 0 = nums[i] := by rw [List.getD_eq_getElem?_getD, List.getElem?_eq_getElem hil]; rfl
  rw [hg]
  clear hb hx hn hcs hg
  generalize nums[i] = x at hcell
  go_enter Tryz.func54, Tryz.ntmps54
  go_wp2_with fail
  · have h0 : x = 0 := ‹_›
    subst h0
    refine bodyPost_ret (results_tmp rfl _ _ _) rfl ?_
    exact ⟨rfl, rfl⟩
  · refine bodyPost_ret (results_tmp rfl _ _ _) rfl ?_
    exact ⟨rfl, rfl⟩
/-- Is one of the truths none? -/
def anyB (nums tr : List Int) : Bool := tr.any fun i => badB (nums.getD i.toNat 0)
def IdxPost (nums tr : List Int) (w : World) (en : Ending) (w' : World) : Prop := (∃ r : Int, en = .returned (.int .i64 r) ∧ decide (0 ≤ r) = anyB nums tr) ∧ w = w'
theorem any_step (f : Int → Bool) (l : List Int) (k : Nat) (h : k < l.length) : (l.take (k + 1)).any f = ((l.take k).any f || f l[k]) := by
  rw [List.take_succ_eq_append_getElem h]
  simp only [List.any_append, List.any_cons, List.any_nil, Bool.or_false]
set_option maxRecDepth 20000 in
set_option maxHeartbeats 1000000 in
theorem index_any (b : Nat) (kind : Int) (party : ByteArray) (A : Option Addr) (n c : Nat) (A' : Option Addr) (m c' : Nat) (nums : List Int) (T : Option Addr) (L tc : Nat) (tr : List Int) (w : World) (hb : w.heap[b]? = some (cmdBox kind party A n c A' m c')) (hx : IntsAt w A nums) (hn : nums.length = n)
    (ht : IntsAt w T tr) (hL : tr.length = L) (hL2 : L ≤ 1000) (hgood : ∀ i ∈ tr, 0 ≤ i ∧ i < (n : Int)) :
    Calls Tryz.prog 146 #[.slice T L tc, .func (.func 54) #[] #[.pointer (some ⟨b, 0, none⟩)]] w (IdxPost nums tr w) := by
  have HB := Lib.hid hb
  have HX := Lib.hid hx
  have HN := Lib.hid hn
  have HT := Lib.hid ht
  have HL := Lib.hid hL
  have HG := Lib.hid hgood
  clear hb hx hn ht hL hgood
  go_enter Tryz.func146, Tryz.ntmps146
  go_wp2_with fail
  go_loop [8] (fun i => ∃ k : Nat, i = .int .i64 k ∧ k ≤ L ∧ (tr.take k).any (fun i => badB (nums.getD i.toNat 0)) = false) (fun i => L - (intOf i).toNat)
  case atStart => exact ⟨0, rfl, Nat.zero_le _, rfl⟩
  case round =>
    obtain ⟨k, rfl, hk, hany⟩ := hrel
    have HA := Lib.hid hany
    clear hany
    by_cases hlt : k < L
    · have hxl : k < tr.length := by have := HL.out; omega
      obtain ⟨ad, hA, hcs⟩ := HT.out (by intro e0; rw [e0] at hxl; simp at hxl)
      subst hA
      have hcell := hcs k _ (List.getElem?_eq_getElem hxl)
      have hgk := HG.out _ (List.getElem_mem hxl)
      have hst := any_step (fun i => badB (nums.getD i.toNat 0)) tr k hxl
      rw [HA.out, Bool.false_or] at hst
      obtain ⟨i, hi⟩ : ∃ i : Nat, tr[k] = i := ⟨tr[k].toNat, by omega⟩
      rw [hi] at hcell hgk hst
      have HST := Lib.hid hst
      have HI : Hid (i < n) := Lib.hid (by omega)
      clear hcs hgk hst hi
      have htr := truth_any b kind party A n c A' m c' nums i w HB.out HX.out HN.out HI.out
      have hq : nums.getD (i : Int).toNat 0 = nums.getD i 0 := rfl
      obtain ⟨r, hr⟩ : ∃ r, badB (nums.getD i 0) = r := ⟨_, rfl⟩
      rw [hr] at htr
      have HTR := Lib.hid htr
      have HR := Lib.hid hr
      clear htr hq hr
      cases r
      · go_wp2_with (go_at_call 54; refine HTR.out.mono ?_; rintro e w1 ⟨rfl, rfl⟩)
        go_round
        case rel => exact ⟨k + 1, by go_num, by omega, by rw [HST.out]; exact HR.out⟩
        case measure => simp [intOf]; omega
      · go_wp2_with (go_at_call 54; refine HTR.out.mono ?_; rintro e w1 ⟨rfl, rfl⟩)
        refine bodyPost_ret (results_tmp rfl _ _ _) rfl ?_
        have h1 : (tr.take (k + 1)).any (fun i => badB (nums.getD i.toNat 0)) = true := by rw [HST.out]; exact HR.out
        obtain ⟨y, hy, hyb⟩ := List.any_eq_true.1 h1
        refine ⟨⟨k, rfl, ?_⟩, rfl⟩
        rw [decide_eq_true (by omega)]
        exact (List.any_eq_true.2 ⟨y, List.mem_of_mem_take hy, hyb⟩).symm
    · go_wp2_with fail
      refine bodyPost_ret (results_tmp rfl _ _ _) rfl ?_
      have h1 := HA.out
      rw [List.take_of_length_le (by have := HL.out; omega)] at h1
      exact ⟨⟨-1, rfl, by rw [anyB, h1]; rfl⟩, rfl⟩
set_option maxRecDepth 20000 in
theorem contains_any (b : Nat) (kind : Int) (party : ByteArray) (A : Option Addr) (n c : Nat) (A' : Option Addr) (m c' : Nat) (nums : List Int) (T : Option Addr) (L tc : Nat) (tr : List Int) (w : World) (hb : w.heap[b]? = some (cmdBox kind party A n c A' m c')) (hx : IntsAt w A nums) (hn : nums.length = n)
    (ht : IntsAt w T tr) (hL : tr.length = L) (hL2 : L ≤ 1000) (hgood : ∀ i ∈ tr, 0 ≤ i ∧ i < (n : Int)) :
    Calls Tryz.prog 53 #[.slice T L tc, .func (.func 54) #[] #[.pointer (some ⟨b, 0, none⟩)]] w fun en w' => en = .returned (.bool (anyB nums tr)) ∧ w = w' := by
  have HI := Lib.hid (index_any b kind party A n c A' m c' nums T L tc tr w hb hx hn ht hL hL2 hgood)
  clear hb hx hn ht hL hgood
  go_enter Tryz.func53, Tryz.ntmps53
  go_wp2_with fail
  refine HI.out.mono ?_
  rintro e w1 ⟨⟨r, rfl, hr⟩, rfl⟩
  have HR := Lib.hid hr
  clear hr
  go_wp2_with fail
  go_ret
  exact ⟨by rw [← HR.out]; rfl, rfl⟩
end Go.Proofs.YthlpdficpmdebaaGreat.Wire
