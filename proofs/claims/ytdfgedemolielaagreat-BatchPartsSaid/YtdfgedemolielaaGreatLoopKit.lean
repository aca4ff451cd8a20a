/- What runs with loops have in common. -/
import Derived.Test.YtdfgedemolielaaGreatGvPermw
import Derived.Test.YtdfgedemolielaaGreatProg
namespace Go.Proofs.YtdfgedemolielaaGreat
open Go Go.RowKit Gv
theorem progOkB : ProgOk Tryz.prog := ⟨of_decide_eq_true (by kernel_rfl), by kernel_rfl, by kernel_rfl⟩
/-- A loop's body, by its block's number. -/
def bodyOf (id : Nat) (fn : Func) : Code := match fn.body with | some c => (match (blocksC c).find? (fun p => Nat.beq p.1 id) with | some (_, .loop x) => x | _ => .skip) | none => .skip
def extσ (σ : Nat → Int) (k : Nat) (l : List Int) : Nat → Int := fun i => if i < k then σ i else l.getD (i - k) 0
theorem extσ_lo {σ : Nat → Int} {k : Nat} {l : List Int} {i : Nat} (h : i < k) : extσ σ k l i = σ i := if_pos h
theorem lk_one {P : Program} {G : Gh} {K n id : Nat} {c x : Code} {g : Fr → H → RX} (h : (blocksC c).filter (fun p => Nat.beq p.1 id) = [(id, .loop x)]) (hg : PieceX P G K n (.block id (.loop x)) g) :
    LkOk P G K n (fun i => bif Nat.beq i id then some g else none) (blocksC c) := by
  intro p hp g' e
  dsimp only at e
  cases hi : Nat.beq p.1 id with
  | false => rw [hi] at e; cases e
  | true =>
    rw [hi, cond_true] at e
    cases e
    have : p ∈ (blocksC c).filter (fun p => Nat.beq p.1 id) := List.mem_filter.2 ⟨hp, hi⟩
    rw [h] at this
    simp at this
    subst this
    exact hg

theorem HTOk.of {P : Program} {G : Gh} {f : Nat} {args : List V} {v : V} {fn : Func} {c : Code} (hf : P.funcs[f]? = some fn) (hb : fn.body = some c) {ul : List Value} {u : Value} (hl : ∀ φ, concL G φ args = some ul) (hv : ∀ φ, conc G φ v = some u)
    (h : ∀ w : World, Calls P f ul.toArray w fun e w' => e = .returned u ∧ Below w.heap.size w w') : HTOk P G ⟨f, args, v⟩ := by
  refine ⟨⟨fn, c, hf, hb⟩, fun φ ul' hl' w => ?_⟩
  have := hl'.symm.trans (hl φ)
  cases this
  exact (h w).mono fun e w' ⟨h1, h2⟩ => ⟨u, hv, h1, h2⟩
theorem bd_app {σ : Nat → Int} : ∀ {l m : List (Int × Int)} {k : Nat}, bdOk σ l k → bdOk σ m (k + l.length) → bdOk σ (l ++ m) k
  | [], m, k, _, h => by simpa using h
  | p :: l, m, k, h, h2 => ⟨h.1, bd_app h.2 (by rw [show k + 1 + l.length = k + (p :: l).length from by simp; omega]; exact h2)⟩
theorem bd_congr {σ σ' : Nat → Int} : ∀ {l : List (Int × Int)} {k : Nat}, (∀ i, i < k + l.length → σ' i = σ i) → bdOk σ l k → bdOk σ' l k
  | [], k, _, _ => trivial
  | p :: l, k, hs, h => ⟨by rw [hs k (by simp)]; exact h.1, bd_congr (fun i hi => hs i (by simp; omega)) h.2⟩
theorem lk_two {P : Program} {G : Gh} {K n i j : Nat} {c x y : Code} {g g' : Fr → H → RX} (h : (blocksC c).filter (fun p => Nat.beq p.1 i) = [(i, .loop x)]) (h' : (blocksC c).filter (fun p => Nat.beq p.1 j) = [(j, .loop y)])
    (hg : PieceX P G K n (.block i (.loop x)) g) (hg' : PieceX P G K n (.block j (.loop y)) g') : LkOk P G K n (fun k => bif Nat.beq k i then some g else bif Nat.beq k j then some g' else none) (blocksC c) := by
  intro p hp f e
  dsimp only at e
  cases hi : Nat.beq p.1 i with
  | true =>
    rw [hi, cond_true] at e
    cases e
    have : p ∈ (blocksC c).filter (fun p => Nat.beq p.1 i) := List.mem_filter.2 ⟨hp, hi⟩
    rw [h] at this
    simp at this
    subst this
    exact hg
  | false =>
    rw [hi, cond_false] at e
    cases hj : Nat.beq p.1 j with
    | true =>
      rw [hj, cond_true] at e
      cases e
      have : p ∈ (blocksC c).filter (fun p => Nat.beq p.1 j) := List.mem_filter.2 ⟨hp, hj⟩
      rw [h'] at this
      simp at this
      subst this
      exact hg'
    | false => rw [hj] at e; cases e
/-- A run into which loops are put, from nothing. -/
theorem runL_val {P : Program} {G : Gh} {E : Env} {K fuel f : Nat} {fn : Func} {c : Code} {lk : Nat → Option (Fr → H → RX)} (ok : ∀ G1, GLe K G G1 → EnvOk E P G1) (fk : ∀ G1, GLe K G G1 → FnOk E P G1) (hP : P.funcs[f]? = some fn) (hb : fn.body = some c)
    (hl : LkOk P G K fn.ntmps lk (blocksC c)) {l : List V} {v : V} (e : ((runL E lk fuel fn l H0).isV v) = true) {ul : List Value} (hul : concL G (fun _ => none) l = some ul) {u : Value} (hv : ∀ G1, GLe K G G1 → ∀ φ, conc G1 φ v = some u) (w : World) :
    Calls P f ul.toArray w fun e w' => e = .returned u ∧ Below w.heap.size w w' := by
  unfold RV.isV at e
  cases hr : runL E lk fuel fn l H0 with
  | bad m i => rw [hr] at e; cases e
  | ok x h' =>
    rw [hr] at e
    have hx := sameV_eq e
    subst hx
    have r0 : HRel G (fun _ => none) H0 w := ⟨fun b x l hb => (nomatch hb), fun b b' x x' l l' hb => (nomatch hb), fun b _ => rfl⟩
    refine (runL_ok (K := K) (G := G) ok fk hP hb hl hr hul r0 (fun _ _ _ => rfl)).mono ?_
    rintro e w' ⟨u', rfl, G2, gg, φ', hu, r', f', x⟩
    rw [hv G2 gg φ'] at hu
    cases hu
    refine ⟨rfl, f'.os, f'.tape, f'.output, f'.size, fun k hk => f'.block k hk ?_⟩
    rintro ⟨b, y, l, hb, _⟩
    exact (nomatch hb)
/-- What MulDiv hands back. -/
def mdV (a b c : Int) : Value := if a * b / c ≤ 1152921504606846976 then .tuple #[.int .i64 (a * b / c), .int .i64 0] else .tuple #[.int .i64 0, .int .i64 12]
noncomputable def mdH (_ : Gv.Call) (l : List V) (h : H) : RV :=
  match l with
  | [.int .i64 (.ofNat a), .int .i64 (.ofNat b), .int .i64 (.ofNat c)] => bif Nat.ble a 9223372036854775807 && (Nat.ble b 9223372036854775807 && (Nat.ble 1 c && Nat.ble c 9223372036854775807)) then
      (bif Nat.ble (a * b / c) 1152921504606846976 then .ok (.tuple [.int .i64 (.ofNat (a * b / c)), .int .i64 0]) h else .ok (.tuple [.int .i64 0, .int .i64 12]) h) else .bad "MulDiv" 1
  | _ => .bad "MulDiv" 0
theorem md_val {a b c z : Int} (hz : a * b / c = z) (h : z ≤ 1152921504606846976) : mdV a b c = .tuple #[.int .i64 z, .int .i64 0] := by
  unfold mdV
  rw [hz, if_pos h]
end Go.Proofs.YtdfgedemolielaaGreat
