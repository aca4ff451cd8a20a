/- The document's big numbers: Add; Of, Add and Cmp as hooks at numbers. -/
import Derived.Test.YtdfgedemolielaaGreatJ1
import Derived.Test.YtdfgedemolielaaGreatJ2
import Derived.Test.YtdfgedemolielaaGreatLib
namespace Go.Proofs.YtdfgedemolielaaGreat
open Go Go.RowKit Gv
def addD : Int → List Int → List Int → List Int
 | c, x :: l, y :: m => ((c + x + y) % 1073741824) :: addD ((c + x + y) / 1073741824) l m
 | _, _, _ => []
def bdA : List (Int × Int) := [(0, 1073741823), (0, 1073741823), (0, 1073741823), (0, 1073741823), (0, 1073741823), (0, 1073741823), (0, 1073741823), (0, 1073741823), (0, 1073741823), (0, 1073741823), (0, 1073741823), (0, 1073741823), (0, 1073741823), (0, 1), (0, 1073741823), (0, 1), (0, 1073741823), (0, 1), (0, 1073741823), (0, 1), (0, 1073741823), (0, 1), (0, 1073741823), (0, 1)]
def nlA : List NL := [⟨2, .i64, (0,[(6,1),(0,1)]), (1073741824,[]), 12⟩, ⟨1, .i64, (0,[(6,1),(0,1)]), (1073741824,[]), 13⟩, ⟨2, .i64, (0,[(7,1),(1,1),(13,1)]), (1073741824,[]), 14⟩, ⟨1, .i64, (0,[(7,1),(1,1),(13,1)]), (1073741824,[]), 15⟩, ⟨2, .i64, (0,[(8,1),(2,1),(15,1)]), (1073741824,[]), 16⟩, ⟨1, .i64, (0,[(8,1),(2,1),(15,1)]), (1073741824,[]), 17⟩, ⟨2, .i64, (0,[(9,1),(3,1),(17,1)]), (1073741824,[]), 18⟩, ⟨1, .i64, (0,[(9,1),(3,1),(17,1)]), (1073741824,[]), 19⟩, ⟨2, .i64, (0,[(10,1),(4,1),(19,1)]), (1073741824,[]), 20⟩, ⟨1, .i64, (0,[(10,1),(4,1),(19,1)]), (1073741824,[]), 21⟩, ⟨2, .i64, (0,[(11,1),(5,1),(21,1)]), (1073741824,[]), 22⟩, ⟨1, .i64, (0,[(11,1),(5,1),(21,1)]), (1073741824,[]), 23⟩]
def argA : List V := [.agg [.sint .i64 0 [(0,1)], .sint .i64 0 [(1,1)], .sint .i64 0 [(2,1)], .sint .i64 0 [(3,1)], .sint .i64 0 [(4,1)], .sint .i64 0 [(5,1)]], .agg [.sint .i64 0 [(6,1)], .sint .i64 0 [(7,1)], .sint .i64 0 [(8,1)], .sint .i64 0 [(9,1)], .sint .i64 0 [(10,1)], .sint .i64 0 [(11,1)]]]
def resA : V := .agg [.sint .i64 0 [(12,1)], .sint .i64 0 [(14,1)], .sint .i64 0 [(16,1)], .sint .i64 0 [(18,1)], .sint .i64 0 [(20,1)], .sint .i64 0 [(22,1)]]
theorem addRun : ((callN (evE Tryz.prog (fun _ => none) bdA [] nlA) 100 473 argA H0).isV resA) = true := by kernel_rfl
set_option maxRecDepth 100000 in
set_option maxHeartbeats 4000000 in
theorem add_ok (x0 x1 x2 x3 x4 x5 y0 y1 y2 y3 y4 y5 : Int) (rx0 : 0 ≤ x0 ∧ x0 ≤ 1073741823) (rx1 : 0 ≤ x1 ∧ x1 ≤ 1073741823) (rx2 : 0 ≤ x2 ∧ x2 ≤ 1073741823) (rx3 : 0 ≤ x3 ∧ x3 ≤ 1073741823) (rx4 : 0 ≤ x4 ∧ x4 ≤ 1073741823) (rx5 : 0 ≤ x5 ∧ x5 ≤ 1073741823) (ry0 : 0 ≤ y0 ∧ y0 ≤ 1073741823) (ry1 : 0 ≤ y1 ∧ y1 ≤ 1073741823) (ry2 : 0 ≤ y2 ∧ y2 ≤ 1073741823) (ry3 : 0 ≤ y3 ∧ y3 ≤ 1073741823) (ry4 : 0 ≤ y4 ∧ y4 ≤ 1073741823) (ry5 : 0 ≤ y5 ∧ y5 ≤ 1073741823) (w : World) :
 Calls Tryz.prog 473 #[.agg #[.int .i64 x0, .int .i64 x1, .int .i64 x2, .int .i64 x3, .int .i64 x4, .int .i64 x5], .agg #[.int .i64 y0, .int .i64 y1, .int .i64 y2, .int .i64 y3, .int .i64 y4, .int .i64 y5]] w fun e w' => e = .returned (.agg (((addD 0 [x0, x1, x2, x3, x4, x5] [y0, y1, y2, y3, y4, y5]).map (Value.int .i64)).toArray)) ∧ Below w.heap.size w w' := by
 obtain ⟨r0, h0⟩ : ∃ z : Int, z = (y0 + x0) % 1073741824 := ⟨_, rfl⟩
 obtain ⟨q0, g0⟩ : ∃ z : Int, z = (y0 + x0) / 1073741824 := ⟨_, rfl⟩
 have a0 : 0 ≤ r0 ∧ r0 ≤ 1073741823 := h0 ▸ rmod _
 have b0 : 0 ≤ q0 ∧ q0 ≤ 1 := by omega
 have p0 : 0 ≤ y0 + x0 := by omega
 have c0 : (0 + x0 + y0) % 1073741824 = r0 := by rw [h0]; congr 1; omega
 have d0 : (0 + x0 + y0) / 1073741824 = q0 := by rw [g0]; congr 1; omega
 obtain ⟨r1, h1⟩ : ∃ z : Int, z = (y1 + x1 + q0) % 1073741824 := ⟨_, rfl⟩
 obtain ⟨q1, g1⟩ : ∃ z : Int, z = (y1 + x1 + q0) / 1073741824 := ⟨_, rfl⟩
 have a1 : 0 ≤ r1 ∧ r1 ≤ 1073741823 := h1 ▸ rmod _
 have b1 : 0 ≤ q1 ∧ q1 ≤ 1 := by omega
 have p1 : 0 ≤ y1 + x1 + q0 := by omega
 have c1 : (q0 + x1 + y1) % 1073741824 = r1 := by rw [h1]; congr 1; omega
 have d1 : (q0 + x1 + y1) / 1073741824 = q1 := by rw [g1]; congr 1; omega
 obtain ⟨r2, h2⟩ : ∃ z : Int, z = (y2 + x2 + q1) % 1073741824 := ⟨_, rfl⟩
 obtain ⟨q2, g2⟩ : ∃ z : Int, z = (y2 + x2 + q1) / 1073741824 := ⟨_, rfl⟩
 have a2 : 0 ≤ r2 ∧ r2 ≤ 1073741823 := h2 ▸ rmod _
 have b2 : 0 ≤ q2 ∧ q2 ≤ 1 := by omega
 have p2 : 0 ≤ y2 + x2 + q1 := by omega
 have c2 : (q1 + x2 + y2) % 1073741824 = r2 := by rw [h2]; congr 1; omega
 have d2 : (q1 + x2 + y2) / 1073741824 = q2 := by rw [g2]; congr 1; omega
 obtain ⟨r3, h3⟩ : ∃ z : Int, z = (y3 + x3 + q2) % 1073741824 := ⟨_, rfl⟩
 obtain ⟨q3, g3⟩ : ∃ z : Int, z = (y3 + x3 + q2) / 1073741824 := ⟨_, rfl⟩
 have a3 : 0 ≤ r3 ∧ r3 ≤ 1073741823 := h3 ▸ rmod _
 have b3 : 0 ≤ q3 ∧ q3 ≤ 1 := by omega
 have p3 : 0 ≤ y3 + x3 + q2 := by omega
 have c3 : (q2 + x3 + y3) % 1073741824 = r3 := by rw [h3]; congr 1; omega
 have d3 : (q2 + x3 + y3) / 1073741824 = q3 := by rw [g3]; congr 1; omega
 obtain ⟨r4, h4⟩ : ∃ z : Int, z = (y4 + x4 + q3) % 1073741824 := ⟨_, rfl⟩
 obtain ⟨q4, g4⟩ : ∃ z : Int, z = (y4 + x4 + q3) / 1073741824 := ⟨_, rfl⟩
 have a4 : 0 ≤ r4 ∧ r4 ≤ 1073741823 := h4 ▸ rmod _
 have b4 : 0 ≤ q4 ∧ q4 ≤ 1 := by omega
 have p4 : 0 ≤ y4 + x4 + q3 := by omega
 have c4 : (q3 + x4 + y4) % 1073741824 = r4 := by rw [h4]; congr 1; omega
 have d4 : (q3 + x4 + y4) / 1073741824 = q4 := by rw [g4]; congr 1; omega
 obtain ⟨r5, h5⟩ : ∃ z : Int, z = (y5 + x5 + q4) % 1073741824 := ⟨_, rfl⟩
 obtain ⟨q5, g5⟩ : ∃ z : Int, z = (y5 + x5 + q4) / 1073741824 := ⟨_, rfl⟩
 have a5 : 0 ≤ r5 ∧ r5 ≤ 1073741823 := h5 ▸ rmod _
 have b5 : 0 ≤ q5 ∧ q5 ≤ 1 := by omega
 have p5 : 0 ≤ y5 + x5 + q4 := by omega
 have c5 : (q4 + x5 + y5) % 1073741824 = r5 := by rw [h5]; congr 1; omega
 have d5 : (q4 + x5 + y5) / 1073741824 = q5 := by rw [g5]; congr 1; omega
 have hv : addD 0 [x0, x1, x2, x3, x4, x5] [y0, y1, y2, y3, y4, y5] = [r0, r1, r2, r3, r4, r5] := by
  simp only [addD, c0, c1, c2, c3, c4, c5, d0, d1, d2, d3, d4]
 rw [hv]
 obtain ⟨G, hG⟩ : ∃ G, G = mkGh [] [x0, x1, x2, x3, x4, x5, y0, y1, y2, y3, y4, y5, r0, q0, r1, q1, r2, q2, r3, q3, r4, q4, r5, q5] rfl := ⟨_, rfl⟩
 have hbd : bdOk G.σ bdA 0 := by rw [hG]; exact ⟨rx0, rx1, rx2, rx3, rx4, rx5, ry0, ry1, ry2, ry3, ry4, ry5, a0, b0, a1, b1, a2, b2, a3, b3, a4, b4, a5, b5, trivial⟩
 have hnl : nlOk G nlA := by
  rw [hG]
  exact ⟨.inr (.inr (.inl ⟨rfl, nz, wrem (S := (0 + (1 * y0 + (1 * x0 + 0)))) (s := y0 + x0) (by simp only [Int.zero_add, Int.add_zero, Int.one_mul]) p0 h0⟩)),
   .inr (.inl ⟨rfl, nz, wquo (S := (0 + (1 * y0 + (1 * x0 + 0)))) (s := y0 + x0) (by simp only [Int.zero_add, Int.add_zero, Int.one_mul]) p0 g0 ⟨b0.1, Int.le_trans b0.2 (by decide)⟩⟩),
   .inr (.inr (.inl ⟨rfl, nz, wrem (S := (0 + (1 * y1 + (1 * x1 + (1 * q0 + 0))))) (s := y1 + x1 + q0) (by simp only [Int.zero_add, Int.add_zero, Int.one_mul, Int.add_assoc]) p1 h1⟩)),
   .inr (.inl ⟨rfl, nz, wquo (S := (0 + (1 * y1 + (1 * x1 + (1 * q0 + 0))))) (s := y1 + x1 + q0) (by simp only [Int.zero_add, Int.add_zero, Int.one_mul, Int.add_assoc]) p1 g1 ⟨b1.1, Int.le_trans b1.2 (by decide)⟩⟩),
   .inr (.inr (.inl ⟨rfl, nz, wrem (S := (0 + (1 * y2 + (1 * x2 + (1 * q1 + 0))))) (s := y2 + x2 + q1) (by simp only [Int.zero_add, Int.add_zero, Int.one_mul, Int.add_assoc]) p2 h2⟩)),
   .inr (.inl ⟨rfl, nz, wquo (S := (0 + (1 * y2 + (1 * x2 + (1 * q1 + 0))))) (s := y2 + x2 + q1) (by simp only [Int.zero_add, Int.add_zero, Int.one_mul, Int.add_assoc]) p2 g2 ⟨b2.1, Int.le_trans b2.2 (by decide)⟩⟩),
   .inr (.inr (.inl ⟨rfl, nz, wrem (S := (0 + (1 * y3 + (1 * x3 + (1 * q2 + 0))))) (s := y3 + x3 + q2) (by simp only [Int.zero_add, Int.add_zero, Int.one_mul, Int.add_assoc]) p3 h3⟩)),
   .inr (.inl ⟨rfl, nz, wquo (S := (0 + (1 * y3 + (1 * x3 + (1 * q2 + 0))))) (s := y3 + x3 + q2) (by simp only [Int.zero_add, Int.add_zero, Int.one_mul, Int.add_assoc]) p3 g3 ⟨b3.1, Int.le_trans b3.2 (by decide)⟩⟩),
   .inr (.inr (.inl ⟨rfl, nz, wrem (S := (0 + (1 * y4 + (1 * x4 + (1 * q3 + 0))))) (s := y4 + x4 + q3) (by simp only [Int.zero_add, Int.add_zero, Int.one_mul, Int.add_assoc]) p4 h4⟩)),
   .inr (.inl ⟨rfl, nz, wquo (S := (0 + (1 * y4 + (1 * x4 + (1 * q3 + 0))))) (s := y4 + x4 + q3) (by simp only [Int.zero_add, Int.add_zero, Int.one_mul, Int.add_assoc]) p4 g4 ⟨b4.1, Int.le_trans b4.2 (by decide)⟩⟩),
   .inr (.inr (.inl ⟨rfl, nz, wrem (S := (0 + (1 * y5 + (1 * x5 + (1 * q4 + 0))))) (s := y5 + x5 + q4) (by simp only [Int.zero_add, Int.add_zero, Int.one_mul, Int.add_assoc]) p5 h5⟩)),
   .inr (.inl ⟨rfl, nz, wquo (S := (0 + (1 * y5 + (1 * x5 + (1 * q4 + 0))))) (s := y5 + x5 + q4) (by simp only [Int.zero_add, Int.add_zero, Int.one_mul, Int.add_assoc]) p5 g5 ⟨b5.1, Int.le_trans b5.2 (by decide)⟩⟩), trivial⟩
 exact run_val (G := G) progOkB (⟨hbd, trivial, hnl⟩ : Facts G bdA [] nlA) noHooks Tryz.func473 rfl (by rw [hG]; simp [argA, concL, conc, den, mkGh]) addRun (fun φ => by rw [hG]; simp [resA, concL, conc, den, mkGh]) w
noncomputable def natsV (l : List V) : Option (List Nat) := List.rec (motive := fun _ => Option (List Nat)) (some []) (fun v _ ih => match v with
 | .int .i64 (.ofNat x) => (match ih with | some r => some (x :: r) | none => none)
 | _ => none) l
noncomputable def addN (l : List Nat) : Nat → List Nat → List Nat := List.rec (motive := fun _ => Nat → List Nat → List Nat) (fun _ _ => []) (fun x _ ih c m => match m with
 | y :: m => ((c + x + y) % 1073741824) :: ih ((c + x + y) / 1073741824) m
 | [] => []) l
noncomputable def allD (l : List Nat) : Bool := List.rec (motive := fun _ => Bool) true (fun x _ ih => bif Nat.blt x 1073741824 then ih else false) l
noncomputable def cmpN (l : List Nat) : List Nat → Int := List.rec (motive := fun _ => List Nat → Int) (fun _ => 0) (fun x _ ih m => match m with
 | y :: m => bif Nat.blt x y then -1 else bif Nat.blt y x then 1 else ih m
 | [] => 0) l
noncomputable def ofB (_ : Gv.Call) (l : List V) (h : H) : RV := match l with
 | [.int .i64 (.ofNat v)] => bif Nat.blt v 9223372036854775808 then .ok (.agg [.int .i64 (.ofNat (v % 1073741824)), .int .i64 (.ofNat (v / 1073741824 % 1073741824)), .int .i64 (.ofNat (v / 1152921504606846976 % 1073741824)), .int .i64 0, .int .i64 0, .int .i64 0]) h else .bad "Of" 1
 | _ => .bad "Of" 0
noncomputable def addB (_ : Gv.Call) (l : List V) (h : H) : RV := match l with
 | [.agg a, .agg b] => (match natsV a, natsV b with
   | some x, some y => bif Nat.beq x.length 6 && (Nat.beq y.length 6 && (allD x && allD y)) then .ok (.agg ((addN x 0 y).map fun n => .int .i64 (.ofNat n))) h else .bad "Add" 2
   | _, _ => .bad "Add" 1)
 | _ => .bad "Add" 0
noncomputable def cmpB (_ : Gv.Call) (l : List V) (h : H) : RV := match l with
 | [.agg a, .agg b] => (match natsV a, natsV b with
   | some x, some y => bif Nat.beq x.length 6 && Nat.beq y.length 6 then .ok (.int .i64 (cmpN x.reverse y.reverse)) h else .bad "Cmp" 2
   | _, _ => .bad "Cmp" 1)
 | _ => .bad "Cmp" 0
theorem natsV_cons {v : V} {l : List V} : natsV (v :: l) = (match v with | .int .i64 (.ofNat n) => (match natsV l with | some r => some (n :: r) | none => none) | _ => none) := rfl
theorem natsV_conc {G : Gh} {φ : Mp} : ∀ {l : List V} {x : List Nat}, natsV l = some x → concL G φ l = some (x.map fun n : Nat => Value.int .i64 (n : Int))
 | [], x, e => by cases e; rfl
 | v :: l, x, e => by
   rw [natsV_cons] at e
   split at e
   · rename_i n
     cases hr : natsV l with
     | none => rw [hr] at e; cases e
     | some r =>
       rw [hr] at e
       cases e
       exact concL_cons.2 ⟨_, _, by rw [conc]; rfl, natsV_conc hr, rfl⟩
   · cases e
theorem addN_addD : ∀ (x : List Nat) (c : Nat) (d : Int) (y : List Nat), d = c → (addN x c y).map (fun n : Nat => (n : Int)) = addD d (x.map fun n : Nat => (n : Int)) (y.map fun n : Nat => (n : Int))
 | [], _, _, _, _ => rfl
 | _ :: _, _, _, [], _ => rfl
 | x :: l, c, d, y :: m, hd => by
   have h1 : (((c + x + y) % 1073741824 : Nat) : Int) = (d + x + y) % 1073741824 := by omega
   have h2 : (d + x + y) / 1073741824 = (((c + x + y) / 1073741824 : Nat) : Int) := by omega
   have h3 := addN_addD l _ _ m h2
   have h4 : addN (x :: l) c (y :: m) = ((c + x + y) % 1073741824) :: addN l ((c + x + y) / 1073741824) m := rfl
   rw [h4, List.map_cons, h3, h1, List.map_cons, List.map_cons, addD]
theorem mapI (l : List Nat) : (l.map fun n : Nat => Value.int .i64 (n : Int)) = (l.map fun n : Nat => (n : Int)).map (Value.int .i64) := by rw [List.map_map]; rfl
theorem add_six (x0 x1 x2 x3 x4 x5 y0 y1 y2 y3 y4 y5 : Nat) : (addN [x0, x1, x2, x3, x4, x5] 0 [y0, y1, y2, y3, y4, y5]).map (fun n : Nat => (n : Int)) = addD 0 [(x0 : Int), x1, x2, x3, x4, x5] [(y0 : Int), y1, y2, y3, y4, y5] := by
 rw [addN_addD _ 0 0 _ rfl]
 simp only [List.map_cons, List.map_nil]
theorem cmpN_cmpD : ∀ (x y : List Nat), cmpN x y = cmpD (x.map fun n : Nat => (n : Int)) (y.map fun n : Nat => (n : Int))
 | [], _ => rfl
 | _ :: _, [] => rfl
 | x :: l, y :: m => by
   show (bif Nat.blt x y then (-1 : Int) else bif Nat.blt y x then 1 else cmpN l m) = if (x : Int) < y then -1 else if (x : Int) > y then 1 else cmpD _ _
   rw [nblt, nblt, cmpN_cmpD l m]
   by_cases h : x < y
   · rw [if_pos (by omega), decide_eq_true h, cond_true]
   · rw [if_neg (by omega), decide_eq_false h, cond_false]
     by_cases h : y < x
     · rw [if_pos (by omega), decide_eq_true h, cond_true]
     · rw [if_neg (by omega), decide_eq_false h, cond_false]
theorem cmp_six (x0 x1 x2 x3 x4 x5 y0 y1 y2 y3 y4 y5 : Nat) : cmpN [x0, x1, x2, x3, x4, x5].reverse [y0, y1, y2, y3, y4, y5].reverse = cmpD [(x5 : Int), x4, x3, x2, x1, x0] [(y5 : Int), y4, y3, y2, y1, y0] := by
 rw [show [x0, x1, x2, x3, x4, x5].reverse = [x5, x4, x3, x2, x1, x0] from rfl, show [y0, y1, y2, y3, y4, y5].reverse = [y5, y4, y3, y2, y1, y0] from rfl, cmpN_cmpD]
 simp only [List.map_cons, List.map_nil]
theorem allD_lt : ∀ {l : List Nat}, allD l = true → ∀ x ∈ l, x < 1073741824
 | [], _, x, hx => by cases hx
 | y :: l, e, x, hx => by
   have e : (bif Nat.blt y 1073741824 then allD l else false) = true := e
   rw [nblt] at e
   by_cases h : y < 1073741824
   · rw [decide_eq_true h, cond_true] at e
     rcases List.mem_cons.1 hx with rfl | hx
     · exact h
     · exact allD_lt e x hx
   · rw [decide_eq_false h, cond_false] at e
     cases e
theorem six {l : List Nat} (h : l.length = 6) : ∃ a b c d e f, l = [a, b, c, d, e, f] := by
 match l, h with
 | [a, b, c, d, e, f], _ => exact ⟨a, b, c, d, e, f, rfl⟩
theorem agg_conc {G : Gh} {φ : Mp} {l : List V} {x : List Nat} (e : natsV l = some x) : conc G φ (.agg l) = some (.agg (x.map fun n : Nat => Value.int .i64 (n : Int)).toArray) := by
 rw [conc, natsV_conc e]
theorem twoA {G : Gh} {φ : Mp} {a b : List V} {x y : List Nat} {ul : List Value} (ha : natsV a = some x) (hb : natsV b = some y) (hl : concL G φ [.agg a, .agg b] = some ul) : ul = [.agg (x.map fun n : Nat => Value.int .i64 (n : Int)).toArray, .agg (y.map fun n : Nat => Value.int .i64 (n : Int)).toArray] := by
 rw [concL_cons.2 ⟨_, _, agg_conc ha, concL_cons.2 ⟨_, _, agg_conc hb, concL_nil, rfl⟩, rfl⟩] at hl
 exact (Option.some.inj hl).symm
theorem numsL {G : Gh} {φ : Mp} : ∀ (l : List Nat), concL G φ (l.map fun n : Nat => V.int .i64 (.ofNat n)) = some (l.map fun n : Nat => Value.int .i64 (n : Int))
 | [] => concL_nil
 | n :: l => concL_cons.2 ⟨_, _, by rw [conc]; rfl, numsL l, rfl⟩
set_option maxRecDepth 100000 in
theorem ofB_ok {G : Gh} (hm : ¬ G.mono) : HookOk Tryz.prog G 475 ofB := by
 intro call _ l h v h' e φ w ul hl r _
 unfold ofB at e
 split at e
 · rename_i n
   obtain ⟨hc, e⟩ := bif_ok e
   rw [nblt, decide_eq_true_eq] at hc
   cases e
   have hul : ul = [.int .i64 (n : Int)] := by
    simp [concL, conc] at hl
    exact hl.symm
   subst hul
   rw [run_enter Tryz.func475 (prog_name progOkB Tryz.func475) rfl]
   refine (of_ok n hc w).mono ?_
   rintro e2 w2 ⟨rfl, hb⟩
   refine ⟨_, rfl, below_post hm r hb ?_⟩
   have e3 : dg n 3 = 0 := by unfold dg; rw [Nat.div_eq_of_lt (by omega)]
   have e4 : dg n 4 = 0 := by unfold dg; rw [Nat.div_eq_of_lt (by omega)]
   have e5 : dg n 5 = 0 := by unfold dg; rw [Nat.div_eq_of_lt (by omega)]
   unfold bigV
   rw [e3, e4, e5]
   unfold dg
   rw [Nat.pow_zero, Nat.div_one, Nat.pow_one]
   simp [concL, conc]
 · cases e
set_option maxRecDepth 100000 in
theorem addB_ok {G : Gh} (hm : ¬ G.mono) : HookOk Tryz.prog G 473 addB := by
 intro call _ l h v h' e φ w ul hl r _
 unfold addB at e
 split at e
 · rename_i a b
   cases ha : natsV a with
   | none => rw [ha] at e; cases e
   | some x =>
     cases hb : natsV b with
     | none => rw [ha, hb] at e; cases e
     | some y =>
       rw [ha, hb] at e
       dsimp only at e
       obtain ⟨hc, e⟩ := bif_ok e
       simp only [Bool.and_eq_true, nbeq, decide_eq_true_eq] at hc
       obtain ⟨h1, h2, h3, h4⟩ := hc
       cases e
       have := twoA ha hb hl
       subst this
       clear ha hb hl
       have k3 := allD_lt h3
       have k4 := allD_lt h4
       have hs := numsL (G := G) (φ := φ) (addN x 0 y)
       obtain ⟨x0, x1, x2, x3, x4, x5, rfl⟩ := six h1
       obtain ⟨y0, y1, y2, y3, y4, y5, rfl⟩ := six h2
       simp only [List.mem_cons, List.not_mem_nil, or_false, forall_eq_or_imp, forall_eq] at k3 k4
       rw [run_enter Tryz.func473 (prog_name progOkB Tryz.func473) rfl]
       refine (add_ok x0 x1 x2 x3 x4 x5 y0 y1 y2 y3 y4 y5 (by omega) (by omega) (by omega) (by omega) (by omega) (by omega) (by omega) (by omega) (by omega) (by omega) (by omega) (by omega) w).mono ?_
       rintro e2 w2 ⟨rfl, hb⟩
       refine ⟨_, rfl, below_post hm r hb ?_⟩
       rw [conc, hs, mapI, add_six]
 · cases e
set_option maxRecDepth 100000 in
theorem cmpB_ok {G : Gh} (hm : ¬ G.mono) : HookOk Tryz.prog G 474 cmpB := by
 intro call _ l h v h' e φ w ul hl r _
 unfold cmpB at e
 split at e
 · rename_i a b
   cases ha : natsV a with
   | none => rw [ha] at e; cases e
   | some x =>
     cases hb : natsV b with
     | none => rw [ha, hb] at e; cases e
     | some y =>
       rw [ha, hb] at e
       dsimp only at e
       obtain ⟨hc, e⟩ := bif_ok e
       simp only [Bool.and_eq_true, nbeq, decide_eq_true_eq] at hc
       obtain ⟨h1, h2⟩ := hc
       cases e
       have := twoA ha hb hl
       subst this
       clear ha hb hl
       obtain ⟨x0, x1, x2, x3, x4, x5, rfl⟩ := six h1
       obtain ⟨y0, y1, y2, y3, y4, y5, rfl⟩ := six h2
       rw [run_enter Tryz.func474 (prog_name progOkB Tryz.func474) rfl]
       refine (cmp_ok x0 x1 x2 x3 x4 x5 y0 y1 y2 y3 y4 y5 w).mono ?_
       rintro e2 w2 ⟨rfl, hb⟩
       refine ⟨_, rfl, below_post hm r hb ?_⟩
       rw [conc, cmp_six]
 · cases e
end Go.Proofs.YtdfgedemolielaaGreat
/- complinelaw27.alive: what is hooked in. -/
namespace Go.Proofs.YtdfgedemolielaaGreat
open Go Go.RowKit Gv
noncomputable def mapsMd (bd : List (Int × Int)) (ge : List LF) : Nat → Option (Gv.Call → List V → H → RV) := orHk (oneH 477 mdH) (orHk (oneH 386 mdH) (orHk (oneH 544 neH) (orHk (oneH 485 neH) (orHk (oneH 475 ofB) (orHk (oneH 473 addB) (orHk (oneH 474 cmpB) (mapsH bd ge [] nilH)))))))
set_option maxRecDepth 100000 in
theorem mapsMd_ok {G : Gh} {bd : List (Int × Int)} {ge : List LF} (hm : ¬ G.mono) (F : Facts G bd ge []) : HooksOk Tryz.prog G (mapsMd bd ge) := orHk_ok (oneH_ok (mdH_ok hm)) (orHk_ok (oneH_ok (mmH_ok hm)) (orHk_ok (oneH_ok (neR_ok hm)) (orHk_ok (oneH_ok (neM_ok hm)) (orHk_ok (oneH_ok (ofB_ok hm)) (orHk_ok (oneH_ok (addB_ok hm)) (orHk_ok (oneH_ok (cmpB_ok hm)) (mapsH_ok F nilH_ok hm)))))))
end Go.Proofs.YtdfgedemolielaaGreat
