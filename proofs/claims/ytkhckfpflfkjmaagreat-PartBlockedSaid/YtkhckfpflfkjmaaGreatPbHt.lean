/- complinelaw23.PartBlocked: what is hooked in. -/
import Derived.Test.YtkhckfpflfkjmaaGreatAlive23
import Derived.Test.YtkhckfpflfkjmaaGreatPaid
import Derived.Test.YtkhckfpflfkjmaaGreatOwes
import Derived.Test.YtkhckfpflfkjmaaGreatPbS
import Derived.Test.YtkhckfpflfkjmaaGreatPbM
namespace Go.Proofs.YtkhckfpflfkjmaaGreat
open Go Go.RowKit Gv Gv.Lt
noncomputable def pbX : V := a [i 1, s 1 0x50, s 2 0x4150, s 2 0x4250, s 1 0x51, b true, s 1 0x58, s 3 0x525545, s 0 0, y 0 [(0, 1)], y 0 [(1, 1)], i 0, i 0, i 2, b true, b false, b false, i 1, i 2, i 0, i 0]
noncomputable def pbT : List HT := [⟨98, [pbX, .sint .i64 0 [(3,1)]], .sint .i64 0 [(4,1)]⟩, ⟨98, [pbX, .int .i64 0], .sint .i64 0 [(5,1)]⟩, ⟨99, [pbX, .int .i64 0], .tuple [.int .i64 0, .int .i64 0]⟩, ⟨99, [pbX, .sint .i64 0 [(4,1)]], .tuple [.sint .i64 0 [(6,1)], .int .i64 0]⟩, ⟨99, [pbX, .sint .i64 0 [(5,1)]], .tuple [.int .i64 0, .int .i64 0]⟩, ⟨99, [pbX, .sint .i64 0 [(2,1)]], .tuple [.sint .i64 0 [(7,1)], .int .i64 0]⟩, ⟨99, [pbX, .sint .i64 0 [(0,1)]], .tuple [.sint .i64 0 [(1,1)], .int .i64 0]⟩, ⟨57, [moX, .sint .i64 0 [(0,1)], .sint .i64 0 [(4,1)]], .sint .i64 0 [(4,1)]⟩, ⟨57, [moX, .sint .i64 0 [(0,1)], .sint .i64 0 [(5,1)]], .sint .i64 0 [(5,1)]⟩, ⟨57, [moX, .sint .i64 0 [(0,1)], .sint .i64 0 [(2,1)]], .sint .i64 0 [(2,1)]⟩, ⟨57, [moX, .sint .i64 0 [(0,1)], .int .i64 0], .int .i64 0⟩, ⟨16, [], .bool true⟩]
def pbXv (Q A : Int) : Value := .agg #[.int .i64 1, .string ⟨(strL 1 80).toArray⟩, .string ⟨(strL 2 16720).toArray⟩, .string ⟨(strL 2 16976).toArray⟩, .string ⟨(strL 1 81).toArray⟩, .bool true, .string ⟨(strL 1 88).toArray⟩, .string ⟨(strL 3 5395781).toArray⟩, .string ⟨(strL 0 0).toArray⟩, .int .i64 Q, .int .i64 A, .int .i64 0, .int .i64 0, .int .i64 2, .bool true, .bool false, .bool false, .int .i64 1, .int .i64 2, .int .i64 0, .int .i64 0]
theorem pbX_conc {G : Gh} {Q A : Int} (s0 : G.σ 0 = Q) (s1 : G.σ 1 = A) (φ : Mp) : conc G φ pbX = some (pbXv Q A) := by
  simp [pbX, pbXv, Lt.a, Lt.i, Lt.s, Lt.b, Lt.y, conc, concL, den, s0, s1]
theorem pbLe {Q A m : Int} (hQ : 1 ≤ Q ∧ Q ≤ 1000) (hA : 0 ≤ A ∧ A ≤ 1000) (hm : 0 ≤ m ∧ m ≤ Q) : 0 ≤ A * m / Q ∧ A * m / Q ≤ A :=
  ⟨Int.ediv_nonneg (Int.mul_nonneg hA.1 (by omega)) (by omega), Int.ediv_le_of_le_mul (by omega) (Int.mul_le_mul_of_nonneg_left hm.2 hA.1)⟩
theorem pbOw {Q A m s : Int} (hQ : 1 ≤ Q ∧ Q ≤ 1000) (hA : 0 ≤ A ∧ A ≤ 1000) (hm : 0 ≤ m ∧ m ≤ Q) (hs : A * m / Q = s) (w : World) : Calls Tryz.prog 99 #[pbXv Q A, .int .i64 m] w fun e w' => e = .returned (.tuple #[.int .i64 s, .int .i64 0]) ∧ Below w.heap.size w w' := by
  have hle := pbLe hQ hA hm
  rw [hs] at hle
  have h := owes_ok (.int .i64 1) (.string ⟨(strL 1 80).toArray⟩) (.string ⟨(strL 2 16720).toArray⟩) (.string ⟨(strL 2 16976).toArray⟩) (.string ⟨(strL 1 81).toArray⟩) (.bool true) (.string ⟨(strL 1 88).toArray⟩) (.string ⟨(strL 3 5395781).toArray⟩) (.string ⟨(strL 0 0).toArray⟩) (.int .i64 0) (.int .i64 0) (.int .i64 2) (.bool true) (.bool false) (.bool false) (.int .i64 1) (.int .i64 2) rfl Q A 0 0 m s (by omega) (by omega) (by omega) (by omega) (by omega) (by rw [Int.add_zero]; exact hs) w
  rw [Int.sub_zero] at h
  exact h
theorem pbPaid {Q A M V : Int} (hQ : 1 ≤ Q ∧ Q ≤ 1000) (hA : 0 ≤ A ∧ A ≤ 1000) (hM : 0 ≤ M ∧ M ≤ 1000) (hV : 0 ≤ V ∧ V ≤ Q) (down : ∀ m : Int, 1 ≤ m → m ≤ V → A * m / Q ≤ M) (up : ∀ m : Int, V < m → m ≤ Q → M < A * m / Q) (w : World) : Calls Tryz.prog 98 #[pbXv Q A, .int .i64 M] w fun e w' => e = .returned (.int .i64 V) ∧ Below w.heap.size w w' :=
  paid_ok (.int .i64 1) (.string ⟨(strL 1 80).toArray⟩) (.string ⟨(strL 2 16720).toArray⟩) (.string ⟨(strL 2 16976).toArray⟩) (.string ⟨(strL 1 81).toArray⟩) (.bool true) (.string ⟨(strL 1 88).toArray⟩) (.string ⟨(strL 3 5395781).toArray⟩) (.string ⟨(strL 0 0).toArray⟩) (.int .i64 A) (.int .i64 0) (.int .i64 0) (.int .i64 2) (.bool true) (.bool false) (.bool false) (.int .i64 1) (.int .i64 2) (.int .i64 0) rfl Q 0 M V (fun m => A * m / Q) (by omega) (by omega) (by omega) (by omega) (fun m h1 h2 => ⟨by have := pbLe hQ hA (m := m) (by omega); show 0 ≤ A * m / Q ∧ A * m / Q ≤ _; omega, fun w => pbOw hQ hA (by omega) rfl w⟩) down (fun m h1 h2 => up m h1 (by omega)) w
set_option maxRecDepth 100000 in
theorem pbT_ok {G : Gh} (hm : ¬ G.mono) {Q A t c V Z sV sT : Int} (s0 : G.σ 0 = Q) (s1 : G.σ 1 = A) (s2 : G.σ 2 = t) (s3 : G.σ 3 = c) (s4 : G.σ 4 = V) (s5 : G.σ 5 = Z) (s6 : G.σ 6 = sV) (s7 : G.σ 7 = sT) (hQ : 1 ≤ Q ∧ Q ≤ 1000) (hA : 0 ≤ A ∧ A ≤ 1000) (ht : 0 ≤ t ∧ t ≤ Q) (hc : 0 ≤ c ∧ c ≤ 1000) (hV : 0 ≤ V ∧ V ≤ Q) (hZ : 0 ≤ Z ∧ Z ≤ Q)
    (dV : ∀ m : Int, 1 ≤ m → m ≤ V → A * m / Q ≤ c) (uV : ∀ m : Int, V < m → m ≤ Q → c < A * m / Q) (dZ : ∀ m : Int, 1 ≤ m → m ≤ Z → A * m / Q ≤ 0) (uZ : ∀ m : Int, Z < m → m ≤ Q → 0 < A * m / Q) (h6 : A * V / Q = sV) (h7 : A * t / Q = sT) : HooksOk Tryz.prog G (hkT pbT) := hkT_ok progOk pbT (fun t' ht' => by
  simp only [pbT, List.mem_cons, List.not_mem_nil, or_false] at ht'
  have z0 : A * 0 / Q = 0 := by simp
  have zZ : A * Z / Q = 0 := by
    have h1 := pbLe hQ hA hZ
    by_cases h : 1 ≤ Z
    · have := dZ Z h (Int.le_refl _)
      omega
    · rw [show Z = 0 from by omega]; exact z0
  have i0 : ∀ φ, conc G φ (.int .i64 0) = some (.int .i64 0) := fun φ => by rw [conc]
  have iv : ∀ (k : Nat) (x : Int), G.σ k = x → ∀ φ, conc G φ (.sint .i64 0 [(k,1)]) = some (.int .i64 x) := fun k x hx φ => by simp [conc, den, hx]
  have tu : ∀ (v : Gv.V) (x : Int), (∀ φ, conc G φ v = some (.int .i64 x)) → ∀ φ, conc G φ (.tuple [v, .int .i64 0]) = some (.tuple #[.int .i64 x, .int .i64 0]) := fun v x hx φ => by
    rw [conc, concL_cons.2 ⟨_, _, hx φ, concL_cons.2 ⟨_, _, i0 φ, concL_nil, rfl⟩, rfl⟩]
  have ar : ∀ (v : Gv.V) (x : Int), (∀ φ, conc G φ v = some (.int .i64 x)) → ∀ φ, concL G φ [pbX, v] = some [pbXv Q A, .int .i64 x] := fun v x hx φ => concL_cons.2 ⟨_, _, pbX_conc s0 s1 φ, concL_cons.2 ⟨_, _, hx φ, concL_nil, rfl⟩, rfl⟩
  have mo : ∀ (v : Gv.V) (x : Int), (∀ φ, conc G φ v = some (.int .i64 x)) → (0 ≤ x ∧ x ≤ Q) → HTOk Tryz.prog G ⟨57, [moX, .sint .i64 0 [(0,1)], v], v⟩ := fun v x hx hr => HTOk.of Tryz.func57 rfl (fun φ => concL_cons.2 ⟨_, _, moX_conc G φ, concL_cons.2 ⟨_, _, iv 0 Q s0 φ, concL_cons.2 ⟨_, _, hx φ, concL_nil, rfl⟩, rfl⟩, rfl⟩) hx (fun w => most_ok (by omega) hr w)
  rcases ht' with rfl | rfl | rfl | rfl | rfl | rfl | rfl | rfl | rfl | rfl | rfl | rfl
  · exact HTOk.of Tryz.func98 rfl (ar _ _ (iv 3 c s3)) (iv 4 V s4) (fun w => pbPaid hQ hA hc hV dV uV w)
  · exact HTOk.of Tryz.func98 rfl (ar _ _ i0) (iv 5 Z s5) (fun w => pbPaid hQ hA (by omega) hZ dZ uZ w)
  · exact HTOk.of Tryz.func99 rfl (ar _ _ i0) (tu _ _ i0) (fun w => pbOw hQ hA (by omega) z0 w)
  · exact HTOk.of Tryz.func99 rfl (ar _ _ (iv 4 V s4)) (tu _ _ (iv 6 sV s6)) (fun w => pbOw hQ hA hV h6 w)
  · exact HTOk.of Tryz.func99 rfl (ar _ _ (iv 5 Z s5)) (tu _ _ i0) (fun w => pbOw hQ hA hZ zZ w)
  · exact HTOk.of Tryz.func99 rfl (ar _ _ (iv 2 t s2)) (tu _ _ (iv 7 sT s7)) (fun w => pbOw hQ hA ht h7 w)
  · exact HTOk.of Tryz.func99 rfl (ar _ _ (iv 0 Q s0)) (tu _ _ (iv 1 A s1)) (fun w => pbOw hQ hA (by omega) (Int.mul_ediv_cancel _ (by omega)) w)
  · exact mo _ _ (iv 4 V s4) hV
  · exact mo _ _ (iv 5 Z s5) hZ
  · exact mo _ _ (iv 2 t s2) ht
  · exact mo _ _ i0 (by omega)
  · exact aliveOk16 G) hm
noncomputable def pbA : Nat → Option (Gv.Call → List V → H → RV) := hkT [⟨16, [], .bool true⟩]
set_option maxRecDepth 100000 in
theorem pbA_ok (e : List Value) (s : List Int) (he : e.all (·.oneCell') = true) : HooksOk Tryz.prog (mkGh e s he) pbA := hkT_ok progOk _ fun t ht => by
  simp at ht
  subst ht
  exact aliveOk16 _
theorem pb_l1 {G : Gh} {st : Nat} {fin : Bool} {Good μ} (h : LSem Tryz.prog (pbS1 st fin) G Good μ) : LkOk Tryz.prog G 10 Tryz.f5.ntmps (pbL1 st fin) (blocksC ((Tryz.f5.body).getD .skip)) := lk_one (by kernel_rfl) (loop_piece h)
theorem pb_l2 {G : Gh} {st : Nat} {Good μ Good' μ'} (h : LSem Tryz.prog (pbS1 st false) G Good μ) (h' : LSem Tryz.prog (pbS2 st true) G Good' μ') : LkOk Tryz.prog G 10 Tryz.f5.ntmps (pbL2 st) (blocksC ((Tryz.f5.body).getD .skip)) := lk_two (by kernel_rfl) (by kernel_rfl) (loop_piece h) (loop_piece h')
end Go.Proofs.YtkhckfpflfkjmaaGreat
