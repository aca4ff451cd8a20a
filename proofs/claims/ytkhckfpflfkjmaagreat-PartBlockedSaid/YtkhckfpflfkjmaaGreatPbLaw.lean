/- complinelaw23.PartBlocked returns true, for every input. -/
import Derived.Test.YtkhckfpflfkjmaaGreatPbO
import Derived.Test.YtkhckfpflfkjmaaGreatPbIn
namespace Go.Proofs.YtkhckfpflfkjmaaGreat
open Go Go.RowKit Gv
section
variable {Q A c V Z : Int} (hQ : 1 ≤ Q ∧ Q ≤ 1000) (hA : 0 ≤ A ∧ A ≤ 1000) (hc : 0 ≤ c ∧ c ≤ 1000) (hV : 0 ≤ V ∧ V ≤ Q) (hZ : 0 ≤ Z ∧ Z ≤ Q)
  (dV : ∀ m : Int, 1 ≤ m → m ≤ V → A * m / Q ≤ c) (uV : ∀ m : Int, V < m → m ≤ Q → c < A * m / Q) (dZ : ∀ m : Int, 1 ≤ m → m ≤ Z → A * m / Q ≤ 0) (uZ : ∀ m : Int, Z < m → m ≤ Q → 0 < A * m / Q)
include hQ hA hc hV hZ dV uV dZ uZ
set_option maxRecDepth 100000 in
set_option maxHeartbeats 2000000 in
theorem pb_root0 (x : Int) (hx : 0 ≤ x ∧ x ≤ 1000) (hx2 : V < x) (hc2 : 1 ≤ c) (w : World) : Calls Tryz.prog 5 #[.int .i64 Q, .int .i64 A, .int .i64 x, .int .i64 c, .bool false, .bool false, .bool true] w (TrueBelow w) := by
  have ht : (0 : Int) ≤ 0 ∧ 0 ≤ Q := by omega
  have hle := pbLe hQ hA hV
  have hlt := pbLe hQ hA ht
  have hI : bdOk (mkGh [] [Q, A, 0, c, V, Z, A * V / Q, A * (0) / Q, V, x] rfl).σ pbI 0 := ⟨hQ, hA, ⟨ht.1, by show 0 ≤ _; omega⟩, hc, ⟨hV.1, by show V ≤ _; omega⟩, ⟨hZ.1, by show Z ≤ _; omega⟩, ⟨hle.1, by show A * V / Q ≤ _; omega⟩, ⟨hlt.1, by show A * (0) / Q ≤ _; omega⟩, (by show (0 : Int) ≤ V ∧ V ≤ 1000; omega), (by show (0 : Int) ≤ x ∧ x ≤ 1000; omega), trivial⟩
  exact pb_in0 Q A (0) c V Z (A * V / Q) (A * (0) / Q) (V) (x) w (fun _ _ => trivial) (fun G1 g => pbT_ok (by rw [g.mono]; exact fun h => h) (g.σ 0 (by decide)) (g.σ 1 (by decide)) (g.σ 2 (by decide)) (g.σ 3 (by decide)) (g.σ 4 (by decide)) (g.σ 5 (by decide)) (g.σ 6 (by decide)) (g.σ 7 (by decide)) hQ hA ht hc hV hZ dV uV dZ uZ rfl rfl) (pb_l1 (pb_sem1 hI 9 (.inr rfl) true V hV dV uV (fun _ => by show (_ ≤ _ → _ = _) ∧ (_ ≤ _ → _ = _); simp [mkGh]; try omega))) hI (by simp [geOk, den, mkGh]; try omega)
set_option maxRecDepth 100000 in
set_option maxHeartbeats 2000000 in
theorem pb_root1 (x : Int) (hx : 0 ≤ x ∧ x ≤ 1000) (hx2 : V < x) (hc2 : c = 0) (hc3 : V = Z) (w : World) : Calls Tryz.prog 5 #[.int .i64 Q, .int .i64 A, .int .i64 x, .int .i64 c, .bool false, .bool false, .bool true] w (TrueBelow w) := by
  have ht : (0 : Int) ≤ 0 ∧ 0 ≤ Q := by omega
  have hle := pbLe hQ hA hV
  have hlt := pbLe hQ hA ht
  have hI : bdOk (mkGh [] [Q, A, 0, c, V, Z, A * V / Q, A * (0) / Q, V, x] rfl).σ pbI 0 := ⟨hQ, hA, ⟨ht.1, by show 0 ≤ _; omega⟩, hc, ⟨hV.1, by show V ≤ _; omega⟩, ⟨hZ.1, by show Z ≤ _; omega⟩, ⟨hle.1, by show A * V / Q ≤ _; omega⟩, ⟨hlt.1, by show A * (0) / Q ≤ _; omega⟩, (by show (0 : Int) ≤ V ∧ V ≤ 1000; omega), (by show (0 : Int) ≤ x ∧ x ≤ 1000; omega), trivial⟩
  exact pb_in1 Q A (0) c V Z (A * V / Q) (A * (0) / Q) (V) (x) w (fun _ _ => trivial) (fun G1 g => pbT_ok (by rw [g.mono]; exact fun h => h) (g.σ 0 (by decide)) (g.σ 1 (by decide)) (g.σ 2 (by decide)) (g.σ 3 (by decide)) (g.σ 4 (by decide)) (g.σ 5 (by decide)) (g.σ 6 (by decide)) (g.σ 7 (by decide)) hQ hA ht hc hV hZ dV uV dZ uZ rfl rfl) (pb_l1 (pb_sem1 hI 9 (.inr rfl) true V hV dV uV (fun _ => by show (_ ≤ _ → _ = _) ∧ (_ ≤ _ → _ = _); simp [mkGh]; try omega))) hI (by simp [geOk, den, mkGh]; try omega)
set_option maxRecDepth 100000 in
set_option maxHeartbeats 2000000 in
theorem pb_root2 (x : Int) (hx : 0 ≤ x ∧ x ≤ 1000) (hx2 : x ≤ V) (hc2 : 1 ≤ c) (w : World) : Calls Tryz.prog 5 #[.int .i64 Q, .int .i64 A, .int .i64 x, .int .i64 c, .bool false, .bool false, .bool true] w (TrueBelow w) := by
  have ht : (0 : Int) ≤ x ∧ x ≤ Q := by omega
  have hle := pbLe hQ hA hV
  have hlt := pbLe hQ hA ht
  have hI : bdOk (mkGh [] [Q, A, x, c, V, Z, A * V / Q, A * (x) / Q, x, 0] rfl).σ pbI 0 := ⟨hQ, hA, ⟨ht.1, by show x ≤ _; omega⟩, hc, ⟨hV.1, by show V ≤ _; omega⟩, ⟨hZ.1, by show Z ≤ _; omega⟩, ⟨hle.1, by show A * V / Q ≤ _; omega⟩, ⟨hlt.1, by show A * (x) / Q ≤ _; omega⟩, (by show (0 : Int) ≤ x ∧ x ≤ 1000; omega), (by show (0 : Int) ≤ 0 ∧ 0 ≤ 1000; omega), trivial⟩
  exact pb_in2 Q A (x) c V Z (A * V / Q) (A * (x) / Q) (x) (0) w (fun _ _ => trivial) (fun G1 g => pbT_ok (by rw [g.mono]; exact fun h => h) (g.σ 0 (by decide)) (g.σ 1 (by decide)) (g.σ 2 (by decide)) (g.σ 3 (by decide)) (g.σ 4 (by decide)) (g.σ 5 (by decide)) (g.σ 6 (by decide)) (g.σ 7 (by decide)) hQ hA ht hc hV hZ dV uV dZ uZ rfl rfl) (pb_l1 (pb_sem1 hI 2 (.inl rfl) true V hV dV uV (fun _ => by show (_ ≤ _ → _ = _) ∧ (_ ≤ _ → _ = _); simp [mkGh]; try omega))) hI (by simp [geOk, den, mkGh]; try omega)
set_option maxRecDepth 100000 in
set_option maxHeartbeats 2000000 in
theorem pb_root3 (x : Int) (hx : 0 ≤ x ∧ x ≤ 1000) (hx2 : x ≤ V) (hc2 : c = 0) (hc3 : V = Z) (w : World) : Calls Tryz.prog 5 #[.int .i64 Q, .int .i64 A, .int .i64 x, .int .i64 c, .bool false, .bool false, .bool true] w (TrueBelow w) := by
  have ht : (0 : Int) ≤ x ∧ x ≤ Q := by omega
  have hle := pbLe hQ hA hV
  have hlt := pbLe hQ hA ht
  have hI : bdOk (mkGh [] [Q, A, x, c, V, Z, A * V / Q, A * (x) / Q, x, 0] rfl).σ pbI 0 := ⟨hQ, hA, ⟨ht.1, by show x ≤ _; omega⟩, hc, ⟨hV.1, by show V ≤ _; omega⟩, ⟨hZ.1, by show Z ≤ _; omega⟩, ⟨hle.1, by show A * V / Q ≤ _; omega⟩, ⟨hlt.1, by show A * (x) / Q ≤ _; omega⟩, (by show (0 : Int) ≤ x ∧ x ≤ 1000; omega), (by show (0 : Int) ≤ 0 ∧ 0 ≤ 1000; omega), trivial⟩
  exact pb_in3 Q A (x) c V Z (A * V / Q) (A * (x) / Q) (x) (0) w (fun _ _ => trivial) (fun G1 g => pbT_ok (by rw [g.mono]; exact fun h => h) (g.σ 0 (by decide)) (g.σ 1 (by decide)) (g.σ 2 (by decide)) (g.σ 3 (by decide)) (g.σ 4 (by decide)) (g.σ 5 (by decide)) (g.σ 6 (by decide)) (g.σ 7 (by decide)) hQ hA ht hc hV hZ dV uV dZ uZ rfl rfl) (pb_l1 (pb_sem1 hI 2 (.inl rfl) true V hV dV uV (fun _ => by show (_ ≤ _ → _ = _) ∧ (_ ≤ _ → _ = _); simp [mkGh]; try omega))) hI (by simp [geOk, den, mkGh]; try omega)
set_option maxRecDepth 100000 in
set_option maxHeartbeats 2000000 in
theorem pb_root4 (x : Int) (hx : 0 ≤ x ∧ x ≤ 1000) (hx2 : Z < x) (w : World) : Calls Tryz.prog 5 #[.int .i64 Q, .int .i64 A, .int .i64 x, .int .i64 c, .bool false, .bool true, .bool true] w (TrueBelow w) := by
  have ht : (0 : Int) ≤ 0 ∧ 0 ≤ Q := by omega
  have hle := pbLe hQ hA hV
  have hlt := pbLe hQ hA ht
  have hI : bdOk (mkGh [] [Q, A, 0, c, V, Z, A * V / Q, A * (0) / Q, Z, x] rfl).σ pbI 0 := ⟨hQ, hA, ⟨ht.1, by show 0 ≤ _; omega⟩, hc, ⟨hV.1, by show V ≤ _; omega⟩, ⟨hZ.1, by show Z ≤ _; omega⟩, ⟨hle.1, by show A * V / Q ≤ _; omega⟩, ⟨hlt.1, by show A * (0) / Q ≤ _; omega⟩, (by show (0 : Int) ≤ Z ∧ Z ≤ 1000; omega), (by show (0 : Int) ≤ x ∧ x ≤ 1000; omega), trivial⟩
  exact pb_in4 Q A (0) c V Z (A * V / Q) (A * (0) / Q) (Z) (x) w (fun _ _ => trivial) (fun G1 g => pbT_ok (by rw [g.mono]; exact fun h => h) (g.σ 0 (by decide)) (g.σ 1 (by decide)) (g.σ 2 (by decide)) (g.σ 3 (by decide)) (g.σ 4 (by decide)) (g.σ 5 (by decide)) (g.σ 6 (by decide)) (g.σ 7 (by decide)) hQ hA ht hc hV hZ dV uV dZ uZ rfl rfl) (pb_l2 (pb_sem1 hI 9 (.inr rfl) false V hV dV uV (fun h => by cases h)) (pb_sem2 hI 9 (.inr rfl) true Z hZ dZ uZ (fun _ => by show (_ ≤ _ → _ = _) ∧ (_ ≤ _ → _ = _); simp [mkGh]; try omega))) hI (by simp [geOk, den, mkGh]; try omega)
set_option maxRecDepth 100000 in
set_option maxHeartbeats 2000000 in
theorem pb_root5 (x : Int) (hx : 0 ≤ x ∧ x ≤ 1000) (hx2 : x ≤ Z) (w : World) : Calls Tryz.prog 5 #[.int .i64 Q, .int .i64 A, .int .i64 x, .int .i64 c, .bool false, .bool true, .bool true] w (TrueBelow w) := by
  have ht : (0 : Int) ≤ x ∧ x ≤ Q := by omega
  have hle := pbLe hQ hA hV
  have hlt := pbLe hQ hA ht
  have hI : bdOk (mkGh [] [Q, A, x, c, V, Z, A * V / Q, A * (x) / Q, x, 0] rfl).σ pbI 0 := ⟨hQ, hA, ⟨ht.1, by show x ≤ _; omega⟩, hc, ⟨hV.1, by show V ≤ _; omega⟩, ⟨hZ.1, by show Z ≤ _; omega⟩, ⟨hle.1, by show A * V / Q ≤ _; omega⟩, ⟨hlt.1, by show A * (x) / Q ≤ _; omega⟩, (by show (0 : Int) ≤ x ∧ x ≤ 1000; omega), (by show (0 : Int) ≤ 0 ∧ 0 ≤ 1000; omega), trivial⟩
  exact pb_in5 Q A (x) c V Z (A * V / Q) (A * (x) / Q) (x) (0) w (fun _ _ => trivial) (fun G1 g => pbT_ok (by rw [g.mono]; exact fun h => h) (g.σ 0 (by decide)) (g.σ 1 (by decide)) (g.σ 2 (by decide)) (g.σ 3 (by decide)) (g.σ 4 (by decide)) (g.σ 5 (by decide)) (g.σ 6 (by decide)) (g.σ 7 (by decide)) hQ hA ht hc hV hZ dV uV dZ uZ rfl rfl) (pb_l2 (pb_sem1 hI 2 (.inl rfl) false V hV dV uV (fun h => by cases h)) (pb_sem2 hI 2 (.inl rfl) true Z hZ dZ uZ (fun _ => by show (_ ≤ _ → _ = _) ∧ (_ ≤ _ → _ = _); simp [mkGh]; try omega))) hI (by simp [geOk, den, mkGh]; try omega)
set_option maxRecDepth 100000 in
set_option maxHeartbeats 2000000 in
theorem pb_root6 (x : Int) (hx : 0 ≤ x ∧ x ≤ 1000) (w : World) : Calls Tryz.prog 5 #[.int .i64 Q, .int .i64 A, .int .i64 x, .int .i64 c, .bool true, .bool false, .bool true] w (TrueBelow w) := by
  have ht : (0 : Int) ≤ 0 ∧ 0 ≤ Q := by omega
  have hle := pbLe hQ hA hV
  have hlt := pbLe hQ hA ht
  have hI : bdOk (mkGh [] [Q, A, 0, c, V, Z, A * V / Q, A * (0) / Q, 0, x] rfl).σ pbI 0 := ⟨hQ, hA, ⟨ht.1, by show 0 ≤ _; omega⟩, hc, ⟨hV.1, by show V ≤ _; omega⟩, ⟨hZ.1, by show Z ≤ _; omega⟩, ⟨hle.1, by show A * V / Q ≤ _; omega⟩, ⟨hlt.1, by show A * (0) / Q ≤ _; omega⟩, (by show (0 : Int) ≤ 0 ∧ 0 ≤ 1000; omega), (by show (0 : Int) ≤ x ∧ x ≤ 1000; omega), trivial⟩
  exact pb_in6 Q A (0) c V Z (A * V / Q) (A * (0) / Q) (0) (x) w (fun _ _ => trivial) (fun G1 g => pbT_ok (by rw [g.mono]; exact fun h => h) (g.σ 0 (by decide)) (g.σ 1 (by decide)) (g.σ 2 (by decide)) (g.σ 3 (by decide)) (g.σ 4 (by decide)) (g.σ 5 (by decide)) (g.σ 6 (by decide)) (g.σ 7 (by decide)) hQ hA ht hc hV hZ dV uV dZ uZ rfl rfl) (pb_l1 (pb_sem1 hI 9 (.inr rfl) false V hV dV uV (fun h => by cases h))) hI (by simp [geOk, den, mkGh]; try omega)
set_option maxRecDepth 100000 in
set_option maxHeartbeats 2000000 in
theorem pb_root7 (x : Int) (hx : 0 ≤ x ∧ x ≤ 1000) (w : World) : Calls Tryz.prog 5 #[.int .i64 Q, .int .i64 A, .int .i64 x, .int .i64 c, .bool true, .bool true, .bool true] w (TrueBelow w) := by
  have ht : (0 : Int) ≤ 0 ∧ 0 ≤ Q := by omega
  have hle := pbLe hQ hA hV
  have hlt := pbLe hQ hA ht
  have hI : bdOk (mkGh [] [Q, A, 0, c, V, Z, A * V / Q, A * (0) / Q, 0, x] rfl).σ pbI 0 := ⟨hQ, hA, ⟨ht.1, by show 0 ≤ _; omega⟩, hc, ⟨hV.1, by show V ≤ _; omega⟩, ⟨hZ.1, by show Z ≤ _; omega⟩, ⟨hle.1, by show A * V / Q ≤ _; omega⟩, ⟨hlt.1, by show A * (0) / Q ≤ _; omega⟩, (by show (0 : Int) ≤ 0 ∧ 0 ≤ 1000; omega), (by show (0 : Int) ≤ x ∧ x ≤ 1000; omega), trivial⟩
  exact pb_in7 Q A (0) c V Z (A * V / Q) (A * (0) / Q) (0) (x) w (fun _ _ => trivial) (fun G1 g => pbT_ok (by rw [g.mono]; exact fun h => h) (g.σ 0 (by decide)) (g.σ 1 (by decide)) (g.σ 2 (by decide)) (g.σ 3 (by decide)) (g.σ 4 (by decide)) (g.σ 5 (by decide)) (g.σ 6 (by decide)) (g.σ 7 (by decide)) hQ hA ht hc hV hZ dV uV dZ uZ rfl rfl) (pb_l1 (pb_sem1 hI 9 (.inr rfl) false V hV dV uV (fun h => by cases h))) hI (by simp [geOk, den, mkGh]; try omega)
set_option maxRecDepth 100000 in
set_option maxHeartbeats 2000000 in
theorem pb_root8 (x : Int) (hx : 0 ≤ x ∧ x ≤ 1000) (w : World) : Calls Tryz.prog 5 #[.int .i64 Q, .int .i64 A, .int .i64 x, .int .i64 c, .bool false, .bool false, .bool false] w (TrueBelow w) := by
  have ht : (0 : Int) ≤ 0 ∧ 0 ≤ Q := by omega
  have hle := pbLe hQ hA hV
  have hlt := pbLe hQ hA ht
  have hI : bdOk (mkGh [] [Q, A, 0, c, V, Z, A * V / Q, A * (0) / Q, 0, x] rfl).σ pbI 0 := ⟨hQ, hA, ⟨ht.1, by show 0 ≤ _; omega⟩, hc, ⟨hV.1, by show V ≤ _; omega⟩, ⟨hZ.1, by show Z ≤ _; omega⟩, ⟨hle.1, by show A * V / Q ≤ _; omega⟩, ⟨hlt.1, by show A * (0) / Q ≤ _; omega⟩, (by show (0 : Int) ≤ 0 ∧ 0 ≤ 1000; omega), (by show (0 : Int) ≤ x ∧ x ≤ 1000; omega), trivial⟩
  exact pb_in8 Q A (0) c V Z (A * V / Q) (A * (0) / Q) (0) (x) w trivial (pbT_ok (fun h => h) rfl rfl rfl rfl rfl rfl rfl rfl hQ hA ht hc hV hZ dV uV dZ uZ rfl rfl) hI trivial
set_option maxRecDepth 100000 in
set_option maxHeartbeats 2000000 in
theorem pb_root9 (x : Int) (hx : 0 ≤ x ∧ x ≤ 1000) (w : World) : Calls Tryz.prog 5 #[.int .i64 Q, .int .i64 A, .int .i64 x, .int .i64 c, .bool false, .bool true, .bool false] w (TrueBelow w) := by
  have ht : (0 : Int) ≤ 0 ∧ 0 ≤ Q := by omega
  have hle := pbLe hQ hA hV
  have hlt := pbLe hQ hA ht
  have hI : bdOk (mkGh [] [Q, A, 0, c, V, Z, A * V / Q, A * (0) / Q, 0, x] rfl).σ pbI 0 := ⟨hQ, hA, ⟨ht.1, by show 0 ≤ _; omega⟩, hc, ⟨hV.1, by show V ≤ _; omega⟩, ⟨hZ.1, by show Z ≤ _; omega⟩, ⟨hle.1, by show A * V / Q ≤ _; omega⟩, ⟨hlt.1, by show A * (0) / Q ≤ _; omega⟩, (by show (0 : Int) ≤ 0 ∧ 0 ≤ 1000; omega), (by show (0 : Int) ≤ x ∧ x ≤ 1000; omega), trivial⟩
  exact pb_in9 Q A (0) c V Z (A * V / Q) (A * (0) / Q) (0) (x) w trivial (pbT_ok (fun h => h) rfl rfl rfl rfl rfl rfl rfl rfl hQ hA ht hc hV hZ dV uV dZ uZ rfl rfl) hI trivial
set_option maxRecDepth 100000 in
set_option maxHeartbeats 2000000 in
theorem pb_root10 (x : Int) (hx : 0 ≤ x ∧ x ≤ 1000) (w : World) : Calls Tryz.prog 5 #[.int .i64 Q, .int .i64 A, .int .i64 x, .int .i64 c, .bool true, .bool false, .bool false] w (TrueBelow w) := by
  have ht : (0 : Int) ≤ 0 ∧ 0 ≤ Q := by omega
  have hle := pbLe hQ hA hV
  have hlt := pbLe hQ hA ht
  have hI : bdOk (mkGh [] [Q, A, 0, c, V, Z, A * V / Q, A * (0) / Q, 0, x] rfl).σ pbI 0 := ⟨hQ, hA, ⟨ht.1, by show 0 ≤ _; omega⟩, hc, ⟨hV.1, by show V ≤ _; omega⟩, ⟨hZ.1, by show Z ≤ _; omega⟩, ⟨hle.1, by show A * V / Q ≤ _; omega⟩, ⟨hlt.1, by show A * (0) / Q ≤ _; omega⟩, (by show (0 : Int) ≤ 0 ∧ 0 ≤ 1000; omega), (by show (0 : Int) ≤ x ∧ x ≤ 1000; omega), trivial⟩
  exact pb_in10 Q A (0) c V Z (A * V / Q) (A * (0) / Q) (0) (x) w trivial (pbT_ok (fun h => h) rfl rfl rfl rfl rfl rfl rfl rfl hQ hA ht hc hV hZ dV uV dZ uZ rfl rfl) hI trivial
set_option maxRecDepth 100000 in
set_option maxHeartbeats 2000000 in
theorem pb_root11 (x : Int) (hx : 0 ≤ x ∧ x ≤ 1000) (w : World) : Calls Tryz.prog 5 #[.int .i64 Q, .int .i64 A, .int .i64 x, .int .i64 c, .bool true, .bool true, .bool false] w (TrueBelow w) := by
  have ht : (0 : Int) ≤ 0 ∧ 0 ≤ Q := by omega
  have hle := pbLe hQ hA hV
  have hlt := pbLe hQ hA ht
  have hI : bdOk (mkGh [] [Q, A, 0, c, V, Z, A * V / Q, A * (0) / Q, 0, x] rfl).σ pbI 0 := ⟨hQ, hA, ⟨ht.1, by show 0 ≤ _; omega⟩, hc, ⟨hV.1, by show V ≤ _; omega⟩, ⟨hZ.1, by show Z ≤ _; omega⟩, ⟨hle.1, by show A * V / Q ≤ _; omega⟩, ⟨hlt.1, by show A * (0) / Q ≤ _; omega⟩, (by show (0 : Int) ≤ 0 ∧ 0 ≤ 1000; omega), (by show (0 : Int) ≤ x ∧ x ≤ 1000; omega), trivial⟩
  exact pb_in11 Q A (0) c V Z (A * V / Q) (A * (0) / Q) (0) (x) w trivial (pbT_ok (fun h => h) rfl rfl rfl rfl rfl rfl rfl rfl hQ hA ht hc hV hZ dV uV dZ uZ rfl rfl) hI trivial
end
set_option maxRecDepth 100000 in
set_option maxHeartbeats 4000000 in
theorem pbMid (qty amount stock cash : Int) (bs bc may : Bool) (h0 : 1 ≤ qty ∧ qty ≤ 1000) (h1 : 0 ≤ amount ∧ amount ≤ 1000) (h2 : 0 ≤ stock ∧ stock ≤ 1000) (h3 : 0 ≤ cash ∧ cash ≤ 1000) (w : World) : Calls Tryz.prog 5 #[.int .i64 qty, .int .i64 amount, .int .i64 stock, .int .i64 cash, .bool bs, .bool bc, .bool may] w (TrueBelow w) := by
  obtain ⟨V, v1, v2, dV, uV⟩ := pb_great (fun m => amount * m / qty) (fun _ _ h => pb_mono h1.1 h0.1 h) cash qty.toNat
  obtain ⟨Z, z1, z2, dZ, uZ⟩ := pb_great (fun m => amount * m / qty) (fun _ _ h => pb_mono h1.1 h0.1 h) 0 qty.toNat
  have hV : 0 ≤ V ∧ V ≤ qty := by omega
  have hZ : 0 ≤ Z ∧ Z ≤ qty := by omega
  have uV2 : ∀ m : Int, V < m → m ≤ qty → cash < amount * m / qty := fun m a b => uV m a (by omega)
  have uZ2 : ∀ m : Int, Z < m → m ≤ qty → 0 < amount * m / qty := fun m a b => uZ m a (by omega)
  clear uV uZ
  cases may with
  | false =>
    cases bs <;> cases bc
    · exact pb_root8 h0 h1 h3 hV hZ dV uV2 dZ uZ2 stock h2 w
    · exact pb_root9 h0 h1 h3 hV hZ dV uV2 dZ uZ2 stock h2 w
    · exact pb_root10 h0 h1 h3 hV hZ dV uV2 dZ uZ2 stock h2 w
    · exact pb_root11 h0 h1 h3 hV hZ dV uV2 dZ uZ2 stock h2 w
  | true =>
    cases bs <;> cases bc
    · by_cases hcz : 1 ≤ cash
      · by_cases hx : V < stock
        · exact pb_root0 h0 h1 h3 hV hZ dV uV2 dZ uZ2 stock h2 hx hcz w
        · exact pb_root2 h0 h1 h3 hV hZ dV uV2 dZ uZ2 stock h2 (by omega) hcz w
      · have hc0 : cash = 0 := by omega
        have hVZ : V = Z := by
          rcases Int.lt_trichotomy V Z with h | h | h
          · have a := dZ Z (by omega) (Int.le_refl _)
            have b := uV2 Z h hZ.2
            omega
          · exact h
          · have a := dV V (by omega) (Int.le_refl _)
            have b := uZ2 V h hV.2
            omega
        by_cases hx : V < stock
        · exact pb_root1 h0 h1 h3 hV hZ dV uV2 dZ uZ2 stock h2 hx hc0 hVZ w
        · exact pb_root3 h0 h1 h3 hV hZ dV uV2 dZ uZ2 stock h2 (by omega) hc0 hVZ w
    · by_cases hx : Z < stock
      · exact pb_root4 h0 h1 h3 hV hZ dV uV2 dZ uZ2 stock h2 hx w
      · exact pb_root5 h0 h1 h3 hV hZ dV uV2 dZ uZ2 stock h2 (by omega) w
    · exact pb_root6 h0 h1 h3 hV hZ dV uV2 dZ uZ2 stock h2 w
    · exact pb_root7 h0 h1 h3 hV hZ dV uV2 dZ uZ2 stock h2 w
set_option maxRecDepth 100000 in
theorem pbAll (qty amount stock cash : Int) (bs bc may : Bool) (h0 : -9223372036854775808 ≤ qty ∧ qty ≤ 9223372036854775807) (h1 : -9223372036854775808 ≤ amount ∧ amount ≤ 9223372036854775807) (h2 : -9223372036854775808 ≤ stock ∧ stock ≤ 9223372036854775807) (h3 : -9223372036854775808 ≤ cash ∧ cash ≤ 9223372036854775807) (w : World) : Calls Tryz.prog 5 #[.int .i64 qty, .int .i64 amount, .int .i64 stock, .int .i64 cash, .bool bs, .bool bc, .bool may] w (TrueBelow w) := by
  have out : ∀ {bd : List (Int × Int)} {ge : List LF}, PbRun bd ge → bdOk (mkGh [.bool bs, .bool bc, .bool may] [qty, amount, stock, cash] rfl).σ bd 0 → geOk (mkGh [.bool bs, .bool bc, .bool may] [qty, amount, stock, cash] rfl).σ ge → Calls Tryz.prog 5 #[.int .i64 qty, .int .i64 amount, .int .i64 stock, .int .i64 cash, .bool bs, .bool bc, .bool may] w (TrueBelow w) := fun {bd ge} hr hb hg => by
    have F : Facts (mkGh [.bool bs, .bool bc, .bool may] [qty, amount, stock, cash] rfl) bd ge [] := ⟨hb, hg, trivial⟩
    exact run_true (nl := []) progOk F (libS_ok F (mapsH_ok F (pbA_ok _ _ _))) Tryz.func5 rfl (by simp [pbOArgs, concL, conc, den, mkGh]) hr w
  have hO : bdOk (mkGh [.bool bs, .bool bc, .bool may] [qty, amount, stock, cash] rfl).σ pbO 0 := ⟨h0, h1, h2, h3, trivial⟩
  by_cases c0 : qty < 1
  · exact out pbo0 hO (by simp [geOk, pbNo, den, mkGh]; omega)
  by_cases c1 : 1000 < qty
  · exact out pbo1 hO (by simp [geOk, pbNo, den, mkGh]; omega)
  by_cases c2 : amount < 0
  · exact out pbo2 hO (by simp [geOk, pbNo, den, mkGh]; omega)
  by_cases c3 : 1000 < amount
  · exact out pbo3 hO (by simp [geOk, pbNo, den, mkGh]; omega)
  by_cases c4 : stock < 0
  · exact out pbo4 hO (by simp [geOk, pbNo, den, mkGh]; omega)
  by_cases c5 : 1000 < stock
  · exact out pbo5 hO (by simp [geOk, pbNo, den, mkGh]; omega)
  by_cases c6 : cash < 0
  · exact out pbo6 hO (by simp [geOk, pbNo, den, mkGh]; omega)
  by_cases c7 : 1000 < cash
  · exact out pbo7 hO (by simp [geOk, pbNo, den, mkGh]; omega)
  exact pbMid qty amount stock cash bs bc may (by omega) (by omega) (by omega) (by omega) w
set_option maxRecDepth 100000 in
theorem pb_int {W : World} {base : Nat} {v : Value} (h : Value.okWide Tryz.prog W .any base 3 v) : ∃ n, v = .int .i64 n ∧ -9223372036854775808 ≤ n ∧ n ≤ 9223372036854775807 := by
  unfold Value.okWide at h
  rw [Tryz.underlying3] at h
  exact cell_int Tryz.underlying3 h
set_option maxRecDepth 100000 in
theorem pb_bool {W : World} {base : Nat} {v : Value} (h : Value.okWide Tryz.prog W .any base 4 v) : ∃ b, v = .bool b := by
  unfold Value.okWide at h
  rw [Tryz.underlying4] at h
  exact cell_bool Tryz.underlying4 h
set_option maxRecDepth 100000 in
theorem pbWalk (W : World) (base : Nat) (v0 v1 v2 v3 v4 v5 v6 : Value) (h0 : Value.okWide Tryz.prog W .any base 3 v0) (h1 : Value.okWide Tryz.prog W .any base 3 v1) (h2 : Value.okWide Tryz.prog W .any base 3 v2) (h3 : Value.okWide Tryz.prog W .any base 3 v3) (h4 : Value.okWide Tryz.prog W .any base 4 v4) (h5 : Value.okWide Tryz.prog W .any base 4 v5) (h6 : Value.okWide Tryz.prog W .any base 4 v6) :
    Calls Tryz.prog 5 #[v0, v1, v2, v3, v4, v5, v6] W (TrueBelow W) := by
  obtain ⟨qty, rfl, g0⟩ := pb_int h0
  obtain ⟨amount, rfl, g1⟩ := pb_int h1
  obtain ⟨stock, rfl, g2⟩ := pb_int h2
  obtain ⟨cash, rfl, g3⟩ := pb_int h3
  obtain ⟨bs, rfl⟩ := pb_bool h4
  obtain ⟨bc, rfl⟩ := pb_bool h5
  obtain ⟨may, rfl⟩ := pb_bool h6
  exact pbAll qty amount stock cash bs bc may g0 g1 g2 g3 W
end Go.Proofs.YtkhckfpflfkjmaaGreat
