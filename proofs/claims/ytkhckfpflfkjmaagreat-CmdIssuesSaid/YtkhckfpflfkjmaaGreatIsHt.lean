/- complinelaw28.CmdIssues: what is hooked in. -/
import Derived.Test.YtkhckfpflfkjmaaGreatAlive28
import Derived.Test.YtkhckfpflfkjmaaGreatGvSnapq
namespace Go.Proofs.YtkhckfpflfkjmaaGreat
open Go Go.RowKit Gv
def txV (n v : Nat) : Value := .string ⟨(strL n v).toArray⟩
theorem str_eq {s : ByteArray} {n v : Nat} (h : s.data.toList = strL n v) : Value.string s = txV n v := by
  obtain ⟨d⟩ := s
  obtain rfl : d = (strL n v).toArray := by rw [← h]
  rfl
/-- The account is one of the small world's. -/
def KA (G : Gh) : Prop :=
  (G.ε 0 = txV 4 1263419714 ∧ G.ε 10 = txV 4 1263419714 ∧ G.ε 11 = txV 4 1263419714) ∨
  (G.ε 0 = txV 2 16720 ∧ G.ε 10 = txV 2 16720 ∧ G.ε 11 = txV 1 80) ∨
  (G.ε 0 = txV 2 16976 ∧ G.ε 10 = txV 2 16976 ∧ G.ε 11 = txV 1 80) ∨
  (G.ε 0 = txV 2 16721 ∧ G.ε 10 = txV 2 16721 ∧ G.ε 11 = txV 1 81) ∨
  (G.ε 0 = txV 2 16977 ∧ G.ε 10 = txV 2 16977 ∧ G.ε 11 = txV 1 81) ∨
  (G.ε 0 = txV 2 16722 ∧ G.ε 10 = txV 2 16722 ∧ G.ε 11 = txV 1 82) ∨
  (G.ε 0 = txV 2 16978 ∧ G.ε 10 = txV 2 16978 ∧ G.ε 11 = txV 1 82)
/-- The asset is one of the small world's. -/
def KS (G : Gh) : Prop :=
  (G.ε 1 = txV 1 88 ∧ G.ε 12 = txV 1 88 ∧ G.ε 13 = .bool false ∧ G.ε 14 = .bool true ∧ G.ε 15 = .int .i64 1 ∧ G.ε 16 = .int .i64 1 ∧ G.ε 17 = .int .i64 10 ∧ G.ε 18 = .int .i64 1000 ∧ G.ε 19 = .int .i64 0) ∨
  (G.ε 1 = txV 1 89 ∧ G.ε 12 = txV 1 89 ∧ G.ε 13 = .bool false ∧ G.ε 14 = .bool true ∧ G.ε 15 = .int .i64 10 ∧ G.ε 16 = .int .i64 20 ∧ G.ε 17 = .int .i64 3 ∧ G.ε 18 = .int .i64 5000 ∧ G.ε 19 = .int .i64 0) ∨
  (G.ε 1 = txV 1 90 ∧ G.ε 12 = txV 1 90 ∧ G.ε 13 = .bool false ∧ G.ε 14 = .bool false ∧ G.ε 15 = .int .i64 5 ∧ G.ε 16 = .int .i64 10 ∧ G.ε 17 = .int .i64 7 ∧ G.ε 18 = .int .i64 0 ∧ G.ε 19 = .int .i64 0) ∨
  (G.ε 1 = txV 3 5395781 ∧ G.ε 12 = txV 3 5395781 ∧ G.ε 13 = .bool true ∧ G.ε 14 = .bool false ∧ G.ε 15 = .int .i64 1 ∧ G.ε 16 = .int .i64 1 ∧ G.ε 17 = .int .i64 0 ∧ G.ε 18 = .int .i64 0 ∧ G.ε 19 = .int .i64 2) ∨
  (G.ε 1 = txV 3 4477781 ∧ G.ε 12 = txV 3 4477781 ∧ G.ε 13 = .bool true ∧ G.ε 14 = .bool false ∧ G.ε 15 = .int .i64 1 ∧ G.ε 16 = .int .i64 1 ∧ G.ε 17 = .int .i64 0 ∧ G.ε 18 = .int .i64 0 ∧ G.ε 19 = .int .i64 0)
def isT : List HT := [⟨9, [], .bool true⟩]
/-- Hooks without one function's. -/
noncomputable def unH (k : Nat) (x : Nat → Option (Gv.Call → List V → H → RV)) (n : Nat) : Option (Gv.Call → List V → H → RV) := bif Nat.beq n k then none else x n
theorem unH_ok {P : Program} {G : Gh} {k : Nat} {x : Nat → Option (Gv.Call → List V → H → RV)} (h : HooksOk P G x) : HooksOk P G (unH k x) := by
  intro f g e
  unfold unH at e
  cases hk : Nat.beq f k with
  | true => rw [hk] at e; cases e
  | false => rw [hk] at e; exact h f g e
noncomputable def isH (bd : List (Int × Int)) (ge : List LF) (nl : List NL) : Nat → Option (Gv.Call → List V → H → RV) := orHk (oneH 281 (strO (evE Tryz.prog (fun _ => none) bd ge nl))) (libS bd ge (orHk (hkT isT) (unH 54 (mapsH bd ge nl nilH))))
set_option maxRecDepth 100000 in
theorem isT_ok (G : Gh) (hm : ¬ G.mono) : HooksOk Tryz.prog G (hkT isT) := hkT_ok progOk _ (fun t ht => by
  simp [isT] at ht
  subst ht
  exact aliveOk9 _) hm
set_option maxRecDepth 100000 in
theorem isH_ok {G : Gh} {bd : List (Int × Int)} {ge : List LF} {nl : List NL} (F : Facts G bd ge nl) (hT : HooksOk Tryz.prog G (hkT isT)) (hm : ¬ G.mono) : HooksOk Tryz.prog G (isH bd ge nl) :=
  orHk_ok (oneH_ok (strO_ok (evE_ok progOk F.ends (geOk_at F.ge) (nlOk_at F.nl)) hm progOk Tryz.func281 rfl Tryz.stringslite_Clone)) (libS_ok F (orHk_ok hT (unH_ok (mapsH_ok F nilH_ok hm))) hm)
theorem nlLen {G : Gh} {i j : Nat} {s : ByteArray} (h : G.ε i = .string s) (hz : (s.size : Int) = G.σ j) : NLOk G ⟨30, .i64, (0,[(j,1)]), (0,[]), i⟩ := .inr (.inr (.inr ⟨s, h, by show (s.size : Int) = 0 + (1 * G.σ j + 0); omega⟩))
theorem nlNot {G : Gh} {i n v : Nat} {a b : Int} {s : ByteArray} (h : G.ε i = .string s) (hne : s.data.toList ≠ strL n v) (ha : a.toNat = n) (hb : b.toNat = v) : NLOk G ⟨31, .i64, (a,[]), (b,[]), i⟩ := .inr (.inr (.inr ⟨s, h, by show s.data.toList ≠ strL a.toNat b.toNat; rw [ha, hb]; exact hne⟩))
end Go.Proofs.YtkhckfpflfkjmaaGreat
