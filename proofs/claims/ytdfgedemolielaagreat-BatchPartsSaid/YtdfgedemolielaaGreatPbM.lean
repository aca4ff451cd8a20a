/- part.Most of an asset of unit 1 and least part 1: what is free, if it is no more than what is left. -/
import Derived.Test.YtdfgedemolielaaGreatLoopKit
namespace Go.Proofs.YtdfgedemolielaaGreat
open Go Go.RowKit Gv
def moX : Gv.V := .agg [.str 1 0x58, .bool false, .bool true, .int .i64 1, .int .i64 1, .int .i64 10, .int .i64 1000, .int .i64 0]
def moXv : Value := .agg #[.string ⟨(strL 1 0x58).toArray⟩, .bool false, .bool true, .int .i64 1, .int .i64 1, .int .i64 10, .int .i64 1000, .int .i64 0]
theorem moX_conc (G : Gh) (φ : Mp) : conc G φ moX = some moXv := by simp [moX, moXv, conc, concL]
def moBd : List (Int × Int) := [(1, 2199023255552), (0, 2199023255552), (0, 0)]
def moNl : List NL := [⟨2, .i64, (0,[(1,1)]), (1,[]), 2⟩, ⟨2, .i64, (0,[(1,1),(2,-1)]), (1,[]), 2⟩]
def moArgs : List Gv.V := [moX, .sint .i64 0 [(0,1)], .sint .i64 0 [(1,1)]]
theorem moRun1 : ((callN (evE Tryz.prog (fun _ => none) moBd [(-1,[(1,1)]), (-1,[(0,1),(1,-1)])] moNl) 10 358 moArgs H0).isV (.sint .i64 0 [(1,1)])) = true := by kernel_rfl
theorem moRun2 : ((callN (evE Tryz.prog (fun _ => none) moBd [(0,[(1,1),(0,-1)]), (0,[(0,1),(1,-1)])] moNl) 10 358 moArgs H0).isV (.sint .i64 0 [(0,1)])) = true := by kernel_rfl
theorem moRun3 : ((callN (evE Tryz.prog (fun _ => none) moBd [] moNl) 10 358 [moX, .sint .i64 0 [(0,1)], .int .i64 0] H0).isV (.int .i64 0)) = true := by kernel_rfl
theorem moRun4 : ((callN (evE Tryz.prog (fun _ => none) moBd [] moNl) 10 358 [moX, .int .i64 0, .int .i64 0] H0).isV (.int .i64 0)) = true := by kernel_rfl
set_option maxRecDepth 100000 in
theorem most_ok {Q m : Int} (hQ : 1 ≤ Q ∧ Q ≤ 2199023255552) (hm : 0 ≤ m ∧ m ≤ Q) (w : World) : Calls Tryz.prog 358 #[moXv, .int .i64 Q, .int .i64 m] w fun e w' => e = .returned (.int .i64 m) ∧ Below w.heap.size w w' := by
  have hnl : nlOk (mkGh [] [Q, m, 0] rfl) moNl := by
    refine ⟨.inr (.inr (.inl ⟨rfl, by show (1 + 0 : Int) ≠ 0; omega, ?_⟩)), .inr (.inr (.inl ⟨rfl, by show (1 + 0 : Int) ≠ 0; omega, ?_⟩)), trivial⟩
    · show (0 + (1 * m + 0)).tmod (1 + 0) = 0
      rw [show (1 + 0 : Int) = 1 from rfl, Int.tmod_one]
    · show (0 + (1 * m + (-1 * 0 + 0))).tmod (1 + 0) = 0
      rw [show (1 + 0 : Int) = 1 from rfl, Int.tmod_one]
  have hb : bdOk (mkGh [] [Q, m, 0] rfl).σ moBd 0 := ⟨hQ, ⟨hm.1, by show m ≤ _; omega⟩, (by show (0 : Int) ≤ 0 ∧ (0 : Int) ≤ 0; omega), trivial⟩
  have hargs : concL (mkGh [] [Q, m, 0] rfl) (fun _ => none) moArgs = some [moXv, .int .i64 Q, .int .i64 m] := concL_cons.2 ⟨_, _, moX_conc _ _, concL_cons.2 ⟨_, _, by simp [conc, den, mkGh], concL_cons.2 ⟨_, _, by simp [conc, den, mkGh], concL_nil, rfl⟩, rfl⟩, rfl⟩
  by_cases h0 : m = 0
  · subst h0
    exact run_val (G := mkGh [] [Q, 0, 0] rfl) progOkB (show Facts _ moBd [] moNl from ⟨hb, trivial, hnl⟩) noHooks Tryz.func358 rfl (concL_cons.2 ⟨_, _, moX_conc _ _, concL_cons.2 ⟨_, _, by simp [conc, den, mkGh], concL_cons.2 ⟨_, _, by rw [conc], concL_nil, rfl⟩, rfl⟩, rfl⟩) moRun3 (fun φ => by rw [conc]) w
  · by_cases h1 : m = Q
    · have hg : geOk (mkGh [] [Q, m, 0] rfl).σ [(0,[(1,1),(0,-1)]), (0,[(0,1),(1,-1)])] := by simp [geOk, den, mkGh]; omega
      exact run_val (G := mkGh [] [Q, m, 0] rfl) progOkB ⟨hb, hg, hnl⟩ noHooks Tryz.func358 rfl hargs moRun2 (fun φ => by simp [conc, den, mkGh, h1]) w
    · have hg : geOk (mkGh [] [Q, m, 0] rfl).σ [(-1,[(1,1)]), (-1,[(0,1),(1,-1)])] := by simp [geOk, den, mkGh]; omega
      exact run_val (G := mkGh [] [Q, m, 0] rfl) progOkB ⟨hb, hg, hnl⟩ noHooks Tryz.func358 rfl hargs moRun1 (fun φ => by simp [conc, den, mkGh]) w
set_option maxRecDepth 100000 in
/-- Of nothing nothing. -/
theorem most0_ok {L : Int} (hL : 0 ≤ L ∧ L ≤ 2199023255552) (w : World) : Calls Tryz.prog 358 #[moXv, .int .i64 L, .int .i64 0] w fun e w' => e = .returned (.int .i64 0) ∧ Below w.heap.size w w' := by
  by_cases h0 : L = 0
  · subst h0
    have hnl : nlOk (mkGh [] [1, 0, 0] rfl) moNl := by
      refine ⟨.inr (.inr (.inl ⟨rfl, by show (1 + 0 : Int) ≠ 0; omega, ?_⟩)), .inr (.inr (.inl ⟨rfl, by show (1 + 0 : Int) ≠ 0; omega, ?_⟩)), trivial⟩
      · show (0 + (1 * 0 + 0) : Int).tmod (1 + 0) = 0
        rfl
      · show (0 + (1 * 0 + (-1 * 0 + 0)) : Int).tmod (1 + 0) = 0
        rfl
    have hb : bdOk (mkGh [] [1, 0, 0] rfl).σ moBd 0 := ⟨(by show (1 : Int) ≤ 1 ∧ (1 : Int) ≤ _; omega), (by show (0 : Int) ≤ 0 ∧ (0 : Int) ≤ _; omega), (by show (0 : Int) ≤ 0 ∧ (0 : Int) ≤ 0; omega), trivial⟩
    exact run_val (G := mkGh [] [1, 0, 0] rfl) progOkB (show Facts _ moBd [] moNl from ⟨hb, trivial, hnl⟩) noHooks Tryz.func358 rfl (concL_cons.2 ⟨_, _, moX_conc _ _, concL_cons.2 ⟨_, _, by rw [conc], concL_cons.2 ⟨_, _, by rw [conc], concL_nil, rfl⟩, rfl⟩, rfl⟩) moRun4 (fun φ => by rw [conc]) w
  · exact most_ok (by omega) (by omega) w
end Go.Proofs.YtdfgedemolielaaGreat
