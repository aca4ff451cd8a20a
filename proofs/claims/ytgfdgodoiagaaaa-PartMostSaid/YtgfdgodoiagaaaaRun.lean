/- The evaluator's tables for this seat, and complinelaw23.alive: it returns true, and nothing that was there has changed. -/
import Derived.Test.YtgfdgodoiagaaaaGvHook
import Derived.Test.YtgfdgodoiagaaaaRfits
namespace Go.Proofs.Ytgfdgodoiagaaaa
open Go.RowKit Gv
theorem progOk : ProgOk Try.prog := ⟨of_decide_eq_true (by kernel_rfl), by kernel_rfl, by kernel_rfl⟩
theorem alive_run : (callN (evE Try.prog (fun _ => none) [] [] []) 100 6 [] H0).isTrue = true := by kernel_rfl
theorem alive_any (w : World) : Calls Try.prog 6 #[] w (TrueBelow w) :=
  run_true (G := mkGh [] [] rfl) (ul := []) progOk noFacts noHooks Try.func6 rfl concL_nil alive_run w
end Go.Proofs.Ytgfdgodoiagaaaa
