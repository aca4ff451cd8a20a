/- complinelaw25.OptLends: within its bounds. -/
import Derived.Test.YtegfcailcgogpaaGreatLnAQ0
namespace Go.Proofs.YtegfcailcgogpaaGreat
open Go.RowKit Gv
set_option maxRecDepth 100000 in
theorem lna_in (qty amount cash v : Int) (w : World) (hnl : nlOk (mkGh [] [qty, amount, cash, v] rfl) []) (hT : HooksOk Tryz.prog (mkGh [] [qty, amount, cash, v] rfl) (hkT lnTA)) (hI : bdOk (mkGh [] [qty, amount, cash, v] rfl).σ lnaI 0) : geOk (mkGh [] [qty, amount, cash, v] rfl).σ [(0,[(2,1),(1,-1)])] → Calls Tryz.prog 5 #[.int .i64 qty, .int .i64 amount, .int .i64 cash] w (TrueBelow w) := by
  have out : ∀ {bd : List (Int × Int)} {ge : List LF}, LnARun bd ge → bdOk (mkGh [] [qty, amount, cash, v] rfl).σ bd 0 → geOk (mkGh [] [qty, amount, cash, v] rfl).σ ge → Calls Tryz.prog 5 #[.int .i64 qty, .int .i64 amount, .int .i64 cash] w (TrueBelow w) := fun {bd ge} hr hb hg => by
    have F : Facts (mkGh [] [qty, amount, cash, v] rfl) bd ge [] := ⟨hb, hg, hnl⟩
    exact run_true (nl := []) progOk F (libS_ok F (orHk_ok hT (mapsH_ok F (lnA_ok _ _ _)))) Tryz.func5 rfl (by simp [lnaArgs, concL, conc, den, mkGh]) hr w
  exact (split_at (-1,[(2,1)]) (split_at (-1,[(1,1)]) (out lnaq0 hI) (out lnaq1 hI)) (split_at (-1,[(1,1)]) (dead_at [1, 1, 1] (by kernel_rfl) hI) (out lnaq2 hI)))
end Go.Proofs.YtegfcailcgogpaaGreat
