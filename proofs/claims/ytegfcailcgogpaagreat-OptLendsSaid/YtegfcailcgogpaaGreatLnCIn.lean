/- complinelaw25.OptLends: within its bounds. -/
import Derived.Test.YtegfcailcgogpaaGreatLnCQ0
namespace Go.Proofs.YtegfcailcgogpaaGreat
open Go.RowKit Gv
set_option maxRecDepth 100000 in
theorem lnc_in (qty amount z v : Int) (w : World) (hnl : nlOk (mkGh [] [qty, amount, z, v] rfl) lnNC) (hT : HooksOk Tryz.prog (mkGh [] [qty, amount, z, v] rfl) (hkT lnTC)) (hI : bdOk (mkGh [] [qty, amount, z, v] rfl).σ lncI 0) : geOk (mkGh [] [qty, amount, z, v] rfl).σ [(-1,[(1,1)]), (0,[(3,9),(1,-1)]), (8,[(1,1),(3,-9)])] → Calls Tryz.prog 5 #[.int .i64 qty, .int .i64 amount, .int .i64 (0)] w (TrueBelow w) := by
  have out : ∀ {bd : List (Int × Int)} {ge : List LF}, LnCRun bd ge → bdOk (mkGh [] [qty, amount, z, v] rfl).σ bd 0 → geOk (mkGh [] [qty, amount, z, v] rfl).σ ge → Calls Tryz.prog 5 #[.int .i64 qty, .int .i64 amount, .int .i64 (0)] w (TrueBelow w) := fun {bd ge} hr hb hg => by
    have F : Facts (mkGh [] [qty, amount, z, v] rfl) bd ge lnNC := ⟨hb, hg, hnl⟩
    exact run_true (nl := lnNC) progOk F (libS_ok F (orHk_ok hT (mapsH_ok F (lnA_ok _ _ _)))) Tryz.func5 rfl (by simp [lncArgs, concL, conc, den, mkGh]) hr w
  exact (split_at (-1,[(3,1),(0,-1)]) (split_at (-1,[(1,1),(0,-9)]) (out lncq0 hI) (dead_at [1, 9, 0, 0, 1] (by kernel_rfl) hI)) (split_at (-1,[(3,9)]) (split_at (-1,[(3,1)]) (split_at (-1,[(1,1),(0,-9)]) (dead_at [1, 0, 0, 9, 0, 1, 0] (by kernel_rfl) hI) (out lncq1 hI)) (dead_at [9, 1, 0, 0, 0, 0] (by kernel_rfl) hI)) (dead_at [9, 0, 9, 9, 0] (by kernel_rfl) hI)))
end Go.Proofs.YtegfcailcgogpaaGreat
