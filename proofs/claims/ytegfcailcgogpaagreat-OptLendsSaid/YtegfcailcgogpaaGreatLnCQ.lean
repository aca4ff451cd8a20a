/- complinelaw25.OptLends: tables. -/
import Derived.Test.YtegfcailcgogpaaGreatLnHt
namespace Go.Proofs.YtegfcailcgogpaaGreat
open Go.RowKit Gv
def lncI : List (Int × Int) := [(1, 1000), (0, 5000), (0, 0), (-600, 600)]
def lncArgs : List V := [.sint .i64 0 [(0,1)], .sint .i64 0 [(1,1)], .int .i64 0]
abbrev LnCRun (bd : List (Int × Int)) (ge : List LF) : Prop := (callN (evE Tryz.prog (libS bd ge (orHk (hkT lnTC) (mapsH bd ge lnNC lnA))) bd ge lnNC) 100 5 lncArgs H0).isTrue = true
end Go.Proofs.YtegfcailcgogpaaGreat
