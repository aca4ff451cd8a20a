/- complinelaw25.OptLends: tables. -/
import Derived.Test.YtegfcailcgogpaaGreatLnHt
namespace Go.Proofs.YtegfcailcgogpaaGreat
open Go.RowKit Gv
def lnaI : List (Int × Int) := [(1, 1000), (0, 5000), (0, 5000), (-600, 600)]
def lnaArgs : List V := [.sint .i64 0 [(0,1)], .sint .i64 0 [(1,1)], .sint .i64 0 [(2,1)]]
abbrev LnARun (bd : List (Int × Int)) (ge : List LF) : Prop := (callN (evE Tryz.prog (libS bd ge (orHk (hkT lnTA) (mapsH bd ge [] lnA))) bd ge []) 100 5 lnaArgs H0).isTrue = true
end Go.Proofs.YtegfcailcgogpaaGreat
