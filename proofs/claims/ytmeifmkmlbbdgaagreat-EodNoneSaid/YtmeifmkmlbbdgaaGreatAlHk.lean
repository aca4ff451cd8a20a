/- complinelaw27.alive: what is hooked in. -/
import Derived.Test.YtmeifmkmlbbdgaaGreatLib
import Derived.Test.YtmeifmkmlbbdgaaGreatNeedRB
import Derived.Test.YtmeifmkmlbbdgaaGreatBigAdd
namespace Go.Proofs.YtmeifmkmlbbdgaaGreat
open Go Go.RowKit Gv
noncomputable def mapsMd (bd : List (Int × Int)) (ge : List LF) : Nat → Option (Gv.Call → List V → H → RV) := orHk (oneH 415 mdH) (orHk (oneH 384 mdH) (orHk (oneH 490 neH) (orHk (oneH 496 neH) (orHk (oneH 413 ofB) (orHk (oneH 411 addB) (orHk (oneH 412 cmpB) (mapsH bd ge [] nilH)))))))
set_option maxRecDepth 100000 in
theorem mapsMd_ok {G : Gh} {bd : List (Int × Int)} {ge : List LF} (hm : ¬ G.mono) (F : Facts G bd ge []) : HooksOk Tryz.prog G (mapsMd bd ge) := orHk_ok (oneH_ok (mdH_ok hm)) (orHk_ok (oneH_ok (mmH_ok hm)) (orHk_ok (oneH_ok (neR_ok hm)) (orHk_ok (oneH_ok (neM_ok hm)) (orHk_ok (oneH_ok (ofB_ok hm)) (orHk_ok (oneH_ok (addB_ok hm)) (orHk_ok (oneH_ok (cmpB_ok hm)) (mapsH_ok F nilH_ok hm)))))))
end Go.Proofs.YtmeifmkmlbbdgaaGreat
