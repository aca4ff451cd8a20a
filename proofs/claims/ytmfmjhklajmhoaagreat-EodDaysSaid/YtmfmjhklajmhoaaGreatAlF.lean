/- complinelaw27.alive: within its bounds. -/
import Derived.Test.YtmfmjhklajmhoaaGreatAlR0
import Derived.Test.YtmfmjhklajmhoaaGreatAlR1
import Derived.Test.YtmfmjhklajmhoaaGreatAlR2
import Derived.Test.YtmfmjhklajmhoaaGreatAlR3
import Derived.Test.YtmfmjhklajmhoaaGreatAlR4
import Derived.Test.YtmfmjhklajmhoaaGreatEdG
namespace Go.Proofs.YtmfmjhklajmhoaaGreat
open Go Go.RowKit Gv Gv.Lt
set_option maxRecDepth 100000
theorem al_in (w : World) (hnl : nlOk (mkGh [] [] rfl) []) (hI : bdOk (mkGh [] [] rfl).σ alI 0) : geOk (mkGh [] [] rfl).σ [] → Calls Tryz.prog 4 #[] w (TrueBelow w) := by
 have hm : ¬ ((mkGh [] [] rfl)).mono := fun h => h
 have hl : concL (mkGh [] [] rfl) (fun _ => none) alArgs = some [] := by unfold alArgs; exact concL_nil
 exact (fun hg => alu0 ⟨hI, hg, hnl⟩ hm hl w)
end Go.Proofs.YtmfmjhklajmhoaaGreat
/- complinelaw27.alive returns true, and nothing that was there has changed. -/
namespace Go.Proofs.YtmfmjhklajmhoaaGreat
open Go.RowKit Gv
set_option maxRecDepth 100000 in
theorem aliveAny27 (w : World) : Calls Tryz.prog 4 #[] w (TrueBelow w) := al_in w trivial trivial trivial
end Go.Proofs.YtmfmjhklajmhoaaGreat
/- EodDays returns true, for whatever comes in. -/
namespace Go.Proofs.YtmfmjhklajmhoaaGreat.Ed
open Go Go.RowKit
set_option maxRecDepth 100000 in
theorem daysWalk {H : Type} {enc : TypeId × Value → H} (W : World) (base : Nat) (v0 v1 : Value) (hv0 : Value.okWide Tryz.prog W .any base 22 v0) (hv1 : Value.okWide Tryz.prog W .any base 3 v1)
 {d0 : DataW H} {p0 : List MemPlace} (h0 : DataW.Trod enc Tryz.prog W 0 (fun _ => true) true 22 v0 d0 p0) :
 Calls Tryz.prog 3 #[v0, v1] W (Gv.TrueBelow W) := daysIn aliveAny27 W base v0 v1 hv0 hv1 h0
end Go.Proofs.YtmfmjhklajmhoaaGreat.Ed
