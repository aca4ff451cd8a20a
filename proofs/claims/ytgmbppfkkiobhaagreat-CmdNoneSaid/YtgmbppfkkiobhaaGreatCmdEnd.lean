/- CmdNone, of whatever comes in. -/
import Derived.Test.YtgmbppfkkiobhaaGreatCmdNone
import Derived.Test.YtgmbppfkkiobhaaGreatWireArgs0
namespace Go.Proofs.YtgmbppfkkiobhaaGreat.Wire
open Go Go.RowKit Go.Lib
set_option maxRecDepth 20000 in
theorem noneWalk {H : Type} {enc : TypeId × Value → H} (W : World) (base : Nat) (v0 : Value) (hv0 : Value.okWide Tryz.prog W .any base 63 v0)
    {d0 : DataW H} {p0 : List MemPlace} (h0 : DataW.Trod enc Tryz.prog W 0 (fun _ => true) true 63 v0 d0 p0) :
    Calls Tryz.prog 4 #[v0] W (Gv.TrueBelow W) := by
  obtain ⟨kind, party, A, n, c, nums, A', m, c', texts, rfl, hk, hp, hn, hm, hr⟩ := cmd_in hv0 h0
  exact none_in kind party A n c nums A' m c' texts W hk hp hn hm hr
end Go.Proofs.YtgmbppfkkiobhaaGreat.Wire
