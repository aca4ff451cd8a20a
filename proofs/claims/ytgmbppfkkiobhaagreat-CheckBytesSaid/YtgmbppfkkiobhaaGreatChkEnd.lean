/- CheckBytes, of whatever comes in. -/
import Derived.Test.YtgmbppfkkiobhaaGreatChkLaw
import Derived.Test.YtgmbppfkkiobhaaGreatAlive24
namespace Go.Proofs.YtgmbppfkkiobhaaGreat.Wire
open Go Go.RowKit Go.Lib
set_option maxRecDepth 20000 in
theorem bytesWalk {H : Type} {enc : TypeId × Value → H} (W : World) (base : Nat) (v0 v1 : Value) (hv0 : Value.okWide Tryz.prog W .any base 22 v0) (hv1 : Value.okWide Tryz.prog W .any base 9 v1)
    {d0 d1 : DataW H} {p0 p1 : List MemPlace} (h0 : DataW.Trod enc Tryz.prog W 0 (fun _ => true) true 22 v0 d0 p0) (h1 : DataW.Trod enc Tryz.prog W 0 (fun _ => true) true 9 v1 d1 p1) :
    Calls Tryz.prog 3 #[v0, v1] W (Gv.TrueBelow W) := by
  obtain ⟨A, n, c, xs, rfl, hn, hx, hok⟩ := sets_in hv0 h0
  obtain ⟨b, rfl⟩ := text_in hv1 h1
  exact (chkWalk A n c xs b W hx hn hok (fun W' => (aliveAny6 W').mono fun _ _ h => h)).mono fun _ _ h => h
end Go.Proofs.YtgmbppfkkiobhaaGreat.Wire
