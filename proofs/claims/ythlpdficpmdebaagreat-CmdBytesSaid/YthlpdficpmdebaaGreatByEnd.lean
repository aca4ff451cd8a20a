/- CmdBytes, of whatever comes in. -/
import Derived.Test.YthlpdficpmdebaaGreatByLaw
import Derived.Test.YthlpdficpmdebaaGreatAlive28
namespace Go.Proofs.YthlpdficpmdebaaGreat.Wire
open Go Go.RowKit Go.Lib
set_option maxRecDepth 20000 in
theorem bytesWalk {H : Type} {enc : TypeId × Value → H} (W : World) (base : Nat) (v0 v1 v2 : Value) (hv0 : Value.okWide Tryz.prog W .any base 25 v0) (hv1 : Value.okWide Tryz.prog W .any base 28 v1) (hv2 : Value.okWide Tryz.prog W .any base 9 v2)
    {d0 d1 d2 : DataW H} {p0 p1 p2 : List MemPlace} (h0 : DataW.Trod enc Tryz.prog W 0 (fun _ => true) true 25 v0 d0 p0) (h1 : DataW.Trod enc Tryz.prog W 0 (fun _ => true) true 28 v1 d1 p1) (h2 : DataW.Trod enc Tryz.prog W 0 (fun _ => true) true 9 v2 d2 p2) :
    Calls Tryz.prog 3 #[v0, v1, v2] W (Gv.TrueBelow W) := by
  obtain ⟨kind, party, A, n, c, nums, A', m, c', texts, rfl, hk, hp, hn, hm, ha, ha', hr⟩ := cmd_in2 hv0 h0
  obtain ⟨err, R, rn, rc, rnums, R', rm, rc', rtexts, rfl, hk2, _, _, _, _, hr2⟩ := rep_in2 hv1 h1
  obtain ⟨mo, rfl⟩ := text_in hv2 h2
  exact (bytesLaw kind party A n c nums A' m c' texts err R rn rc rnums R' rm rc' rtexts mo W hk hp hn hm ha ha' hr hk2 hr2 (fun W' => (aliveAny5 W').mono fun _ _ h => h)).mono fun _ _ h => h
end Go.Proofs.YthlpdficpmdebaaGreat.Wire
