/- complinelaw28.CmdBytes: for every input the call returns true, and each argument reads afterwards as before. No condition. -/
import Derived.Test.YthlpdficpmdebaaGreatByEnd
import Derived.Test.YthlpdficpmdebaaGreatByFacts
import Derived.WalkKit
import Derived.ProofKit
import Derived.OpenShut
namespace Go.Proofs.YthlpdficpmdebaaGreat.cmdBytes
open Go.ChangeShapes Go.WideShapes Go.ChangeAt Go.RowKit Gv
theorem own : ownKnob Tryz.prog.godebug = none := by kernel_rfl
theorem laidOut : laidOutB Tryz.prog = true := cells.laid
theorem rec9 : Tryz.prog.readableRec 9 = true := by kernel_rfl
theorem row9 : 9 < Tryz.prog.types.size := of_decide_eq_true (by kernel_rfl)
theorem rec25 : Tryz.prog.readableRec 25 = true := by kernel_rfl
theorem row25 : 25 < Tryz.prog.types.size := of_decide_eq_true (by kernel_rfl)
theorem rec28 : Tryz.prog.readableRec 28 = true := by kernel_rfl
theorem row28 : 28 < Tryz.prog.types.size := of_decide_eq_true (by kernel_rfl)
set_option maxRecDepth 100000 in
theorem lifted (os : Os) (started : os.Started) (H : Type) (enc : TypeId × Value → H) :
    ReturnsInHanded {} Tryz.checked os 3 .any (Rows.cmdBytesSpec.pre6 enc Tryz.prog Tryz.f3 Rows.cmdBytesRow.domain false) (Rows.cmdBytesSpec.post enc Tryz.prog Tryz.f3 false true false false) := by
  refine returnsInHanded_of_change (C := Tryz.checked) own started (by kernel_rfl) Tryz.func3
    (ChangeSpec.witness6 (enc := enc) (C := Tryz.checked) false ⟨#[], #[.agg #[.int .i64 0, .string ByteArray.empty, .slice none 0 0, .slice none 0 0], .agg #[.int .i64 0, .slice none 0 0, .slice none 0 0], .string ByteArray.empty], []⟩ 8 (by kernel_rfl) (by kernel_rfl) (by kernel_rfl) (by kernel_rfl)) ?_
  intro W base args ds gs before hval0 hW _ _
  have hval : ∀ (j : Nat) t v, Tryz.f3.params[j]? = some t → args[j]? = some v → Value.okWide Tryz.prog W .any base t v := hval0
  have hW' := hW
  obtain ⟨p, q, hA0, hV, rfl, _, _⟩ := hW
  have hA : DataW.TrodAll enc Tryz.prog W 0 (fun _ => true) true Tryz.f3.params.toList args.toList ds p := hA0
  rw [Tryz.params3] at hA hval
  obtain ⟨v0, vs0, d0, ds0, p0, q0, hargs, rfl, rfl, h0, r0⟩ := trodAll_cons hA
  obtain ⟨v1, vs1, d1, ds1, p1, q1, rfl, rfl, rfl, h1, r1⟩ := trodAll_cons r0
  obtain ⟨v2, vs2, d2, ds2, p2, q2, rfl, rfl, rfl, h2, r2⟩ := trodAll_cons r1
  obtain ⟨rfl, rfl, rfl⟩ := trodAll_nil r2
  obtain rfl : args = #[v0, v1, v2] := by cases args; simp_all
  obtain ⟨rfl, rfl⟩ := trodVars_none hV
  clear hA0 hval0
  simp only [List.append_nil] at hW'
  refine (Wire.bytesWalk W base v0 v1 v2 (hval 0 25 v0 rfl rfl) (hval 1 28 v1 rfl rfl) (hval 2 9 v2 rfl rfl) h0 h1 h2).mono fun e W' ⟨he, hg⟩ => ?_
  subst he
  refine ⟨_, rfl, post_of_below (pa := p0 ++ (p1 ++ (p2 ++ []))) (pv := []) hW' (fun _ _ _ => (trodAll_cons_mk (shut_bool Tryz.underlying4 _) trodAll_mk0)) (fun sp hsp => (trodAll_cons_mk (stays laidOut rec25 row25 hg (fun x hx => hW'.lt x hx) hsp (fun x hx => by simp [hx]) h0) (trodAll_cons_mk (stays laidOut rec28 row28 hg (fun x hx => hW'.lt x hx) hsp (fun x hx => by simp [hx]) h1) (trodAll_cons_mk (stays laidOut rec9 row9 hg (fun x hx => hW'.lt x hx) hsp (fun x hx => by simp [hx]) h2) trodAll_mk0)))) (fun _ _ => rfl) (by simp) hg (ok_one (by kernel_rfl) rfl (okWide_bool_mk Tryz.underlying4 _))⟩

theorem over : Rows.cmdBytesRow.holds Tryz.pinned (OpenSpec.ofChange Rows.cmdBytesSpec) :=
  OpenClaim.holds_of_wide 3 Tryz.f3 rfl rfl rfl rfl rfl rfl rfl ⟨rfl, rfl, rfl, rfl, rfl⟩ rfl rfl rfl rfl rfl (by kernel_rfl) Tryz.func3 closed
    (of_decide_eq_true (by kernel_rfl)) (by unfold Func.isWrapper; first | (rw [if_pos (by decide +kernel)]; kernel_rfl) | (rw [if_neg (by decide +kernel)]; exact ⟨rfl, rfl⟩))
    (fun os started H enc _ => lifted os started H enc)

theorem proved : Rows.CmdBytesSaid :=
  over
#print axioms proved
end Go.Proofs.YthlpdficpmdebaaGreat.cmdBytes
