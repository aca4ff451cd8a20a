/- CmdBytes: what the row's closed cells say of the program, limb by limb. -/
import Derived.Test.YthlpdficpmdebaaGreatByF
import Derived.Test.YthlpdficpmdebaaGreatFx0
import Derived.Test.YthlpdficpmdebaaGreatFx1
import Derived.Test.YthlpdficpmdebaaGreatFx3
namespace Go.Proofs.YthlpdficpmdebaaGreat.cmdBytes
open Go Go.ChangeShapes Go.WideShapes Go.ChangeAt Go.RowKit
set_option maxHeartbeats 20000000 in
theorem limb0 : (Rows.cmdBytesRow.wf (OpenSpec.ofChange Rows.cmdBytesSpec) : Bool) = true := by kernel_rfl
set_option maxHeartbeats 20000000 in
theorem limb1 : (laidOutB Tryz.pinned.checked.prog : Bool) = true := cells.laid
set_option maxHeartbeats 20000000 in
theorem limb2 : (mapsRowed Tryz.pinned.checked.prog : Bool) = true := cells.maps
set_option maxHeartbeats 20000000 in
theorem limb3 : (Tryz.f3.params.all (Tryz.pinned.checked.prog.readableRec ·) : Bool) = true := by kernel_rfl
set_option maxHeartbeats 20000000 in
theorem limb4 : (namedTie Tryz.pinned.checked.prog Rows.cmdBytesRow.named Rows.cmdBytesSpec.vars : Bool) = true := by kernel_rfl
set_option maxHeartbeats 20000000 in
theorem limb5 : ((Rows.cmdBytesRow.stops == []) : Bool) = true := by kernel_rfl
set_option maxHeartbeats 20000000 in
theorem limb6 : ((Tryz.pinned.checked.prog.stops == []) : Bool) = true := by kernel_rfl
set_option maxHeartbeats 20000000 in
theorem limb7 : ((Rows.cmdBytesRow.knobs == []) : Bool) = true := by kernel_rfl
set_option maxHeartbeats 20000000 in
theorem limb8 : ((Tryz.pinned.checked.prog.stopKnobs == []) : Bool) = true := by kernel_rfl
set_option maxHeartbeats 20000000 in
theorem limb9 : ((Rows.cmdBytesRow.inPlace == Tryz.pinned.checked.prog.inPlace 3) : Bool) = true := by
  unfold Program.inPlace
  rw [clo]
  kernel_rfl
set_option maxHeartbeats 20000000 in
theorem limb10 : ((Rows.cmdBytesRow.unfollowed == Tryz.pinned.checked.prog.unfollowed 3) : Bool) = true := by
  unfold Program.unfollowed
  rw [clo]
  kernel_rfl
set_option maxHeartbeats 20000000 in
theorem limb11 : ((Rows.cmdBytesRow.recurses == Tryz.pinned.checked.prog.recurses 3) : Bool) = true := by
  unfold Program.recurses Program.unfollowed
  rw [clo]
  kernel_rfl
set_option maxHeartbeats 20000000 in
theorem limb12 : ((Rows.cmdBytesRow.named == Tryz.pinned.checked.prog.varsNamed 3) : Bool) = true := by
  unfold Program.varsNamed
  rw [clo]
  kernel_rfl
set_option maxHeartbeats 20000000 in
theorem limb13 : ((Rows.cmdBytesRow.maps == (Tryz.f3.params.toList ++ Rows.cmdBytesSpec.plain.varTypes Tryz.pinned.checked.prog).any (Tryz.pinned.checked.prog.mapsRec ·)) : Bool) = true := by kernel_rfl
set_option maxHeartbeats 20000000 in
theorem limb14 : ((Rows.cmdBytesRow.ifaces == (Tryz.f3.params.toList ++ Rows.cmdBytesSpec.plain.varTypes Tryz.pinned.checked.prog).any (Tryz.pinned.checked.prog.ifacesRec ·)) : Bool) = true := by kernel_rfl
set_option maxHeartbeats 20000000 in
theorem limb15 : ((Rows.cmdBytesRow.mapsOut == Tryz.pinned.checked.prog.mapsAmong Tryz.f3.resultTypes.toList) : Bool) = true := by kernel_rfl
set_option maxHeartbeats 20000000 in
theorem limb16 : ((Rows.cmdBytesRow.loops == (Tryz.f3.params.toList ++ Rows.cmdBytesSpec.plain.varTypes Tryz.pinned.checked.prog).any (Tryz.pinned.checked.prog.loopsFrom ·)) : Bool) = true := by kernel_rfl
set_option maxHeartbeats 20000000 in
theorem limb17 : ((Rows.cmdBytesRow.wideKeys == (Tryz.f3.params.toList ++ Rows.cmdBytesSpec.plain.varTypes Tryz.pinned.checked.prog ++ Tryz.f3.resultTypes.toList).any (Tryz.pinned.checked.prog.wideKeysFrom ·)) : Bool) = true := by kernel_rfl
set_option maxHeartbeats 20000000 in
theorem limb18 : (Rows.cmdBytesSpec.vars.all (Tryz.pinned.checked.prog.varReadable ·) : Bool) = true := by kernel_rfl
set_option maxHeartbeats 20000000 in
theorem limb19 : (Tryz.f3.resultTypes.all (fun t => Tryz.pinned.checked.prog.readableRec t && decide (t < Tryz.pinned.checked.prog.types.size)) : Bool) = true := by kernel_rfl
set_option maxHeartbeats 20000000 in
theorem limb20 : ((Rows.cmdBytesRow.ifacesOut == Tryz.f3.resultTypes.toList.any (Tryz.pinned.checked.prog.ifacesRec ·)) : Bool) = true := by kernel_rfl
set_option maxHeartbeats 20000000 in
theorem limb21 : ((Rows.cmdBytesRow.loopsOut == Tryz.f3.resultTypes.toList.any (Tryz.pinned.checked.prog.loopsFrom ·)) : Bool) = true := by kernel_rfl
set_option maxHeartbeats 20000000 in
theorem limb22 : ((Rows.cmdBytesRow.plainKeys == Tryz.pinned.checked.prog.plainKeys) : Bool) = true := by kernel_rfl
set_option maxHeartbeats 20000000 in
theorem limb23 : (Rows.cmdBytesRow.shortTexts.isNone : Bool) = true := by kernel_rfl
set_option maxHeartbeats 20000000 in
theorem limb24 : (Tryz.pinned.checked.prog.stopsHeard : Bool) = true := by kernel_rfl
set_option maxHeartbeats 20000000 in
theorem limb25 : (Tryz.pinned.checked.prog.mayEnter : Bool) = true := cells.mayEnter
set_option maxHeartbeats 20000000 in
theorem limb26 : ((Rows.cmdBytesRow.lifted == Tryz.pinned.checked.prog.liftsFinal) : Bool) = true := by kernel_rfl
set_option maxHeartbeats 20000000 in
theorem limb27 : ((Tryz.pinned.checked.prog.make == some Rows.cmdBytesRow.make) : Bool) = true := by kernel_rfl
set_option maxHeartbeats 20000000 in
theorem limb28 : ((Rows.cmdBytesRow.kinds == (if Rows.cmdBytesRow.domain.isEmpty then [] else Tryz.f3.params.toList.map fun t => match Tryz.pinned.checked.prog.underlying t with | some (.int k) => some k | _ => none)) : Bool) = true := by kernel_rfl
set_option maxHeartbeats 20000000 in
theorem limb29 : ((Rows.cmdBytesRow.pinned == Rows.cmdBytesRow.pinnedBy) : Bool) = true := by kernel_rfl
set_option maxHeartbeats 20000000 in
theorem limb30 : ((Rows.cmdBytesRow.veiled == (Tryz.f3.params.toList ++ Rows.cmdBytesSpec.plain.varTypes Tryz.pinned.checked.prog ++ Tryz.f3.resultTypes.toList).any (Tryz.pinned.checked.prog.veiledRec ·)) : Bool) = true := by kernel_rfl
set_option maxHeartbeats 20000000 in
theorem limb31 : (Rows.cmdBytesRow.veiledFits Tryz.pinned.checked.prog Tryz.f3.params.toList (Tryz.f3.params.toList ++ Rows.cmdBytesSpec.plain.varTypes Tryz.pinned.checked.prog ++ Tryz.f3.resultTypes.toList) : Bool) = true := by kernel_rfl
theorem closed : joinedFacts Tryz.pinned.checked.prog 3 Tryz.f3 Rows.cmdBytesSpec Rows.cmdBytesRow = true := by
  unfold joinedFacts
  simp only [Bool.and_eq_true]
  repeat' apply And.intro
  · exact limb0
  · exact limb1
  · exact limb2
  · exact limb3
  · exact limb4
  · exact limb5
  · exact limb6
  · exact limb7
  · exact limb8
  · exact limb9
  · exact limb10
  · exact limb11
  · exact limb12
  · exact limb13
  · exact limb14
  · exact limb15
  · exact limb16
  · exact limb17
  · exact limb18
  · exact limb19
  · exact limb20
  · exact limb21
  · exact limb22
  · exact limb23
  · exact limb24
  · exact limb25
  · exact limb26
  · exact limb27
  · as_aux_lemma => kernel_rfl
  · exact limb29
  · exact limb30
  · exact limb31
end Go.Proofs.YthlpdficpmdebaaGreat.cmdBytes
