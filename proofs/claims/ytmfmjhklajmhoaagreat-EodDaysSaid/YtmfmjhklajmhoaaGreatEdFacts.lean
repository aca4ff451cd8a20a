/- EodDays: what the row's closed cells say of the program, limb by limb. -/
import Derived.Test.YtmfmjhklajmhoaaGreatEdF
import Derived.Test.YtmfmjhklajmhoaaGreatFx0
import Derived.Test.YtmfmjhklajmhoaaGreatFx1
import Derived.Test.YtmfmjhklajmhoaaGreatFx3
namespace Go.Proofs.YtmfmjhklajmhoaaGreat.eodDays
open Go Go.ChangeShapes Go.WideShapes Go.ChangeAt Go.RowKit
set_option maxHeartbeats 20000000 in
theorem limb0 : (Rows.eodDaysRow.wf (OpenSpec.ofChange Rows.eodDaysSpec) : Bool) = true := by kernel_rfl
set_option maxHeartbeats 20000000 in
theorem limb1 : (laidOutB Tryz.pinned.checked.prog : Bool) = true := cells.laid
set_option maxHeartbeats 20000000 in
theorem limb2 : (mapsRowed Tryz.pinned.checked.prog : Bool) = true := cells.maps
set_option maxHeartbeats 20000000 in
theorem limb3 : (Tryz.f3.params.all (Tryz.pinned.checked.prog.readableRec ·) : Bool) = true := by kernel_rfl
set_option maxHeartbeats 20000000 in
theorem limb4 : (namedTie Tryz.pinned.checked.prog Rows.eodDaysRow.named Rows.eodDaysSpec.vars : Bool) = true := by kernel_rfl
set_option maxHeartbeats 20000000 in
theorem limb5 : ((Rows.eodDaysRow.stops == []) : Bool) = true := by kernel_rfl
set_option maxHeartbeats 20000000 in
theorem limb6 : ((Tryz.pinned.checked.prog.stops == []) : Bool) = true := by kernel_rfl
set_option maxHeartbeats 20000000 in
theorem limb7 : ((Rows.eodDaysRow.knobs == []) : Bool) = true := by kernel_rfl
set_option maxHeartbeats 20000000 in
theorem limb8 : ((Tryz.pinned.checked.prog.stopKnobs == []) : Bool) = true := by kernel_rfl
set_option maxHeartbeats 20000000 in
theorem limb9 : ((Rows.eodDaysRow.inPlace == Tryz.pinned.checked.prog.inPlace 3) : Bool) = true := by
  unfold Program.inPlace
  rw [clo]
  kernel_rfl
set_option maxHeartbeats 20000000 in
theorem limb10 : ((Rows.eodDaysRow.unfollowed == Tryz.pinned.checked.prog.unfollowed 3) : Bool) = true := by
  unfold Program.unfollowed
  rw [clo]
  kernel_rfl
set_option maxHeartbeats 20000000 in
theorem limb11 : ((Rows.eodDaysRow.recurses == Tryz.pinned.checked.prog.recurses 3) : Bool) = true := by
  unfold Program.recurses Program.unfollowed
  rw [clo]
  kernel_rfl
set_option maxHeartbeats 20000000 in
theorem limb12 : ((Rows.eodDaysRow.named == Tryz.pinned.checked.prog.varsNamed 3) : Bool) = true := by
  unfold Program.varsNamed
  rw [clo]
  kernel_rfl
set_option maxHeartbeats 20000000 in
theorem limb13 : ((Rows.eodDaysRow.maps == (Tryz.f3.params.toList ++ Rows.eodDaysSpec.plain.varTypes Tryz.pinned.checked.prog).any (Tryz.pinned.checked.prog.mapsRec ·)) : Bool) = true := by kernel_rfl
set_option maxHeartbeats 20000000 in
theorem limb14 : ((Rows.eodDaysRow.ifaces == (Tryz.f3.params.toList ++ Rows.eodDaysSpec.plain.varTypes Tryz.pinned.checked.prog).any (Tryz.pinned.checked.prog.ifacesRec ·)) : Bool) = true := by kernel_rfl
set_option maxHeartbeats 20000000 in
theorem limb15 : ((Rows.eodDaysRow.mapsOut == Tryz.pinned.checked.prog.mapsAmong Tryz.f3.resultTypes.toList) : Bool) = true := by kernel_rfl
set_option maxHeartbeats 20000000 in
theorem limb16 : ((Rows.eodDaysRow.loops == (Tryz.f3.params.toList ++ Rows.eodDaysSpec.plain.varTypes Tryz.pinned.checked.prog).any (Tryz.pinned.checked.prog.loopsFrom ·)) : Bool) = true := by kernel_rfl
set_option maxHeartbeats 20000000 in
theorem limb17 : ((Rows.eodDaysRow.wideKeys == (Tryz.f3.params.toList ++ Rows.eodDaysSpec.plain.varTypes Tryz.pinned.checked.prog ++ Tryz.f3.resultTypes.toList).any (Tryz.pinned.checked.prog.wideKeysFrom ·)) : Bool) = true := by kernel_rfl
set_option maxHeartbeats 20000000 in
theorem limb18 : (Rows.eodDaysSpec.vars.all (Tryz.pinned.checked.prog.varReadable ·) : Bool) = true := by kernel_rfl
set_option maxHeartbeats 20000000 in
theorem limb19 : (Tryz.f3.resultTypes.all (fun t => Tryz.pinned.checked.prog.readableRec t && decide (t < Tryz.pinned.checked.prog.types.size)) : Bool) = true := by kernel_rfl
set_option maxHeartbeats 20000000 in
theorem limb20 : ((Rows.eodDaysRow.ifacesOut == Tryz.f3.resultTypes.toList.any (Tryz.pinned.checked.prog.ifacesRec ·)) : Bool) = true := by kernel_rfl
set_option maxHeartbeats 20000000 in
theorem limb21 : ((Rows.eodDaysRow.loopsOut == Tryz.f3.resultTypes.toList.any (Tryz.pinned.checked.prog.loopsFrom ·)) : Bool) = true := by kernel_rfl
set_option maxHeartbeats 20000000 in
theorem limb22 : ((Rows.eodDaysRow.plainKeys == Tryz.pinned.checked.prog.plainKeys) : Bool) = true := by kernel_rfl
set_option maxHeartbeats 20000000 in
theorem limb23 : (Rows.eodDaysRow.shortTexts.isNone : Bool) = true := by kernel_rfl
set_option maxHeartbeats 20000000 in
theorem limb24 : (Tryz.pinned.checked.prog.stopsHeard : Bool) = true := by kernel_rfl
set_option maxHeartbeats 20000000 in
theorem limb25 : (Tryz.pinned.checked.prog.mayEnter : Bool) = true := cells.mayEnter
set_option maxHeartbeats 20000000 in
theorem limb26 : ((Rows.eodDaysRow.lifted == Tryz.pinned.checked.prog.liftsFinal) : Bool) = true := by kernel_rfl
set_option maxHeartbeats 20000000 in
theorem limb27 : ((Tryz.pinned.checked.prog.make == some Rows.eodDaysRow.make) : Bool) = true := by kernel_rfl
set_option maxHeartbeats 20000000 in
theorem limb28 : ((Rows.eodDaysRow.kinds == (if Rows.eodDaysRow.domain.isEmpty then [] else Tryz.f3.params.toList.map fun t => match Tryz.pinned.checked.prog.underlying t with | some (.int k) => some k | _ => none)) : Bool) = true := by kernel_rfl
set_option maxHeartbeats 20000000 in
theorem limb29 : ((Rows.eodDaysRow.pinned == Rows.eodDaysRow.pinnedBy) : Bool) = true := by kernel_rfl
set_option maxHeartbeats 20000000 in
theorem limb30 : ((Rows.eodDaysRow.veiled == (Tryz.f3.params.toList ++ Rows.eodDaysSpec.plain.varTypes Tryz.pinned.checked.prog ++ Tryz.f3.resultTypes.toList).any (Tryz.pinned.checked.prog.veiledRec ·)) : Bool) = true := by kernel_rfl
set_option maxHeartbeats 20000000 in
theorem limb31 : (Rows.eodDaysRow.veiledFits Tryz.pinned.checked.prog Tryz.f3.params.toList (Tryz.f3.params.toList ++ Rows.eodDaysSpec.plain.varTypes Tryz.pinned.checked.prog ++ Tryz.f3.resultTypes.toList) : Bool) = true := by kernel_rfl
theorem closed : joinedFacts Tryz.pinned.checked.prog 3 Tryz.f3 Rows.eodDaysSpec Rows.eodDaysRow = true := by
  unfold joinedFacts
  simp only [Bool.and_eq_true]
  repeat' apply And.intro
  · exact limb0
  · exact limb1
  · exact limb2
  · exact limb3
  · exact limb4
  · exact limb5
  · exact limb6
  · exact limb7
  · exact limb8
  · exact limb9
  · exact limb10
  · exact limb11
  · exact limb12
  · exact limb13
  · exact limb14
  · exact limb15
  · exact limb16
  · exact limb17
  · exact limb18
  · exact limb19
  · exact limb20
  · exact limb21
  · exact limb22
  · exact limb23
  · exact limb24
  · exact limb25
  · exact limb26
  · exact limb27
  · as_aux_lemma => kernel_rfl
  · exact limb29
  · exact limb30
  · exact limb31
end Go.Proofs.YtmfmjhklajmhoaaGreat.eodDays
