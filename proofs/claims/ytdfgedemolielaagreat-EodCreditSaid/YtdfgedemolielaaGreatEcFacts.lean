/- EodCredit: what the row's closed cells say of the program, limb by limb. -/
import Derived.Test.YtdfgedemolielaaGreatEcF
import Derived.Test.YtdfgedemolielaaGreatFx0
import Derived.Test.YtdfgedemolielaaGreatFx1
import Derived.Test.YtdfgedemolielaaGreatFx3
namespace Go.Proofs.YtdfgedemolielaaGreat.eodCredit
open Go Go.ChangeShapes Go.WideShapes Go.ChangeAt Go.RowKit
set_option maxHeartbeats 20000000 in
theorem limb0 : (Rows.eodCreditRow.wf (OpenSpec.ofChange Rows.eodCreditSpec) : Bool) = true := by kernel_rfl
set_option maxHeartbeats 20000000 in
theorem limb1 : (laidOutB Tryz.pinned.checked.prog : Bool) = true := cells.laid
set_option maxHeartbeats 20000000 in
theorem limb2 : (mapsRowed Tryz.pinned.checked.prog : Bool) = true := cells.maps
set_option maxHeartbeats 20000000 in
theorem limb3 : (Tryz.f4.params.all (Tryz.pinned.checked.prog.readableRec ·) : Bool) = true := by kernel_rfl
set_option maxHeartbeats 20000000 in
theorem limb4 : (namedTie Tryz.pinned.checked.prog Rows.eodCreditRow.named Rows.eodCreditSpec.vars : Bool) = true := by kernel_rfl
set_option maxHeartbeats 20000000 in
theorem limb5 : ((Rows.eodCreditRow.stops == []) : Bool) = true := by kernel_rfl
set_option maxHeartbeats 20000000 in
theorem limb6 : ((Tryz.pinned.checked.prog.stops == []) : Bool) = true := by kernel_rfl
set_option maxHeartbeats 20000000 in
theorem limb7 : ((Rows.eodCreditRow.knobs == []) : Bool) = true := by kernel_rfl
set_option maxHeartbeats 20000000 in
theorem limb8 : ((Tryz.pinned.checked.prog.stopKnobs == []) : Bool) = true := by kernel_rfl
set_option maxHeartbeats 20000000 in
theorem limb9 : ((Rows.eodCreditRow.inPlace == Tryz.pinned.checked.prog.inPlace 4) : Bool) = true := by
  unfold Program.inPlace
  rw [clo]
  kernel_rfl
set_option maxHeartbeats 20000000 in
theorem limb10 : ((Rows.eodCreditRow.unfollowed == Tryz.pinned.checked.prog.unfollowed 4) : Bool) = true := by
  unfold Program.unfollowed
  rw [clo]
  kernel_rfl
set_option maxHeartbeats 20000000 in
theorem limb11 : ((Rows.eodCreditRow.recurses == Tryz.pinned.checked.prog.recurses 4) : Bool) = true := by
  unfold Program.recurses Program.unfollowed
  rw [clo]
  kernel_rfl
set_option maxHeartbeats 20000000 in
theorem limb12 : ((Rows.eodCreditRow.named == Tryz.pinned.checked.prog.varsNamed 4) : Bool) = true := by
  unfold Program.varsNamed
  rw [clo]
  kernel_rfl
set_option maxHeartbeats 20000000 in
theorem limb13 : ((Rows.eodCreditRow.maps == (Tryz.f4.params.toList ++ Rows.eodCreditSpec.plain.varTypes Tryz.pinned.checked.prog).any (Tryz.pinned.checked.prog.mapsRec ·)) : Bool) = true := by kernel_rfl
set_option maxHeartbeats 20000000 in
theorem limb14 : ((Rows.eodCreditRow.ifaces == (Tryz.f4.params.toList ++ Rows.eodCreditSpec.plain.varTypes Tryz.pinned.checked.prog).any (Tryz.pinned.checked.prog.ifacesRec ·)) : Bool) = true := by kernel_rfl
set_option maxHeartbeats 20000000 in
theorem limb15 : ((Rows.eodCreditRow.mapsOut == Tryz.pinned.checked.prog.mapsAmong Tryz.f4.resultTypes.toList) : Bool) = true := by kernel_rfl
set_option maxHeartbeats 20000000 in
theorem limb16 : ((Rows.eodCreditRow.loops == (Tryz.f4.params.toList ++ Rows.eodCreditSpec.plain.varTypes Tryz.pinned.checked.prog).any (Tryz.pinned.checked.prog.loopsFrom ·)) : Bool) = true := by kernel_rfl
set_option maxHeartbeats 20000000 in
theorem limb17 : ((Rows.eodCreditRow.wideKeys == (Tryz.f4.params.toList ++ Rows.eodCreditSpec.plain.varTypes Tryz.pinned.checked.prog ++ Tryz.f4.resultTypes.toList).any (Tryz.pinned.checked.prog.wideKeysFrom ·)) : Bool) = true := by kernel_rfl
set_option maxHeartbeats 20000000 in
theorem limb18 : (Rows.eodCreditSpec.vars.all (Tryz.pinned.checked.prog.varReadable ·) : Bool) = true := by kernel_rfl
set_option maxHeartbeats 20000000 in
theorem limb19 : (Tryz.f4.resultTypes.all (fun t => Tryz.pinned.checked.prog.readableRec t && decide (t < Tryz.pinned.checked.prog.types.size)) : Bool) = true := by kernel_rfl
set_option maxHeartbeats 20000000 in
theorem limb20 : ((Rows.eodCreditRow.ifacesOut == Tryz.f4.resultTypes.toList.any (Tryz.pinned.checked.prog.ifacesRec ·)) : Bool) = true := by kernel_rfl
set_option maxHeartbeats 20000000 in
theorem limb21 : ((Rows.eodCreditRow.loopsOut == Tryz.f4.resultTypes.toList.any (Tryz.pinned.checked.prog.loopsFrom ·)) : Bool) = true := by kernel_rfl
set_option maxHeartbeats 20000000 in
theorem limb22 : ((Rows.eodCreditRow.plainKeys == Tryz.pinned.checked.prog.plainKeys) : Bool) = true := by kernel_rfl
set_option maxHeartbeats 20000000 in
theorem limb23 : (Rows.eodCreditRow.shortTexts.isNone : Bool) = true := by kernel_rfl
set_option maxHeartbeats 20000000 in
theorem limb24 : (Tryz.pinned.checked.prog.stopsHeard : Bool) = true := by kernel_rfl
set_option maxHeartbeats 20000000 in
theorem limb25 : (Tryz.pinned.checked.prog.mayEnter : Bool) = true := cells.mayEnter
set_option maxHeartbeats 20000000 in
theorem limb26 : ((Rows.eodCreditRow.lifted == Tryz.pinned.checked.prog.liftsFinal) : Bool) = true := by kernel_rfl
set_option maxHeartbeats 20000000 in
theorem limb27 : ((Tryz.pinned.checked.prog.make == some Rows.eodCreditRow.make) : Bool) = true := by kernel_rfl
set_option maxHeartbeats 20000000 in
theorem limb28 : ((Rows.eodCreditRow.kinds == (if Rows.eodCreditRow.domain.isEmpty then [] else Tryz.f4.params.toList.map fun t => match Tryz.pinned.checked.prog.underlying t with | some (.int k) => some k | _ => none)) : Bool) = true := by kernel_rfl
set_option maxHeartbeats 20000000 in
theorem limb29 : ((Rows.eodCreditRow.pinned == Rows.eodCreditRow.pinnedBy) : Bool) = true := by kernel_rfl
set_option maxHeartbeats 20000000 in
theorem limb30 : ((Rows.eodCreditRow.veiled == (Tryz.f4.params.toList ++ Rows.eodCreditSpec.plain.varTypes Tryz.pinned.checked.prog ++ Tryz.f4.resultTypes.toList).any (Tryz.pinned.checked.prog.veiledRec ·)) : Bool) = true := by kernel_rfl
set_option maxHeartbeats 20000000 in
theorem limb31 : (Rows.eodCreditRow.veiledFits Tryz.pinned.checked.prog Tryz.f4.params.toList (Tryz.f4.params.toList ++ Rows.eodCreditSpec.plain.varTypes Tryz.pinned.checked.prog ++ Tryz.f4.resultTypes.toList) : Bool) = true := by kernel_rfl
theorem closed : joinedFacts Tryz.pinned.checked.prog 4 Tryz.f4 Rows.eodCreditSpec Rows.eodCreditRow = true := by
  unfold joinedFacts
  simp only [Bool.and_eq_true]
  repeat' apply And.intro
  · exact limb0
  · exact limb1
  · exact limb2
  · exact limb3
  · exact limb4
  · exact limb5
  · exact limb6
  · exact limb7
  · exact limb8
  · exact limb9
  · exact limb10
  · exact limb11
  · exact limb12
  · exact limb13
  · exact limb14
  · exact limb15
  · exact limb16
  · exact limb17
  · exact limb18
  · exact limb19
  · exact limb20
  · exact limb21
  · exact limb22
  · exact limb23
  · exact limb24
  · exact limb25
  · exact limb26
  · exact limb27
  · as_aux_lemma => kernel_rfl
  · exact limb29
  · exact limb30
  · exact limb31
end Go.Proofs.YtdfgedemolielaaGreat.eodCredit
