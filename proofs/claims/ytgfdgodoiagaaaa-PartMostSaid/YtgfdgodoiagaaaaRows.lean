/-
  No cell of these rows narrows 'for every input' (looked for: loops, veiled, ifaces, maps, wideKeys, modest, calm, conditions, laid).
  DERIVED. THE GIVEN ROWS OF THIS SEAT. 3 by the template 'for every input the law returns true; each argument reads behind the call as it read before'; 0 by the template 'total and deterministic' (their statements: YtgfdgodoiagaaaaTotals.lean).
  GIVEN WITH THE SEED: the statements are not yours to turn. If you find one false, say at which input.
  Laid BY PROGRAM, IN A SANDBOX (cutbox-rows.mjs): the forced cells as the released guide's own fill.sh prints them over the translation e86647cd66f7c7f3… (all of the seat's roots in one cut). By AI agents, Wed Nov 11 2026. No macro, syntax, notation, axiom, sorry.
-/
import Derived.Test.YtgfdgodoiagaaaaChecked
import GoSem.Claim
import GoSem.ClaimJoined
import GoSem.ClaimMapViews
import Derived.JoinedTies
import Derived.KernelRfl
namespace Go.Proofs.Ytgfdgodoiagaaaa
/- THE CELL 'sum', in the pinned program and in every row, IS THE sha256 OF THE DUMP (.gsa) THAT YtgfdgodoiagaaaaProg.lean LOADS. Nothing in Lean hashes anything: it is a label: what it is worth is what the hold of that sum in a sandbox is worth. -/
noncomputable def Try.pinned : Pinned := { name := "ytgfdgodoiagaaaa", sum := "e86647cd66f7c7f3d8a9e4361e43561d13310448e1429194bca85b8fe1d52ede", checked := Try.checked }
namespace Rows
def none {H : Type} : Left H := { results := [], args := [] }

/-- 'complinelaw23.PartTells': WHATEVER THE INPUT: true; the input reads as it did. -/
def partTellsSpec : ChangeSpec := { name := "partTells", fn := fun _ => fun
  | [d1, d2, d3, d4, d5, d6] => { results := [.lit (.bool true)], args := [d1, d2, d3, d4, d5, d6] }
  | _ => none }
def partTellsRow : OpenClaim := { program := "ytgfdgodoiagaaaa", sum := "e86647cd66f7c7f3d8a9e4361e43561d13310448e1429194bca85b8fe1d52ede", func := "compline/complinelaw23.PartTells", spec := "partTells", apart := false }
def PartTellsSaid : Prop := partTellsRow.holds Try.pinned (OpenSpec.ofChange partTellsSpec)

/-- ITS FALSE NEIGHBOUR: 'it returns false'. Refute it at one input. -/
def partTellsWrong : ChangeSpec := { name := "partTells", fn := fun _ => fun
  | [d1, d2, d3, d4, d5, d6] => { results := [.lit (.bool false)], args := [d1, d2, d3, d4, d5, d6] }
  | _ => none }
def PartTellsWrongFalsely : Prop := partTellsRow.holds Try.pinned (OpenSpec.ofChange partTellsWrong)

/-- 'complinelaw23.PartMost': WHATEVER THE INPUT: true; the input reads as it did. -/
def partMostSpec : ChangeSpec := { name := "partMost", fn := fun _ => fun
  | [d1, d2, d3, d4] => { results := [.lit (.bool true)], args := [d1, d2, d3, d4] }
  | _ => none }
def partMostRow : OpenClaim := { program := "ytgfdgodoiagaaaa", sum := "e86647cd66f7c7f3d8a9e4361e43561d13310448e1429194bca85b8fe1d52ede", func := "compline/complinelaw23.PartMost", spec := "partMost", apart := false }
def PartMostSaid : Prop := partMostRow.holds Try.pinned (OpenSpec.ofChange partMostSpec)

/-- ITS FALSE NEIGHBOUR: 'it returns false'. Refute it at one input. -/
def partMostWrong : ChangeSpec := { name := "partMost", fn := fun _ => fun
  | [d1, d2, d3, d4] => { results := [.lit (.bool false)], args := [d1, d2, d3, d4] }
  | _ => none }
def PartMostWrongFalsely : Prop := partMostRow.holds Try.pinned (OpenSpec.ofChange partMostWrong)

/-- 'complinelaw23.PartSteps': WHATEVER THE INPUT: true; the input reads as it did. -/
def partStepsSpec : ChangeSpec := { name := "partSteps", fn := fun _ => fun
  | [d1, d2, d3, d4, d5] => { results := [.lit (.bool true)], args := [d1, d2, d3, d4, d5] }
  | _ => none }
def partStepsRow : OpenClaim := { program := "ytgfdgodoiagaaaa", sum := "e86647cd66f7c7f3d8a9e4361e43561d13310448e1429194bca85b8fe1d52ede", func := "compline/complinelaw23.PartSteps", spec := "partSteps", apart := false }
def PartStepsSaid : Prop := partStepsRow.holds Try.pinned (OpenSpec.ofChange partStepsSpec)

/-- ITS FALSE NEIGHBOUR: 'it returns false'. Refute it at one input. -/
def partStepsWrong : ChangeSpec := { name := "partSteps", fn := fun _ => fun
  | [d1, d2, d3, d4, d5] => { results := [.lit (.bool false)], args := [d1, d2, d3, d4, d5] }
  | _ => none }
def PartStepsWrongFalsely : Prop := partStepsRow.holds Try.pinned (OpenSpec.ofChange partStepsWrong)

/- THE SECOND FORM. 'bulk': how many values and letters a reading holds, each counted each time it is reached (what is shared counts as often as it is met; a slice's spare places count too). A statement '..UptoSaid' is the law's where the arguments, and the package variables that the reading takes, are together of bulk at most 1048576: NARROWER than '..Said'. Prove '..Said' where nothing that the law and all that it calls make is longer than what came in: it says more and counts as full. Else prove '..UptoSaid'. A law counts once. -/
mutual
def uptoBulk {H : Type} : DataW H → Nat
  | .lit (.string bytes) => bytes.length + 1
  | .lit _ => 1
  | .nil => 1
  | .ptr d => uptoBulk d + 1
  | .slice elems spare => uptoBulkAll elems + uptoBulkAll spare + 1
  | .agg parts => uptoBulkAll parts + 1
  | .iface _ d => uptoBulk d + 1
  | .map entries => uptoBulkEntries entries + 1
  | .held _ => 1
def uptoBulkAll {H : Type} : List (DataW H) → Nat
  | [] => 0
  | d :: r => uptoBulk d + uptoBulkAll r
def uptoBulkEntries {H : Type} : List (Lit × DataW H) → Nat
  | [] => 0
  | x :: r => uptoBulkEntry x + uptoBulkEntries r
def uptoBulkEntry {H : Type} : Lit × DataW H → Nat
  | (.string bytes, d) => bytes.length + uptoBulk d + 1
  | (_, d) => uptoBulk d + 1
 end
def uptoSmall : (H : Type) → List (DataW H) → Bool := fun _ ds => decide (uptoBulkAll ds ≤ 1048576)
def OpenSpec.upto (s : _root_.Go.ChangeSpec) : _root_.Go.OpenSpec := { _root_.Go.OpenSpec.ofChange s with cond := some uptoSmall }

/-- 'complinelaw23.PartTells', WHERE WHAT IT READS IS OF BULK AT MOST 1048576: true; the input reads as it did. -/
def partTellsUptoRow : OpenClaim := { program := "ytgfdgodoiagaaaa", sum := "e86647cd66f7c7f3d8a9e4361e43561d13310448e1429194bca85b8fe1d52ede", func := "compline/complinelaw23.PartTells", spec := "partTells", apart := false, narrowed := true }
def PartTellsUptoSaid : Prop := partTellsUptoRow.holds Try.pinned (OpenSpec.upto partTellsSpec)

/-- 'complinelaw23.PartMost', WHERE WHAT IT READS IS OF BULK AT MOST 1048576: true; the input reads as it did. -/
def partMostUptoRow : OpenClaim := { program := "ytgfdgodoiagaaaa", sum := "e86647cd66f7c7f3d8a9e4361e43561d13310448e1429194bca85b8fe1d52ede", func := "compline/complinelaw23.PartMost", spec := "partMost", apart := false, narrowed := true }
def PartMostUptoSaid : Prop := partMostUptoRow.holds Try.pinned (OpenSpec.upto partMostSpec)

/-- 'complinelaw23.PartSteps', WHERE WHAT IT READS IS OF BULK AT MOST 1048576: true; the input reads as it did. -/
def partStepsUptoRow : OpenClaim := { program := "ytgfdgodoiagaaaa", sum := "e86647cd66f7c7f3d8a9e4361e43561d13310448e1429194bca85b8fe1d52ede", func := "compline/complinelaw23.PartSteps", spec := "partSteps", apart := false, narrowed := true }
def PartStepsUptoSaid : Prop := partStepsUptoRow.holds Try.pinned (OpenSpec.upto partStepsSpec)

end Rows
end Go.Proofs.Ytgfdgodoiagaaaa
