/-
  No cell of these rows narrows 'for every input' (looked for: loops, veiled, ifaces, maps, wideKeys, modest, calm, conditions, laid).
  DERIVED. THE GIVEN ROWS OF THIS SEAT. 3 by the template 'for every input the law returns true; each argument reads behind the call as it read before'; 0 by the template 'total and deterministic' (their statements: YtegfcailcgogpaaGreatTotals.lean).
  GIVEN WITH THE SEED: the statements are not yours to turn. If you find one false, say at which input.
  Laid BY PROGRAM, IN A SANDBOX (cutbox-rows.mjs): the forced cells as the released guide's own fill.sh prints them over the translation 7104dfdcf34905cf… (all of the seat's roots in one cut). By AI agents, Wed Nov 11 2026. No macro, syntax, notation, axiom, sorry.
-/
import Derived.Test.YtegfcailcgogpaaGreatChecked
import GoSem.Claim
import GoSem.ClaimJoined
import GoSem.ClaimMapViews
import Derived.JoinedTies
import Derived.KernelRfl
namespace Go.Proofs.YtegfcailcgogpaaGreat
/- THE CELL 'sum', in the pinned program and in every row, IS THE sha256 OF THE DUMP (.gsa) THAT YtegfcailcgogpaaGreatProg.lean LOADS. Nothing in Lean hashes anything: it is a label: what it is worth is what the hold of that sum in a sandbox is worth. -/
noncomputable def Tryz.pinned : Pinned := { name := "ytegfcailcgogpaagreat", sum := "7104dfdcf34905cfbe4e6108c9706910a9ffe511736ea53f7c232b603b80e74e", checked := Tryz.checked }
namespace Rows
def none {H : Type} : Left H := { results := [], args := [] }

/-- 'complinelaw25.OptLacks': WHATEVER THE INPUT: true; the input reads as it did. -/
def optLacksSpec : ChangeSpec := { name := "optLacks", fn := fun _ => fun
  | [d1, d2, d3, d4, d5] => { results := [.lit (.bool true)], args := [d1, d2, d3, d4, d5] }
  | _ => none }
def optLacksRow : OpenClaim := { program := "ytegfcailcgogpaagreat", sum := "7104dfdcf34905cfbe4e6108c9706910a9ffe511736ea53f7c232b603b80e74e", func := "compline/complinelaw25.OptLacks", spec := "optLacks", inPlace := ["maps.clone", "math/bits.Add64"], unfollowed := true, recurses := true, named := ["math/bits.divideError", "math/bits.overflowError"], plainKeys := false, apart := false }
def OptLacksSaid : Prop := optLacksRow.holds Tryz.pinned (OpenSpec.ofChange optLacksSpec)

/-- ITS FALSE NEIGHBOUR: 'it returns false'. Refute it at one input. -/
def optLacksWrong : ChangeSpec := { name := "optLacks", fn := fun _ => fun
  | [d1, d2, d3, d4, d5] => { results := [.lit (.bool false)], args := [d1, d2, d3, d4, d5] }
  | _ => none }
def OptLacksWrongFalsely : Prop := optLacksRow.holds Tryz.pinned (OpenSpec.ofChange optLacksWrong)

/-- 'complinelaw25.OptRing': WHATEVER THE INPUT: true; the input reads as it did. -/
def optRingSpec : ChangeSpec := { name := "optRing", fn := fun _ => fun
  | [d1, d2, d3] => { results := [.lit (.bool true)], args := [d1, d2, d3] }
  | _ => none }
def optRingRow : OpenClaim := { program := "ytegfcailcgogpaagreat", sum := "7104dfdcf34905cfbe4e6108c9706910a9ffe511736ea53f7c232b603b80e74e", func := "compline/complinelaw25.OptRing", spec := "optRing", inPlace := ["maps.clone", "math/bits.Add64"], unfollowed := true, recurses := true, named := ["math/bits.divideError", "math/bits.overflowError"], plainKeys := false, apart := false }
def OptRingSaid : Prop := optRingRow.holds Tryz.pinned (OpenSpec.ofChange optRingSpec)

/-- ITS FALSE NEIGHBOUR: 'it returns false'. Refute it at one input. -/
def optRingWrong : ChangeSpec := { name := "optRing", fn := fun _ => fun
  | [d1, d2, d3] => { results := [.lit (.bool false)], args := [d1, d2, d3] }
  | _ => none }
def OptRingWrongFalsely : Prop := optRingRow.holds Tryz.pinned (OpenSpec.ofChange optRingWrong)

/-- 'complinelaw25.OptLends': WHATEVER THE INPUT: true; the input reads as it did. -/
def optLendsSpec : ChangeSpec := { name := "optLends", fn := fun _ => fun
  | [d1, d2, d3] => { results := [.lit (.bool true)], args := [d1, d2, d3] }
  | _ => none }
def optLendsRow : OpenClaim := { program := "ytegfcailcgogpaagreat", sum := "7104dfdcf34905cfbe4e6108c9706910a9ffe511736ea53f7c232b603b80e74e", func := "compline/complinelaw25.OptLends", spec := "optLends", inPlace := ["maps.clone", "math/bits.Add64"], unfollowed := true, recurses := true, named := ["math/bits.divideError", "math/bits.overflowError"], plainKeys := false, apart := false }
def OptLendsSaid : Prop := optLendsRow.holds Tryz.pinned (OpenSpec.ofChange optLendsSpec)

/-- ITS FALSE NEIGHBOUR: 'it returns false'. Refute it at one input. -/
def optLendsWrong : ChangeSpec := { name := "optLends", fn := fun _ => fun
  | [d1, d2, d3] => { results := [.lit (.bool false)], args := [d1, d2, d3] }
  | _ => none }
def OptLendsWrongFalsely : Prop := optLendsRow.holds Tryz.pinned (OpenSpec.ofChange optLendsWrong)

/- THE SECOND FORM. 'bulk': how many values and letters a reading holds, each counted each time it is reached (what is shared counts as often as it is met; a slice's spare places count too). A statement '..UptoSaid' is the law's where the arguments, and the package variables that the reading takes, are together of bulk at most 1048576: NARROWER than '..Said'. Prove '..Said' where nothing that the law and all that it calls make is longer than what came in: it says more and counts as full. Else prove '..UptoSaid'. A law counts once. -/
mutual
def uptoBulk {H : Type} : DataW H → Nat
  | .lit (.string bytes) => bytes.length + 1
  | .lit _ => 1
  | .nil => 1
  | .ptr d => uptoBulk d + 1
  | .slice elems spare => uptoBulkAll elems + uptoBulkAll spare + 1
  | .agg parts => uptoBulkAll parts + 1
  | .iface _ d => uptoBulk d + 1
  | .map entries => uptoBulkEntries entries + 1
  | .held _ => 1
def uptoBulkAll {H : Type} : List (DataW H) → Nat
  | [] => 0
  | d :: r => uptoBulk d + uptoBulkAll r
def uptoBulkEntries {H : Type} : List (Lit × DataW H) → Nat
  | [] => 0
  | x :: r => uptoBulkEntry x + uptoBulkEntries r
def uptoBulkEntry {H : Type} : Lit × DataW H → Nat
  | (.string bytes, d) => bytes.length + uptoBulk d + 1
  | (_, d) => uptoBulk d + 1
 end
def uptoSmall : (H : Type) → List (DataW H) → Bool := fun _ ds => decide (uptoBulkAll ds ≤ 1048576)
def OpenSpec.upto (s : _root_.Go.ChangeSpec) : _root_.Go.OpenSpec := { _root_.Go.OpenSpec.ofChange s with cond := some uptoSmall }

/-- 'complinelaw25.OptLacks', WHERE WHAT IT READS IS OF BULK AT MOST 1048576: true; the input reads as it did. -/
def optLacksUptoRow : OpenClaim := { program := "ytegfcailcgogpaagreat", sum := "7104dfdcf34905cfbe4e6108c9706910a9ffe511736ea53f7c232b603b80e74e", func := "compline/complinelaw25.OptLacks", spec := "optLacks", inPlace := ["maps.clone", "math/bits.Add64"], unfollowed := true, recurses := true, named := ["math/bits.divideError", "math/bits.overflowError"], plainKeys := false, apart := false, narrowed := true }
def OptLacksUptoSaid : Prop := optLacksUptoRow.holds Tryz.pinned (OpenSpec.upto optLacksSpec)

/-- 'complinelaw25.OptRing', WHERE WHAT IT READS IS OF BULK AT MOST 1048576: true; the input reads as it did. -/
def optRingUptoRow : OpenClaim := { program := "ytegfcailcgogpaagreat", sum := "7104dfdcf34905cfbe4e6108c9706910a9ffe511736ea53f7c232b603b80e74e", func := "compline/complinelaw25.OptRing", spec := "optRing", inPlace := ["maps.clone", "math/bits.Add64"], unfollowed := true, recurses := true, named := ["math/bits.divideError", "math/bits.overflowError"], plainKeys := false, apart := false, narrowed := true }
def OptRingUptoSaid : Prop := optRingUptoRow.holds Tryz.pinned (OpenSpec.upto optRingSpec)

/-- 'complinelaw25.OptLends', WHERE WHAT IT READS IS OF BULK AT MOST 1048576: true; the input reads as it did. -/
def optLendsUptoRow : OpenClaim := { program := "ytegfcailcgogpaagreat", sum := "7104dfdcf34905cfbe4e6108c9706910a9ffe511736ea53f7c232b603b80e74e", func := "compline/complinelaw25.OptLends", spec := "optLends", inPlace := ["maps.clone", "math/bits.Add64"], unfollowed := true, recurses := true, named := ["math/bits.divideError", "math/bits.overflowError"], plainKeys := false, apart := false, narrowed := true }
def OptLendsUptoSaid : Prop := optLendsUptoRow.holds Tryz.pinned (OpenSpec.upto optLendsSpec)

end Rows
end Go.Proofs.YtegfcailcgogpaaGreat
