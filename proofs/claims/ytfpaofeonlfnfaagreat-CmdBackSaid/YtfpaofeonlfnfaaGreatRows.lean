/-
  No cell of these rows narrows 'for every input' (looked for: loops, veiled, ifaces, maps, wideKeys, modest, calm, conditions, laid).
  DERIVED. THE GIVEN ROWS OF THIS SEAT. 3 by the template 'for every input the law returns true; each argument reads behind the call as it read before'; 0 by the template 'total and deterministic' (their statements: YtfpaofeonlfnfaaGreatTotals.lean).
  GIVEN WITH THE SEED: the statements are not yours to turn. If you find one false, say at which input.
  Laid BY PROGRAM, IN A SANDBOX (cutbox-rows.mjs): the forced cells as the released guide's own fill.sh prints them over the translation 2c945e769dd22bff… (all of the seat's roots in one cut). By AI agents, Wed Nov 11 2026. No macro, syntax, notation, axiom, sorry.
-/
import Derived.Test.YtfpaofeonlfnfaaGreatChecked
import GoSem.Claim
import GoSem.ClaimJoined
import GoSem.ClaimMapViews
import Derived.JoinedTies
import Derived.KernelRfl
namespace Go.Proofs.YtfpaofeonlfnfaaGreat
/- THE CELL 'sum', in the pinned program and in every row, IS THE sha256 OF THE DUMP (.gsa) THAT YtfpaofeonlfnfaaGreatProg.lean LOADS. Nothing in Lean hashes anything: it is a label: what it is worth is what the hold of that sum in a sandbox is worth. -/
noncomputable def Tryz.pinned : Pinned := { name := "ytfpaofeonlfnfaagreat", sum := "2c945e769dd22bff30911850ea3eb32929b21ddc0225d2bfe198d135c63e71de", checked := Tryz.checked }
namespace Rows
def none {H : Type} : Left H := { results := [], args := [] }

/-- 'complinelaw26.BatchParts': WHATEVER THE INPUT: true; the input reads as it did. -/
def batchPartsSpec : ChangeSpec := { name := "batchParts", fn := fun _ => fun
  | [d1, d2, d3, d4, d5] => { results := [.lit (.bool true)], args := [d1, d2, d3, d4, d5] }
  | _ => none }
def batchPartsRow : OpenClaim := { program := "ytfpaofeonlfnfaagreat", sum := "2c945e769dd22bff30911850ea3eb32929b21ddc0225d2bfe198d135c63e71de", func := "compline/complinelaw26.BatchParts", spec := "batchParts", inPlace := ["maps.clone", "math/bits.Add64"], unfollowed := true, recurses := true, named := ["math/bits.divideError", "math/bits.overflowError"], plainKeys := false, apart := false }
def BatchPartsSaid : Prop := batchPartsRow.holds Tryz.pinned (OpenSpec.ofChange batchPartsSpec)

/-- ITS FALSE NEIGHBOUR: 'it returns false'. Refute it at one input. -/
def batchPartsWrong : ChangeSpec := { name := "batchParts", fn := fun _ => fun
  | [d1, d2, d3, d4, d5] => { results := [.lit (.bool false)], args := [d1, d2, d3, d4, d5] }
  | _ => none }
def BatchPartsWrongFalsely : Prop := batchPartsRow.holds Tryz.pinned (OpenSpec.ofChange batchPartsWrong)

/-- 'complinelaw28.CmdNone': WHATEVER THE INPUT: true; the input reads as it did. -/
def cmdNoneSpec : ChangeSpec := { name := "cmdNone", fn := fun _ => fun
  | [d] => { results := [.lit (.bool true)], args := [d] }
  | _ => none }
def cmdNoneRow : OpenClaim := { program := "ytfpaofeonlfnfaagreat", sum := "2c945e769dd22bff30911850ea3eb32929b21ddc0225d2bfe198d135c63e71de", func := "compline/complinelaw28.CmdNone", spec := "cmdNone", inPlace := ["maps.clone", "math/bits.Add64"], unfollowed := true, recurses := true, named := ["math/bits.divideError", "math/bits.overflowError"], plainKeys := false, apart := false }
def CmdNoneSaid : Prop := cmdNoneRow.holds Tryz.pinned (OpenSpec.ofChange cmdNoneSpec)

/-- ITS FALSE NEIGHBOUR: 'it returns false'. Refute it at one input. -/
def cmdNoneWrong : ChangeSpec := { name := "cmdNone", fn := fun _ => fun
  | [d] => { results := [.lit (.bool false)], args := [d] }
  | _ => none }
def CmdNoneWrongFalsely : Prop := cmdNoneRow.holds Tryz.pinned (OpenSpec.ofChange cmdNoneWrong)

/-- 'complinelaw28.CmdBack': WHATEVER THE INPUT: true; the input reads as it did. -/
def cmdBackSpec : ChangeSpec := { name := "cmdBack", fn := fun _ => fun
  | [d1, d2, d3] => { results := [.lit (.bool true)], args := [d1, d2, d3] }
  | _ => none }
def cmdBackRow : OpenClaim := { program := "ytfpaofeonlfnfaagreat", sum := "2c945e769dd22bff30911850ea3eb32929b21ddc0225d2bfe198d135c63e71de", func := "compline/complinelaw28.CmdBack", spec := "cmdBack", inPlace := ["maps.clone", "math/bits.Add64"], unfollowed := true, recurses := true, named := ["math/bits.divideError", "math/bits.overflowError"], plainKeys := false, apart := false }
def CmdBackSaid : Prop := cmdBackRow.holds Tryz.pinned (OpenSpec.ofChange cmdBackSpec)

/-- ITS FALSE NEIGHBOUR: 'it returns false'. Refute it at one input. -/
def cmdBackWrong : ChangeSpec := { name := "cmdBack", fn := fun _ => fun
  | [d1, d2, d3] => { results := [.lit (.bool false)], args := [d1, d2, d3] }
  | _ => none }
def CmdBackWrongFalsely : Prop := cmdBackRow.holds Tryz.pinned (OpenSpec.ofChange cmdBackWrong)

/- THE SECOND FORM. 'bulk': how many values and letters a reading holds, each counted each time it is reached (what is shared counts as often as it is met; a slice's spare places count too). A statement '..UptoSaid' is the law's where the arguments, and the package variables that the reading takes, are together of bulk at most 1048576: NARROWER than '..Said'. Prove '..Said' where nothing that the law and all that it calls make is longer than what came in: it says more and counts as full. Else prove '..UptoSaid'. A law counts once. -/
mutual
def uptoBulk {H : Type} : DataW H → Nat
  | .lit (.string bytes) => bytes.length + 1
  | .lit _ => 1
  | .nil => 1
  | .ptr d => uptoBulk d + 1
  | .slice elems spare => uptoBulkAll elems + uptoBulkAll spare + 1
  | .agg parts => uptoBulkAll parts + 1
  | .iface _ d => uptoBulk d + 1
  | .map entries => uptoBulkEntries entries + 1
  | .held _ => 1
def uptoBulkAll {H : Type} : List (DataW H) → Nat
  | [] => 0
  | d :: r => uptoBulk d + uptoBulkAll r
def uptoBulkEntries {H : Type} : List (Lit × DataW H) → Nat
  | [] => 0
  | x :: r => uptoBulkEntry x + uptoBulkEntries r
def uptoBulkEntry {H : Type} : Lit × DataW H → Nat
  | (.string bytes, d) => bytes.length + uptoBulk d + 1
  | (_, d) => uptoBulk d + 1
 end
def uptoSmall : (H : Type) → List (DataW H) → Bool := fun _ ds => decide (uptoBulkAll ds ≤ 1048576)
def OpenSpec.upto (s : _root_.Go.ChangeSpec) : _root_.Go.OpenSpec := { _root_.Go.OpenSpec.ofChange s with cond := some uptoSmall }

/-- 'complinelaw26.BatchParts', WHERE WHAT IT READS IS OF BULK AT MOST 1048576: true; the input reads as it did. -/
def batchPartsUptoRow : OpenClaim := { program := "ytfpaofeonlfnfaagreat", sum := "2c945e769dd22bff30911850ea3eb32929b21ddc0225d2bfe198d135c63e71de", func := "compline/complinelaw26.BatchParts", spec := "batchParts", inPlace := ["maps.clone", "math/bits.Add64"], unfollowed := true, recurses := true, named := ["math/bits.divideError", "math/bits.overflowError"], plainKeys := false, apart := false, narrowed := true }
def BatchPartsUptoSaid : Prop := batchPartsUptoRow.holds Tryz.pinned (OpenSpec.upto batchPartsSpec)

/-- 'complinelaw28.CmdNone', WHERE WHAT IT READS IS OF BULK AT MOST 1048576: true; the input reads as it did. -/
def cmdNoneUptoRow : OpenClaim := { program := "ytfpaofeonlfnfaagreat", sum := "2c945e769dd22bff30911850ea3eb32929b21ddc0225d2bfe198d135c63e71de", func := "compline/complinelaw28.CmdNone", spec := "cmdNone", inPlace := ["maps.clone", "math/bits.Add64"], unfollowed := true, recurses := true, named := ["math/bits.divideError", "math/bits.overflowError"], plainKeys := false, apart := false, narrowed := true }
def CmdNoneUptoSaid : Prop := cmdNoneUptoRow.holds Tryz.pinned (OpenSpec.upto cmdNoneSpec)

/-- 'complinelaw28.CmdBack', WHERE WHAT IT READS IS OF BULK AT MOST 1048576: true; the input reads as it did. -/
def cmdBackUptoRow : OpenClaim := { program := "ytfpaofeonlfnfaagreat", sum := "2c945e769dd22bff30911850ea3eb32929b21ddc0225d2bfe198d135c63e71de", func := "compline/complinelaw28.CmdBack", spec := "cmdBack", inPlace := ["maps.clone", "math/bits.Add64"], unfollowed := true, recurses := true, named := ["math/bits.divideError", "math/bits.overflowError"], plainKeys := false, apart := false, narrowed := true }
def CmdBackUptoSaid : Prop := cmdBackUptoRow.holds Tryz.pinned (OpenSpec.upto cmdBackSpec)

end Rows
end Go.Proofs.YtfpaofeonlfnfaaGreat
