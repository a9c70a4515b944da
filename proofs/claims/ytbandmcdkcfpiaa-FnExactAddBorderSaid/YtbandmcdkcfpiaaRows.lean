/-
  No cell of these rows narrows 'for every input' (looked for: loops, veiled, ifaces, maps, wideKeys, modest, calm, conditions, laid).
  DERIVED. THE GIVEN ROWS OF THIS SEAT. 10 by the template 'for every input the law returns true; each argument reads behind the call as it read before'; 0 by the template 'total and deterministic' (their statements: YtbandmcdkcfpiaaTotals.lean).
  GIVEN WITH THE SEED: the statements are not yours to turn. If you find one false, say at which input.
  Laid BY PROGRAM, IN A SANDBOX (cutbox-rows.mjs): the forced cells as the released guide's own fill.sh prints them over the translation b892b40066f69ae8… (all of the seat's roots in one cut). By AI agents, Wed Nov 11 2026. No macro, syntax, notation, axiom, sorry.
-/
import Derived.Test.YtbandmcdkcfpiaaChecked
import GoSem.Claim
import GoSem.ClaimJoined
import GoSem.ClaimMapViews
import Derived.JoinedTies
import Derived.KernelRfl
namespace Go.Proofs.Ytbandmcdkcfpiaa
/- THE CELL 'sum', in the pinned program and in every row, IS THE sha256 OF THE DUMP (.gsa) THAT YtbandmcdkcfpiaaProg.lean LOADS. Nothing in Lean hashes anything: it is a label: what it is worth is what the hold of that sum in a sandbox is worth. -/
noncomputable def Try.pinned : Pinned := { name := "ytbandmcdkcfpiaa", sum := "b892b40066f69ae88d945b30b031f65bbc09d6676f47fa0486a17ab7e89cb8b2", checked := Try.checked }
namespace Rows
def none {H : Type} : Left H := { results := [], args := [] }

/-- 'laws.FnExactPutPart': WHATEVER THE INPUT: true; the input reads as it did. -/
def fnExactPutPartSpec : ChangeSpec := { name := "fnExactPutPart", fn := fun _ => fun
  | [d1, d2, d3, d4] => { results := [.lit (.bool true)], args := [d1, d2, d3, d4] }
  | _ => none }
def fnExactPutPartRow : OpenClaim := { program := "ytbandmcdkcfpiaa", sum := "b892b40066f69ae88d945b30b031f65bbc09d6676f47fa0486a17ab7e89cb8b2", func := "loop.example/g01023/laws.FnExactPutPart", spec := "fnExactPutPart", unfollowed := true, recurses := true, apart := false }
def FnExactPutPartSaid : Prop := fnExactPutPartRow.holds Try.pinned (OpenSpec.ofChange fnExactPutPartSpec)

/-- ITS FALSE NEIGHBOUR: 'it returns false'. Refute it at one input. -/
def fnExactPutPartWrong : ChangeSpec := { name := "fnExactPutPart", fn := fun _ => fun
  | [d1, d2, d3, d4] => { results := [.lit (.bool false)], args := [d1, d2, d3, d4] }
  | _ => none }
def FnExactPutPartWrongFalsely : Prop := fnExactPutPartRow.holds Try.pinned (OpenSpec.ofChange fnExactPutPartWrong)

/-- 'laws.FnParts': WHATEVER THE INPUT: true; the input reads as it did. -/
def fnPartsSpec : ChangeSpec := { name := "fnParts", fn := fun _ => fun
  | [d] => { results := [.lit (.bool true)], args := [d] }
  | _ => none }
def fnPartsRow : OpenClaim := { program := "ytbandmcdkcfpiaa", sum := "b892b40066f69ae88d945b30b031f65bbc09d6676f47fa0486a17ab7e89cb8b2", func := "loop.example/g01023/laws.FnParts", spec := "fnParts", unfollowed := true, recurses := true, apart := false }
def FnPartsSaid : Prop := fnPartsRow.holds Try.pinned (OpenSpec.ofChange fnPartsSpec)

/-- ITS FALSE NEIGHBOUR: 'it returns false'. Refute it at one input. -/
def fnPartsWrong : ChangeSpec := { name := "fnParts", fn := fun _ => fun
  | [d] => { results := [.lit (.bool false)], args := [d] }
  | _ => none }
def FnPartsWrongFalsely : Prop := fnPartsRow.holds Try.pinned (OpenSpec.ofChange fnPartsWrong)

/-- 'laws.FnExactAddBorder': WHATEVER THE INPUT: true; the input reads as it did. -/
def fnExactAddBorderSpec : ChangeSpec := { name := "fnExactAddBorder", fn := fun _ => fun
  | [d1, d2] => { results := [.lit (.bool true)], args := [d1, d2] }
  | _ => none }
def fnExactAddBorderRow : OpenClaim := { program := "ytbandmcdkcfpiaa", sum := "b892b40066f69ae88d945b30b031f65bbc09d6676f47fa0486a17ab7e89cb8b2", func := "loop.example/g01023/laws.FnExactAddBorder", spec := "fnExactAddBorder", unfollowed := true, recurses := true, apart := false }
def FnExactAddBorderSaid : Prop := fnExactAddBorderRow.holds Try.pinned (OpenSpec.ofChange fnExactAddBorderSpec)

/-- ITS FALSE NEIGHBOUR: 'it returns false'. Refute it at one input. -/
def fnExactAddBorderWrong : ChangeSpec := { name := "fnExactAddBorder", fn := fun _ => fun
  | [d1, d2] => { results := [.lit (.bool false)], args := [d1, d2] }
  | _ => none }
def FnExactAddBorderWrongFalsely : Prop := fnExactAddBorderRow.holds Try.pinned (OpenSpec.ofChange fnExactAddBorderWrong)

/-- 'laws.FnExactFillArea': WHATEVER THE INPUT: true; the input reads as it did. -/
def fnExactFillAreaSpec : ChangeSpec := { name := "fnExactFillArea", fn := fun _ => fun
  | [d1, d2, d3] => { results := [.lit (.bool true)], args := [d1, d2, d3] }
  | _ => none }
def fnExactFillAreaRow : OpenClaim := { program := "ytbandmcdkcfpiaa", sum := "b892b40066f69ae88d945b30b031f65bbc09d6676f47fa0486a17ab7e89cb8b2", func := "loop.example/g01023/laws.FnExactFillArea", spec := "fnExactFillArea", unfollowed := true, recurses := true, apart := false }
def FnExactFillAreaSaid : Prop := fnExactFillAreaRow.holds Try.pinned (OpenSpec.ofChange fnExactFillAreaSpec)

/-- ITS FALSE NEIGHBOUR: 'it returns false'. Refute it at one input. -/
def fnExactFillAreaWrong : ChangeSpec := { name := "fnExactFillArea", fn := fun _ => fun
  | [d1, d2, d3] => { results := [.lit (.bool false)], args := [d1, d2, d3] }
  | _ => none }
def FnExactFillAreaWrongFalsely : Prop := fnExactFillAreaRow.holds Try.pinned (OpenSpec.ofChange fnExactFillAreaWrong)

/-- 'laws.FnRings': WHATEVER THE INPUT: true; the input reads as it did. -/
def fnRingsSpec : ChangeSpec := { name := "fnRings", fn := fun _ => fun
  | [d] => { results := [.lit (.bool true)], args := [d] }
  | _ => none }
def fnRingsRow : OpenClaim := { program := "ytbandmcdkcfpiaa", sum := "b892b40066f69ae88d945b30b031f65bbc09d6676f47fa0486a17ab7e89cb8b2", func := "loop.example/g01023/laws.FnRings", spec := "fnRings", unfollowed := true, recurses := true, apart := false }
def FnRingsSaid : Prop := fnRingsRow.holds Try.pinned (OpenSpec.ofChange fnRingsSpec)

/-- ITS FALSE NEIGHBOUR: 'it returns false'. Refute it at one input. -/
def fnRingsWrong : ChangeSpec := { name := "fnRings", fn := fun _ => fun
  | [d] => { results := [.lit (.bool false)], args := [d] }
  | _ => none }
def FnRingsWrongFalsely : Prop := fnRingsRow.holds Try.pinned (OpenSpec.ofChange fnRingsWrong)

/-- 'laws.FnBorders': WHATEVER THE INPUT: true; the input reads as it did. -/
def fnBordersSpec : ChangeSpec := { name := "fnBorders", fn := fun _ => fun
  | [d] => { results := [.lit (.bool true)], args := [d] }
  | _ => none }
def fnBordersRow : OpenClaim := { program := "ytbandmcdkcfpiaa", sum := "b892b40066f69ae88d945b30b031f65bbc09d6676f47fa0486a17ab7e89cb8b2", func := "loop.example/g01023/laws.FnBorders", spec := "fnBorders", unfollowed := true, recurses := true, apart := false }
def FnBordersSaid : Prop := fnBordersRow.holds Try.pinned (OpenSpec.ofChange fnBordersSpec)

/-- ITS FALSE NEIGHBOUR: 'it returns false'. Refute it at one input. -/
def fnBordersWrong : ChangeSpec := { name := "fnBorders", fn := fun _ => fun
  | [d] => { results := [.lit (.bool false)], args := [d] }
  | _ => none }
def FnBordersWrongFalsely : Prop := fnBordersRow.holds Try.pinned (OpenSpec.ofChange fnBordersWrong)

/-- 'laws.FnRepeats': WHATEVER THE INPUT: true; the input reads as it did. -/
def fnRepeatsSpec : ChangeSpec := { name := "fnRepeats", fn := fun _ => fun
  | [d] => { results := [.lit (.bool true)], args := [d] }
  | _ => none }
def fnRepeatsRow : OpenClaim := { program := "ytbandmcdkcfpiaa", sum := "b892b40066f69ae88d945b30b031f65bbc09d6676f47fa0486a17ab7e89cb8b2", func := "loop.example/g01023/laws.FnRepeats", spec := "fnRepeats", unfollowed := true, recurses := true, apart := false }
def FnRepeatsSaid : Prop := fnRepeatsRow.holds Try.pinned (OpenSpec.ofChange fnRepeatsSpec)

/-- ITS FALSE NEIGHBOUR: 'it returns false'. Refute it at one input. -/
def fnRepeatsWrong : ChangeSpec := { name := "fnRepeats", fn := fun _ => fun
  | [d] => { results := [.lit (.bool false)], args := [d] }
  | _ => none }
def FnRepeatsWrongFalsely : Prop := fnRepeatsRow.holds Try.pinned (OpenSpec.ofChange fnRepeatsWrong)

/-- 'laws.FnPeriods': WHATEVER THE INPUT: true; the input reads as it did. -/
def fnPeriodsSpec : ChangeSpec := { name := "fnPeriods", fn := fun _ => fun
  | [d] => { results := [.lit (.bool true)], args := [d] }
  | _ => none }
def fnPeriodsRow : OpenClaim := { program := "ytbandmcdkcfpiaa", sum := "b892b40066f69ae88d945b30b031f65bbc09d6676f47fa0486a17ab7e89cb8b2", func := "loop.example/g01023/laws.FnPeriods", spec := "fnPeriods", unfollowed := true, recurses := true, apart := false }
def FnPeriodsSaid : Prop := fnPeriodsRow.holds Try.pinned (OpenSpec.ofChange fnPeriodsSpec)

/-- ITS FALSE NEIGHBOUR: 'it returns false'. Refute it at one input. -/
def fnPeriodsWrong : ChangeSpec := { name := "fnPeriods", fn := fun _ => fun
  | [d] => { results := [.lit (.bool false)], args := [d] }
  | _ => none }
def FnPeriodsWrongFalsely : Prop := fnPeriodsRow.holds Try.pinned (OpenSpec.ofChange fnPeriodsWrong)

/-- 'laws.FnSymmetries': WHATEVER THE INPUT: true; the input reads as it did. -/
def fnSymmetriesSpec : ChangeSpec := { name := "fnSymmetries", fn := fun _ => fun
  | [d] => { results := [.lit (.bool true)], args := [d] }
  | _ => none }
def fnSymmetriesRow : OpenClaim := { program := "ytbandmcdkcfpiaa", sum := "b892b40066f69ae88d945b30b031f65bbc09d6676f47fa0486a17ab7e89cb8b2", func := "loop.example/g01023/laws.FnSymmetries", spec := "fnSymmetries", unfollowed := true, recurses := true, apart := false }
def FnSymmetriesSaid : Prop := fnSymmetriesRow.holds Try.pinned (OpenSpec.ofChange fnSymmetriesSpec)

/-- ITS FALSE NEIGHBOUR: 'it returns false'. Refute it at one input. -/
def fnSymmetriesWrong : ChangeSpec := { name := "fnSymmetries", fn := fun _ => fun
  | [d] => { results := [.lit (.bool false)], args := [d] }
  | _ => none }
def FnSymmetriesWrongFalsely : Prop := fnSymmetriesRow.holds Try.pinned (OpenSpec.ofChange fnSymmetriesWrong)

/-- 'laws.FnCompletion': WHATEVER THE INPUT: true; the input reads as it did. -/
def fnCompletionSpec : ChangeSpec := { name := "fnCompletion", fn := fun _ => fun
  | [d] => { results := [.lit (.bool true)], args := [d] }
  | _ => none }
def fnCompletionRow : OpenClaim := { program := "ytbandmcdkcfpiaa", sum := "b892b40066f69ae88d945b30b031f65bbc09d6676f47fa0486a17ab7e89cb8b2", func := "loop.example/g01023/laws.FnCompletion", spec := "fnCompletion", unfollowed := true, recurses := true, apart := false }
def FnCompletionSaid : Prop := fnCompletionRow.holds Try.pinned (OpenSpec.ofChange fnCompletionSpec)

/-- ITS FALSE NEIGHBOUR: 'it returns false'. Refute it at one input. -/
def fnCompletionWrong : ChangeSpec := { name := "fnCompletion", fn := fun _ => fun
  | [d] => { results := [.lit (.bool false)], args := [d] }
  | _ => none }
def FnCompletionWrongFalsely : Prop := fnCompletionRow.holds Try.pinned (OpenSpec.ofChange fnCompletionWrong)

/- THE SECOND FORM. 'bulk': how many values and letters a reading holds, each counted each time it is reached (what is shared counts as often as it is met; a slice's spare places count too). A statement '..UptoSaid' is the law's where the arguments, and the package variables that the reading takes, are together of bulk at most 1048576: NARROWER than '..Said'. Prove '..Said' where nothing that the law and all that it calls make is longer than what came in: it says more and counts as full. Else prove '..UptoSaid'. A law counts once. -/
mutual
def uptoBulk {H : Type} : DataW H → Nat
  | .lit (.string bytes) => bytes.length + 1
  | .lit _ => 1
  | .nil => 1
  | .ptr d => uptoBulk d + 1
  | .slice elems spare => uptoBulkAll elems + uptoBulkAll spare + 1
  | .agg parts => uptoBulkAll parts + 1
  | .iface _ d => uptoBulk d + 1
  | .map entries => uptoBulkEntries entries + 1
  | .held _ => 1
def uptoBulkAll {H : Type} : List (DataW H) → Nat
  | [] => 0
  | d :: r => uptoBulk d + uptoBulkAll r
def uptoBulkEntries {H : Type} : List (Lit × DataW H) → Nat
  | [] => 0
  | x :: r => uptoBulkEntry x + uptoBulkEntries r
def uptoBulkEntry {H : Type} : Lit × DataW H → Nat
  | (.string bytes, d) => bytes.length + uptoBulk d + 1
  | (_, d) => uptoBulk d + 1
 end
def uptoSmall : (H : Type) → List (DataW H) → Bool := fun _ ds => decide (uptoBulkAll ds ≤ 1048576)
def OpenSpec.upto (s : _root_.Go.ChangeSpec) : _root_.Go.OpenSpec := { _root_.Go.OpenSpec.ofChange s with cond := some uptoSmall }

/-- 'laws.FnExactPutPart', WHERE WHAT IT READS IS OF BULK AT MOST 1048576: true; the input reads as it did. -/
def fnExactPutPartUptoRow : OpenClaim := { program := "ytbandmcdkcfpiaa", sum := "b892b40066f69ae88d945b30b031f65bbc09d6676f47fa0486a17ab7e89cb8b2", func := "loop.example/g01023/laws.FnExactPutPart", spec := "fnExactPutPart", unfollowed := true, recurses := true, apart := false, narrowed := true }
def FnExactPutPartUptoSaid : Prop := fnExactPutPartUptoRow.holds Try.pinned (OpenSpec.upto fnExactPutPartSpec)

/-- 'laws.FnParts', WHERE WHAT IT READS IS OF BULK AT MOST 1048576: true; the input reads as it did. -/
def fnPartsUptoRow : OpenClaim := { program := "ytbandmcdkcfpiaa", sum := "b892b40066f69ae88d945b30b031f65bbc09d6676f47fa0486a17ab7e89cb8b2", func := "loop.example/g01023/laws.FnParts", spec := "fnParts", unfollowed := true, recurses := true, apart := false, narrowed := true }
def FnPartsUptoSaid : Prop := fnPartsUptoRow.holds Try.pinned (OpenSpec.upto fnPartsSpec)

/-- 'laws.FnExactAddBorder', WHERE WHAT IT READS IS OF BULK AT MOST 1048576: true; the input reads as it did. -/
def fnExactAddBorderUptoRow : OpenClaim := { program := "ytbandmcdkcfpiaa", sum := "b892b40066f69ae88d945b30b031f65bbc09d6676f47fa0486a17ab7e89cb8b2", func := "loop.example/g01023/laws.FnExactAddBorder", spec := "fnExactAddBorder", unfollowed := true, recurses := true, apart := false, narrowed := true }
def FnExactAddBorderUptoSaid : Prop := fnExactAddBorderUptoRow.holds Try.pinned (OpenSpec.upto fnExactAddBorderSpec)

/-- 'laws.FnExactFillArea', WHERE WHAT IT READS IS OF BULK AT MOST 1048576: true; the input reads as it did. -/
def fnExactFillAreaUptoRow : OpenClaim := { program := "ytbandmcdkcfpiaa", sum := "b892b40066f69ae88d945b30b031f65bbc09d6676f47fa0486a17ab7e89cb8b2", func := "loop.example/g01023/laws.FnExactFillArea", spec := "fnExactFillArea", unfollowed := true, recurses := true, apart := false, narrowed := true }
def FnExactFillAreaUptoSaid : Prop := fnExactFillAreaUptoRow.holds Try.pinned (OpenSpec.upto fnExactFillAreaSpec)

/-- 'laws.FnRings', WHERE WHAT IT READS IS OF BULK AT MOST 1048576: true; the input reads as it did. -/
def fnRingsUptoRow : OpenClaim := { program := "ytbandmcdkcfpiaa", sum := "b892b40066f69ae88d945b30b031f65bbc09d6676f47fa0486a17ab7e89cb8b2", func := "loop.example/g01023/laws.FnRings", spec := "fnRings", unfollowed := true, recurses := true, apart := false, narrowed := true }
def FnRingsUptoSaid : Prop := fnRingsUptoRow.holds Try.pinned (OpenSpec.upto fnRingsSpec)

/-- 'laws.FnBorders', WHERE WHAT IT READS IS OF BULK AT MOST 1048576: true; the input reads as it did. -/
def fnBordersUptoRow : OpenClaim := { program := "ytbandmcdkcfpiaa", sum := "b892b40066f69ae88d945b30b031f65bbc09d6676f47fa0486a17ab7e89cb8b2", func := "loop.example/g01023/laws.FnBorders", spec := "fnBorders", unfollowed := true, recurses := true, apart := false, narrowed := true }
def FnBordersUptoSaid : Prop := fnBordersUptoRow.holds Try.pinned (OpenSpec.upto fnBordersSpec)

/-- 'laws.FnRepeats', WHERE WHAT IT READS IS OF BULK AT MOST 1048576: true; the input reads as it did. -/
def fnRepeatsUptoRow : OpenClaim := { program := "ytbandmcdkcfpiaa", sum := "b892b40066f69ae88d945b30b031f65bbc09d6676f47fa0486a17ab7e89cb8b2", func := "loop.example/g01023/laws.FnRepeats", spec := "fnRepeats", unfollowed := true, recurses := true, apart := false, narrowed := true }
def FnRepeatsUptoSaid : Prop := fnRepeatsUptoRow.holds Try.pinned (OpenSpec.upto fnRepeatsSpec)

/-- 'laws.FnPeriods', WHERE WHAT IT READS IS OF BULK AT MOST 1048576: true; the input reads as it did. -/
def fnPeriodsUptoRow : OpenClaim := { program := "ytbandmcdkcfpiaa", sum := "b892b40066f69ae88d945b30b031f65bbc09d6676f47fa0486a17ab7e89cb8b2", func := "loop.example/g01023/laws.FnPeriods", spec := "fnPeriods", unfollowed := true, recurses := true, apart := false, narrowed := true }
def FnPeriodsUptoSaid : Prop := fnPeriodsUptoRow.holds Try.pinned (OpenSpec.upto fnPeriodsSpec)

/-- 'laws.FnSymmetries', WHERE WHAT IT READS IS OF BULK AT MOST 1048576: true; the input reads as it did. -/
def fnSymmetriesUptoRow : OpenClaim := { program := "ytbandmcdkcfpiaa", sum := "b892b40066f69ae88d945b30b031f65bbc09d6676f47fa0486a17ab7e89cb8b2", func := "loop.example/g01023/laws.FnSymmetries", spec := "fnSymmetries", unfollowed := true, recurses := true, apart := false, narrowed := true }
def FnSymmetriesUptoSaid : Prop := fnSymmetriesUptoRow.holds Try.pinned (OpenSpec.upto fnSymmetriesSpec)

/-- 'laws.FnCompletion', WHERE WHAT IT READS IS OF BULK AT MOST 1048576: true; the input reads as it did. -/
def fnCompletionUptoRow : OpenClaim := { program := "ytbandmcdkcfpiaa", sum := "b892b40066f69ae88d945b30b031f65bbc09d6676f47fa0486a17ab7e89cb8b2", func := "loop.example/g01023/laws.FnCompletion", spec := "fnCompletion", unfollowed := true, recurses := true, apart := false, narrowed := true }
def FnCompletionUptoSaid : Prop := fnCompletionUptoRow.holds Try.pinned (OpenSpec.upto fnCompletionSpec)

end Rows
end Go.Proofs.Ytbandmcdkcfpiaa
