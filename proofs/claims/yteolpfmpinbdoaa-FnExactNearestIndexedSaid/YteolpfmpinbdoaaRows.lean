/-
  No cell of these rows narrows 'for every input' (looked for: loops, veiled, ifaces, maps, wideKeys, modest, calm, conditions, laid).
  DERIVED. THE GIVEN ROWS OF THIS SEAT. 8 by the template 'for every input the law returns true; each argument reads behind the call as it read before'; 0 by the template 'total and deterministic' (their statements: YteolpfmpinbdoaaTotals.lean).
  GIVEN WITH THE SEED: the statements are not yours to turn. If you find one false, say at which input.
  Laid BY PROGRAM, IN A SANDBOX (cutbox-rows.mjs): the forced cells as the released guide's own fill.sh prints them over the translation 063eeb2b91061a2f… (all of the seat's roots in one cut). By AI agents, Wed Nov 11 2026. No macro, syntax, notation, axiom, sorry.
-/
import Derived.Test.YteolpfmpinbdoaaChecked
import GoSem.Claim
import GoSem.ClaimJoined
import GoSem.ClaimMapViews
import Derived.JoinedTies
import Derived.KernelRfl
namespace Go.Proofs.Yteolpfmpinbdoaa
/- THE CELL 'sum', in the pinned program and in every row, IS THE sha256 OF THE DUMP (.gsa) THAT YteolpfmpinbdoaaProg.lean LOADS. Nothing in Lean hashes anything: it is a label: what it is worth is what the hold of that sum in a sandbox is worth. -/
noncomputable def Try.pinned : Pinned := { name := "yteolpfmpinbdoaa", sum := "063eeb2b91061a2f6884160d8e23ff25a5b92b1af493c55107b272e91d82a2c3", checked := Try.checked }
namespace Rows
def none {H : Type} : Left H := { results := [], args := [] }

/-- 'laws.FnExactAreRanges': WHATEVER THE INPUT: true; the input reads as it did. -/
def fnExactAreRangesSpec : ChangeSpec := { name := "fnExactAreRanges", fn := fun _ => fun
  | [d] => { results := [.lit (.bool true)], args := [d] }
  | _ => none }
def fnExactAreRangesRow : OpenClaim := { program := "yteolpfmpinbdoaa", sum := "063eeb2b91061a2f6884160d8e23ff25a5b92b1af493c55107b272e91d82a2c3", func := "loop.example/g01394/laws.FnExactAreRanges", spec := "fnExactAreRanges", apart := false }
def FnExactAreRangesSaid : Prop := fnExactAreRangesRow.holds Try.pinned (OpenSpec.ofChange fnExactAreRangesSpec)

/-- ITS FALSE NEIGHBOUR: 'it returns false'. Refute it at one input. -/
def fnExactAreRangesWrong : ChangeSpec := { name := "fnExactAreRanges", fn := fun _ => fun
  | [d] => { results := [.lit (.bool false)], args := [d] }
  | _ => none }
def FnExactAreRangesWrongFalsely : Prop := fnExactAreRangesRow.holds Try.pinned (OpenSpec.ofChange fnExactAreRangesWrong)

/-- 'laws.FnExactCountIndexed': WHATEVER THE INPUT: true; the input reads as it did. -/
def fnExactCountIndexedSpec : ChangeSpec := { name := "fnExactCountIndexed", fn := fun _ => fun
  | [d] => { results := [.lit (.bool true)], args := [d] }
  | _ => none }
def fnExactCountIndexedRow : OpenClaim := { program := "yteolpfmpinbdoaa", sum := "063eeb2b91061a2f6884160d8e23ff25a5b92b1af493c55107b272e91d82a2c3", func := "loop.example/g01394/laws.FnExactCountIndexed", spec := "fnExactCountIndexed", apart := false }
def FnExactCountIndexedSaid : Prop := fnExactCountIndexedRow.holds Try.pinned (OpenSpec.ofChange fnExactCountIndexedSpec)

/-- ITS FALSE NEIGHBOUR: 'it returns false'. Refute it at one input. -/
def fnExactCountIndexedWrong : ChangeSpec := { name := "fnExactCountIndexed", fn := fun _ => fun
  | [d] => { results := [.lit (.bool false)], args := [d] }
  | _ => none }
def FnExactCountIndexedWrongFalsely : Prop := fnExactCountIndexedRow.holds Try.pinned (OpenSpec.ofChange fnExactCountIndexedWrong)

/-- 'laws.FnExactLongestRange': WHATEVER THE INPUT: true; the input reads as it did. -/
def fnExactLongestRangeSpec : ChangeSpec := { name := "fnExactLongestRange", fn := fun _ => fun
  | [d] => { results := [.lit (.bool true)], args := [d] }
  | _ => none }
def fnExactLongestRangeRow : OpenClaim := { program := "yteolpfmpinbdoaa", sum := "063eeb2b91061a2f6884160d8e23ff25a5b92b1af493c55107b272e91d82a2c3", func := "loop.example/g01394/laws.FnExactLongestRange", spec := "fnExactLongestRange", apart := false }
def FnExactLongestRangeSaid : Prop := fnExactLongestRangeRow.holds Try.pinned (OpenSpec.ofChange fnExactLongestRangeSpec)

/-- ITS FALSE NEIGHBOUR: 'it returns false'. Refute it at one input. -/
def fnExactLongestRangeWrong : ChangeSpec := { name := "fnExactLongestRange", fn := fun _ => fun
  | [d] => { results := [.lit (.bool false)], args := [d] }
  | _ => none }
def FnExactLongestRangeWrongFalsely : Prop := fnExactLongestRangeRow.holds Try.pinned (OpenSpec.ofChange fnExactLongestRangeWrong)

/-- 'laws.FnExactHasIndexed': WHATEVER THE INPUT: true; the input reads as it did. -/
def fnExactHasIndexedSpec : ChangeSpec := { name := "fnExactHasIndexed", fn := fun _ => fun
  | [d1, d2] => { results := [.lit (.bool true)], args := [d1, d2] }
  | _ => none }
def fnExactHasIndexedRow : OpenClaim := { program := "yteolpfmpinbdoaa", sum := "063eeb2b91061a2f6884160d8e23ff25a5b92b1af493c55107b272e91d82a2c3", func := "loop.example/g01394/laws.FnExactHasIndexed", spec := "fnExactHasIndexed", apart := false }
def FnExactHasIndexedSaid : Prop := fnExactHasIndexedRow.holds Try.pinned (OpenSpec.ofChange fnExactHasIndexedSpec)

/-- ITS FALSE NEIGHBOUR: 'it returns false'. Refute it at one input. -/
def fnExactHasIndexedWrong : ChangeSpec := { name := "fnExactHasIndexed", fn := fun _ => fun
  | [d1, d2] => { results := [.lit (.bool false)], args := [d1, d2] }
  | _ => none }
def FnExactHasIndexedWrongFalsely : Prop := fnExactHasIndexedRow.holds Try.pinned (OpenSpec.ofChange fnExactHasIndexedWrong)

/-- 'laws.FnExactGapsBetween': WHATEVER THE INPUT: true; the input reads as it did. -/
def fnExactGapsBetweenSpec : ChangeSpec := { name := "fnExactGapsBetween", fn := fun _ => fun
  | [d] => { results := [.lit (.bool true)], args := [d] }
  | _ => none }
def fnExactGapsBetweenRow : OpenClaim := { program := "yteolpfmpinbdoaa", sum := "063eeb2b91061a2f6884160d8e23ff25a5b92b1af493c55107b272e91d82a2c3", func := "loop.example/g01394/laws.FnExactGapsBetween", spec := "fnExactGapsBetween", apart := false }
def FnExactGapsBetweenSaid : Prop := fnExactGapsBetweenRow.holds Try.pinned (OpenSpec.ofChange fnExactGapsBetweenSpec)

/-- ITS FALSE NEIGHBOUR: 'it returns false'. Refute it at one input. -/
def fnExactGapsBetweenWrong : ChangeSpec := { name := "fnExactGapsBetween", fn := fun _ => fun
  | [d] => { results := [.lit (.bool false)], args := [d] }
  | _ => none }
def FnExactGapsBetweenWrongFalsely : Prop := fnExactGapsBetweenRow.holds Try.pinned (OpenSpec.ofChange fnExactGapsBetweenWrong)

/-- 'laws.FnExactJoinGaps': WHATEVER THE INPUT: true; the input reads as it did. -/
def fnExactJoinGapsSpec : ChangeSpec := { name := "fnExactJoinGaps", fn := fun _ => fun
  | [d1, d2] => { results := [.lit (.bool true)], args := [d1, d2] }
  | _ => none }
def fnExactJoinGapsRow : OpenClaim := { program := "yteolpfmpinbdoaa", sum := "063eeb2b91061a2f6884160d8e23ff25a5b92b1af493c55107b272e91d82a2c3", func := "loop.example/g01394/laws.FnExactJoinGaps", spec := "fnExactJoinGaps", apart := false }
def FnExactJoinGapsSaid : Prop := fnExactJoinGapsRow.holds Try.pinned (OpenSpec.ofChange fnExactJoinGapsSpec)

/-- ITS FALSE NEIGHBOUR: 'it returns false'. Refute it at one input. -/
def fnExactJoinGapsWrong : ChangeSpec := { name := "fnExactJoinGaps", fn := fun _ => fun
  | [d1, d2] => { results := [.lit (.bool false)], args := [d1, d2] }
  | _ => none }
def FnExactJoinGapsWrongFalsely : Prop := fnExactJoinGapsRow.holds Try.pinned (OpenSpec.ofChange fnExactJoinGapsWrong)

/-- 'laws.FnExactNearestIndexed': WHATEVER THE INPUT: true; the input reads as it did. -/
def fnExactNearestIndexedSpec : ChangeSpec := { name := "fnExactNearestIndexed", fn := fun _ => fun
  | [d1, d2] => { results := [.lit (.bool true)], args := [d1, d2] }
  | _ => none }
def fnExactNearestIndexedRow : OpenClaim := { program := "yteolpfmpinbdoaa", sum := "063eeb2b91061a2f6884160d8e23ff25a5b92b1af493c55107b272e91d82a2c3", func := "loop.example/g01394/laws.FnExactNearestIndexed", spec := "fnExactNearestIndexed", apart := false }
def FnExactNearestIndexedSaid : Prop := fnExactNearestIndexedRow.holds Try.pinned (OpenSpec.ofChange fnExactNearestIndexedSpec)

/-- ITS FALSE NEIGHBOUR: 'it returns false'. Refute it at one input. -/
def fnExactNearestIndexedWrong : ChangeSpec := { name := "fnExactNearestIndexed", fn := fun _ => fun
  | [d1, d2] => { results := [.lit (.bool false)], args := [d1, d2] }
  | _ => none }
def FnExactNearestIndexedWrongFalsely : Prop := fnExactNearestIndexedRow.holds Try.pinned (OpenSpec.ofChange fnExactNearestIndexedWrong)

/-- 'laws.FnExactPagesOfRanges': WHATEVER THE INPUT: true; the input reads as it did. -/
def fnExactPagesOfRangesSpec : ChangeSpec := { name := "fnExactPagesOfRanges", fn := fun _ => fun
  | [d] => { results := [.lit (.bool true)], args := [d] }
  | _ => none }
def fnExactPagesOfRangesRow : OpenClaim := { program := "yteolpfmpinbdoaa", sum := "063eeb2b91061a2f6884160d8e23ff25a5b92b1af493c55107b272e91d82a2c3", func := "loop.example/g01394/laws.FnExactPagesOfRanges", spec := "fnExactPagesOfRanges", apart := false }
def FnExactPagesOfRangesSaid : Prop := fnExactPagesOfRangesRow.holds Try.pinned (OpenSpec.ofChange fnExactPagesOfRangesSpec)

/-- ITS FALSE NEIGHBOUR: 'it returns false'. Refute it at one input. -/
def fnExactPagesOfRangesWrong : ChangeSpec := { name := "fnExactPagesOfRanges", fn := fun _ => fun
  | [d] => { results := [.lit (.bool false)], args := [d] }
  | _ => none }
def FnExactPagesOfRangesWrongFalsely : Prop := fnExactPagesOfRangesRow.holds Try.pinned (OpenSpec.ofChange fnExactPagesOfRangesWrong)

/- THE SECOND FORM. 'bulk': how many values and letters a reading holds, each counted each time it is reached (what is shared counts as often as it is met; a slice's spare places count too). A statement '..UptoSaid' is the law's where the arguments, and the package variables that the reading takes, are together of bulk at most 1048576: NARROWER than '..Said'. Prove '..Said' where nothing that the law and all that it calls make is longer than what came in: it says more and counts as full. Else prove '..UptoSaid'. A law counts once. -/
mutual
def uptoBulk {H : Type} : DataW H → Nat
  | .lit (.string bytes) => bytes.length + 1
  | .lit _ => 1
  | .nil => 1
  | .ptr d => uptoBulk d + 1
  | .slice elems spare => uptoBulkAll elems + uptoBulkAll spare + 1
  | .agg parts => uptoBulkAll parts + 1
  | .iface _ d => uptoBulk d + 1
  | .map entries => uptoBulkEntries entries + 1
  | .held _ => 1
def uptoBulkAll {H : Type} : List (DataW H) → Nat
  | [] => 0
  | d :: r => uptoBulk d + uptoBulkAll r
def uptoBulkEntries {H : Type} : List (Lit × DataW H) → Nat
  | [] => 0
  | x :: r => uptoBulkEntry x + uptoBulkEntries r
def uptoBulkEntry {H : Type} : Lit × DataW H → Nat
  | (.string bytes, d) => bytes.length + uptoBulk d + 1
  | (_, d) => uptoBulk d + 1
 end
def uptoSmall : (H : Type) → List (DataW H) → Bool := fun _ ds => decide (uptoBulkAll ds ≤ 1048576)
def OpenSpec.upto (s : _root_.Go.ChangeSpec) : _root_.Go.OpenSpec := { _root_.Go.OpenSpec.ofChange s with cond := some uptoSmall }

/-- 'laws.FnExactAreRanges', WHERE WHAT IT READS IS OF BULK AT MOST 1048576: true; the input reads as it did. -/
def fnExactAreRangesUptoRow : OpenClaim := { program := "yteolpfmpinbdoaa", sum := "063eeb2b91061a2f6884160d8e23ff25a5b92b1af493c55107b272e91d82a2c3", func := "loop.example/g01394/laws.FnExactAreRanges", spec := "fnExactAreRanges", apart := false, narrowed := true }
def FnExactAreRangesUptoSaid : Prop := fnExactAreRangesUptoRow.holds Try.pinned (OpenSpec.upto fnExactAreRangesSpec)

/-- 'laws.FnExactCountIndexed', WHERE WHAT IT READS IS OF BULK AT MOST 1048576: true; the input reads as it did. -/
def fnExactCountIndexedUptoRow : OpenClaim := { program := "yteolpfmpinbdoaa", sum := "063eeb2b91061a2f6884160d8e23ff25a5b92b1af493c55107b272e91d82a2c3", func := "loop.example/g01394/laws.FnExactCountIndexed", spec := "fnExactCountIndexed", apart := false, narrowed := true }
def FnExactCountIndexedUptoSaid : Prop := fnExactCountIndexedUptoRow.holds Try.pinned (OpenSpec.upto fnExactCountIndexedSpec)

/-- 'laws.FnExactLongestRange', WHERE WHAT IT READS IS OF BULK AT MOST 1048576: true; the input reads as it did. -/
def fnExactLongestRangeUptoRow : OpenClaim := { program := "yteolpfmpinbdoaa", sum := "063eeb2b91061a2f6884160d8e23ff25a5b92b1af493c55107b272e91d82a2c3", func := "loop.example/g01394/laws.FnExactLongestRange", spec := "fnExactLongestRange", apart := false, narrowed := true }
def FnExactLongestRangeUptoSaid : Prop := fnExactLongestRangeUptoRow.holds Try.pinned (OpenSpec.upto fnExactLongestRangeSpec)

/-- 'laws.FnExactHasIndexed', WHERE WHAT IT READS IS OF BULK AT MOST 1048576: true; the input reads as it did. -/
def fnExactHasIndexedUptoRow : OpenClaim := { program := "yteolpfmpinbdoaa", sum := "063eeb2b91061a2f6884160d8e23ff25a5b92b1af493c55107b272e91d82a2c3", func := "loop.example/g01394/laws.FnExactHasIndexed", spec := "fnExactHasIndexed", apart := false, narrowed := true }
def FnExactHasIndexedUptoSaid : Prop := fnExactHasIndexedUptoRow.holds Try.pinned (OpenSpec.upto fnExactHasIndexedSpec)

/-- 'laws.FnExactGapsBetween', WHERE WHAT IT READS IS OF BULK AT MOST 1048576: true; the input reads as it did. -/
def fnExactGapsBetweenUptoRow : OpenClaim := { program := "yteolpfmpinbdoaa", sum := "063eeb2b91061a2f6884160d8e23ff25a5b92b1af493c55107b272e91d82a2c3", func := "loop.example/g01394/laws.FnExactGapsBetween", spec := "fnExactGapsBetween", apart := false, narrowed := true }
def FnExactGapsBetweenUptoSaid : Prop := fnExactGapsBetweenUptoRow.holds Try.pinned (OpenSpec.upto fnExactGapsBetweenSpec)

/-- 'laws.FnExactJoinGaps', WHERE WHAT IT READS IS OF BULK AT MOST 1048576: true; the input reads as it did. -/
def fnExactJoinGapsUptoRow : OpenClaim := { program := "yteolpfmpinbdoaa", sum := "063eeb2b91061a2f6884160d8e23ff25a5b92b1af493c55107b272e91d82a2c3", func := "loop.example/g01394/laws.FnExactJoinGaps", spec := "fnExactJoinGaps", apart := false, narrowed := true }
def FnExactJoinGapsUptoSaid : Prop := fnExactJoinGapsUptoRow.holds Try.pinned (OpenSpec.upto fnExactJoinGapsSpec)

/-- 'laws.FnExactNearestIndexed', WHERE WHAT IT READS IS OF BULK AT MOST 1048576: true; the input reads as it did. -/
def fnExactNearestIndexedUptoRow : OpenClaim := { program := "yteolpfmpinbdoaa", sum := "063eeb2b91061a2f6884160d8e23ff25a5b92b1af493c55107b272e91d82a2c3", func := "loop.example/g01394/laws.FnExactNearestIndexed", spec := "fnExactNearestIndexed", apart := false, narrowed := true }
def FnExactNearestIndexedUptoSaid : Prop := fnExactNearestIndexedUptoRow.holds Try.pinned (OpenSpec.upto fnExactNearestIndexedSpec)

/-- 'laws.FnExactPagesOfRanges', WHERE WHAT IT READS IS OF BULK AT MOST 1048576: true; the input reads as it did. -/
def fnExactPagesOfRangesUptoRow : OpenClaim := { program := "yteolpfmpinbdoaa", sum := "063eeb2b91061a2f6884160d8e23ff25a5b92b1af493c55107b272e91d82a2c3", func := "loop.example/g01394/laws.FnExactPagesOfRanges", spec := "fnExactPagesOfRanges", apart := false, narrowed := true }
def FnExactPagesOfRangesUptoSaid : Prop := fnExactPagesOfRangesUptoRow.holds Try.pinned (OpenSpec.upto fnExactPagesOfRangesSpec)

end Rows
end Go.Proofs.Yteolpfmpinbdoaa
