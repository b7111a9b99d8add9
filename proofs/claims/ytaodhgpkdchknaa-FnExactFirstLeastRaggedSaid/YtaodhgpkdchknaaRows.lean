/-
  No cell of these rows narrows 'for every input' (looked for: loops, veiled, ifaces, maps, wideKeys, modest, calm, conditions, laid).
  DERIVED. THE GIVEN ROWS OF THIS SEAT. 12 by the template 'for every input the law returns true; each argument reads behind the call as it read before'; 0 by the template 'total and deterministic' (their statements: YtaodhgpkdchknaaTotals.lean).
  GIVEN WITH THE SEED: the statements are not yours to turn. If you find one false, say at which input.
  Laid BY PROGRAM, IN A SANDBOX (cutbox-rows.mjs): the forced cells as the released guide's own fill.sh prints them over the translation da1480cb5bb06713… (all of the seat's roots in one cut). By AI agents, Wed Nov 11 2026. No macro, syntax, notation, axiom, sorry.
-/
import Derived.Test.YtaodhgpkdchknaaChecked
import GoSem.Claim
import GoSem.ClaimJoined
import GoSem.ClaimMapViews
import Derived.JoinedTies
import Derived.KernelRfl
namespace Go.Proofs.Ytaodhgpkdchknaa
/- THE CELL 'sum', in the pinned program and in every row, IS THE sha256 OF THE DUMP (.gsa) THAT YtaodhgpkdchknaaProg.lean LOADS. Nothing in Lean hashes anything: it is a label: what it is worth is what the hold of that sum in a sandbox is worth. -/
noncomputable def Try.pinned : Pinned := { name := "ytaodhgpkdchknaa", sum := "da1480cb5bb0671341073559fa1bae9d54d7176e056d6210561eb525e18441d0", checked := Try.checked }
namespace Rows
def none {H : Type} : Left H := { results := [], args := [] }

/-- 'laws.FnExactAreWords': WHATEVER THE INPUT: true; the input reads as it did. -/
def fnExactAreWordsSpec : ChangeSpec := { name := "fnExactAreWords", fn := fun _ => fun
  | [d] => { results := [.lit (.bool true)], args := [d] }
  | _ => none }
def fnExactAreWordsRow : OpenClaim := { program := "ytaodhgpkdchknaa", sum := "da1480cb5bb0671341073559fa1bae9d54d7176e056d6210561eb525e18441d0", func := "loop.example/g01394/laws.FnExactAreWords", spec := "fnExactAreWords", apart := false }
def FnExactAreWordsSaid : Prop := fnExactAreWordsRow.holds Try.pinned (OpenSpec.ofChange fnExactAreWordsSpec)

/-- ITS FALSE NEIGHBOUR: 'it returns false'. Refute it at one input. -/
def fnExactAreWordsWrong : ChangeSpec := { name := "fnExactAreWords", fn := fun _ => fun
  | [d] => { results := [.lit (.bool false)], args := [d] }
  | _ => none }
def FnExactAreWordsWrongFalsely : Prop := fnExactAreWordsRow.holds Try.pinned (OpenSpec.ofChange fnExactAreWordsWrong)

/-- 'laws.FnExactBreaksAllowed': WHATEVER THE INPUT: true; the input reads as it did. -/
def fnExactBreaksAllowedSpec : ChangeSpec := { name := "fnExactBreaksAllowed", fn := fun _ => fun
  | [d1, d2] => { results := [.lit (.bool true)], args := [d1, d2] }
  | _ => none }
def fnExactBreaksAllowedRow : OpenClaim := { program := "ytaodhgpkdchknaa", sum := "da1480cb5bb0671341073559fa1bae9d54d7176e056d6210561eb525e18441d0", func := "loop.example/g01394/laws.FnExactBreaksAllowed", spec := "fnExactBreaksAllowed", apart := false }
def FnExactBreaksAllowedSaid : Prop := fnExactBreaksAllowedRow.holds Try.pinned (OpenSpec.ofChange fnExactBreaksAllowedSpec)

/-- ITS FALSE NEIGHBOUR: 'it returns false'. Refute it at one input. -/
def fnExactBreaksAllowedWrong : ChangeSpec := { name := "fnExactBreaksAllowed", fn := fun _ => fun
  | [d1, d2] => { results := [.lit (.bool false)], args := [d1, d2] }
  | _ => none }
def FnExactBreaksAllowedWrongFalsely : Prop := fnExactBreaksAllowedRow.holds Try.pinned (OpenSpec.ofChange fnExactBreaksAllowedWrong)

/-- 'laws.FnExactCountBreaks': WHATEVER THE INPUT: true; the input reads as it did. -/
def fnExactCountBreaksSpec : ChangeSpec := { name := "fnExactCountBreaks", fn := fun _ => fun
  | [d1, d2] => { results := [.lit (.bool true)], args := [d1, d2] }
  | _ => none }
def fnExactCountBreaksRow : OpenClaim := { program := "ytaodhgpkdchknaa", sum := "da1480cb5bb0671341073559fa1bae9d54d7176e056d6210561eb525e18441d0", func := "loop.example/g01394/laws.FnExactCountBreaks", spec := "fnExactCountBreaks", apart := false }
def FnExactCountBreaksSaid : Prop := fnExactCountBreaksRow.holds Try.pinned (OpenSpec.ofChange fnExactCountBreaksSpec)

/-- ITS FALSE NEIGHBOUR: 'it returns false'. Refute it at one input. -/
def fnExactCountBreaksWrong : ChangeSpec := { name := "fnExactCountBreaks", fn := fun _ => fun
  | [d1, d2] => { results := [.lit (.bool false)], args := [d1, d2] }
  | _ => none }
def FnExactCountBreaksWrongFalsely : Prop := fnExactCountBreaksRow.holds Try.pinned (OpenSpec.ofChange fnExactCountBreaksWrong)

/-- 'laws.FnExactWidthsUsed': WHATEVER THE INPUT: true; the input reads as it did. -/
def fnExactWidthsUsedSpec : ChangeSpec := { name := "fnExactWidthsUsed", fn := fun _ => fun
  | [d1, d2] => { results := [.lit (.bool true)], args := [d1, d2] }
  | _ => none }
def fnExactWidthsUsedRow : OpenClaim := { program := "ytaodhgpkdchknaa", sum := "da1480cb5bb0671341073559fa1bae9d54d7176e056d6210561eb525e18441d0", func := "loop.example/g01394/laws.FnExactWidthsUsed", spec := "fnExactWidthsUsed", apart := false }
def FnExactWidthsUsedSaid : Prop := fnExactWidthsUsedRow.holds Try.pinned (OpenSpec.ofChange fnExactWidthsUsedSpec)

/-- ITS FALSE NEIGHBOUR: 'it returns false'. Refute it at one input. -/
def fnExactWidthsUsedWrong : ChangeSpec := { name := "fnExactWidthsUsed", fn := fun _ => fun
  | [d1, d2] => { results := [.lit (.bool false)], args := [d1, d2] }
  | _ => none }
def FnExactWidthsUsedWrongFalsely : Prop := fnExactWidthsUsedRow.holds Try.pinned (OpenSpec.ofChange fnExactWidthsUsedWrong)

/-- 'laws.FnExactCountLines': WHATEVER THE INPUT: true; the input reads as it did. -/
def fnExactCountLinesSpec : ChangeSpec := { name := "fnExactCountLines", fn := fun _ => fun
  | [d1, d2] => { results := [.lit (.bool true)], args := [d1, d2] }
  | _ => none }
def fnExactCountLinesRow : OpenClaim := { program := "ytaodhgpkdchknaa", sum := "da1480cb5bb0671341073559fa1bae9d54d7176e056d6210561eb525e18441d0", func := "loop.example/g01394/laws.FnExactCountLines", spec := "fnExactCountLines", apart := false }
def FnExactCountLinesSaid : Prop := fnExactCountLinesRow.holds Try.pinned (OpenSpec.ofChange fnExactCountLinesSpec)

/-- ITS FALSE NEIGHBOUR: 'it returns false'. Refute it at one input. -/
def fnExactCountLinesWrong : ChangeSpec := { name := "fnExactCountLines", fn := fun _ => fun
  | [d1, d2] => { results := [.lit (.bool false)], args := [d1, d2] }
  | _ => none }
def FnExactCountLinesWrongFalsely : Prop := fnExactCountLinesRow.holds Try.pinned (OpenSpec.ofChange fnExactCountLinesWrong)

/-- 'laws.FnExactLeastWidth': WHATEVER THE INPUT: true; the input reads as it did. -/
def fnExactLeastWidthSpec : ChangeSpec := { name := "fnExactLeastWidth", fn := fun _ => fun
  | [d1, d2] => { results := [.lit (.bool true)], args := [d1, d2] }
  | _ => none }
def fnExactLeastWidthRow : OpenClaim := { program := "ytaodhgpkdchknaa", sum := "da1480cb5bb0671341073559fa1bae9d54d7176e056d6210561eb525e18441d0", func := "loop.example/g01394/laws.FnExactLeastWidth", spec := "fnExactLeastWidth", apart := false }
def FnExactLeastWidthSaid : Prop := fnExactLeastWidthRow.holds Try.pinned (OpenSpec.ofChange fnExactLeastWidthSpec)

/-- ITS FALSE NEIGHBOUR: 'it returns false'. Refute it at one input. -/
def fnExactLeastWidthWrong : ChangeSpec := { name := "fnExactLeastWidth", fn := fun _ => fun
  | [d1, d2] => { results := [.lit (.bool false)], args := [d1, d2] }
  | _ => none }
def FnExactLeastWidthWrongFalsely : Prop := fnExactLeastWidthRow.holds Try.pinned (OpenSpec.ofChange fnExactLeastWidthWrong)

/-- 'laws.FnExactLeastWorst': WHATEVER THE INPUT: true; the input reads as it did. -/
def fnExactLeastWorstSpec : ChangeSpec := { name := "fnExactLeastWorst", fn := fun _ => fun
  | [d1, d2] => { results := [.lit (.bool true)], args := [d1, d2] }
  | _ => none }
def fnExactLeastWorstRow : OpenClaim := { program := "ytaodhgpkdchknaa", sum := "da1480cb5bb0671341073559fa1bae9d54d7176e056d6210561eb525e18441d0", func := "loop.example/g01394/laws.FnExactLeastWorst", spec := "fnExactLeastWorst", unfollowed := true, recurses := true, apart := false }
def FnExactLeastWorstSaid : Prop := fnExactLeastWorstRow.holds Try.pinned (OpenSpec.ofChange fnExactLeastWorstSpec)

/-- ITS FALSE NEIGHBOUR: 'it returns false'. Refute it at one input. -/
def fnExactLeastWorstWrong : ChangeSpec := { name := "fnExactLeastWorst", fn := fun _ => fun
  | [d1, d2] => { results := [.lit (.bool false)], args := [d1, d2] }
  | _ => none }
def FnExactLeastWorstWrongFalsely : Prop := fnExactLeastWorstRow.holds Try.pinned (OpenSpec.ofChange fnExactLeastWorstWrong)

/-- 'laws.FnExactLeastRagged': WHATEVER THE INPUT: true; the input reads as it did. -/
def fnExactLeastRaggedSpec : ChangeSpec := { name := "fnExactLeastRagged", fn := fun _ => fun
  | [d1, d2] => { results := [.lit (.bool true)], args := [d1, d2] }
  | _ => none }
def fnExactLeastRaggedRow : OpenClaim := { program := "ytaodhgpkdchknaa", sum := "da1480cb5bb0671341073559fa1bae9d54d7176e056d6210561eb525e18441d0", func := "loop.example/g01394/laws.FnExactLeastRagged", spec := "fnExactLeastRagged", unfollowed := true, recurses := true, apart := false }
def FnExactLeastRaggedSaid : Prop := fnExactLeastRaggedRow.holds Try.pinned (OpenSpec.ofChange fnExactLeastRaggedSpec)

/-- ITS FALSE NEIGHBOUR: 'it returns false'. Refute it at one input. -/
def fnExactLeastRaggedWrong : ChangeSpec := { name := "fnExactLeastRagged", fn := fun _ => fun
  | [d1, d2] => { results := [.lit (.bool false)], args := [d1, d2] }
  | _ => none }
def FnExactLeastRaggedWrongFalsely : Prop := fnExactLeastRaggedRow.holds Try.pinned (OpenSpec.ofChange fnExactLeastRaggedWrong)

/-- 'laws.FnExactStretchSpaces': WHATEVER THE INPUT: true; the input reads as it did. -/
def fnExactStretchSpacesSpec : ChangeSpec := { name := "fnExactStretchSpaces", fn := fun _ => fun
  | [d1, d2] => { results := [.lit (.bool true)], args := [d1, d2] }
  | _ => none }
def fnExactStretchSpacesRow : OpenClaim := { program := "ytaodhgpkdchknaa", sum := "da1480cb5bb0671341073559fa1bae9d54d7176e056d6210561eb525e18441d0", func := "loop.example/g01394/laws.FnExactStretchSpaces", spec := "fnExactStretchSpaces", apart := false }
def FnExactStretchSpacesSaid : Prop := fnExactStretchSpacesRow.holds Try.pinned (OpenSpec.ofChange fnExactStretchSpacesSpec)

/-- ITS FALSE NEIGHBOUR: 'it returns false'. Refute it at one input. -/
def fnExactStretchSpacesWrong : ChangeSpec := { name := "fnExactStretchSpaces", fn := fun _ => fun
  | [d1, d2] => { results := [.lit (.bool false)], args := [d1, d2] }
  | _ => none }
def FnExactStretchSpacesWrongFalsely : Prop := fnExactStretchSpacesRow.holds Try.pinned (OpenSpec.ofChange fnExactStretchSpacesWrong)

/-- 'laws.FnExactRaggedOf': WHATEVER THE INPUT: true; the input reads as it did. -/
def fnExactRaggedOfSpec : ChangeSpec := { name := "fnExactRaggedOf", fn := fun _ => fun
  | [d1, d2, d3] => { results := [.lit (.bool true)], args := [d1, d2, d3] }
  | _ => none }
def fnExactRaggedOfRow : OpenClaim := { program := "ytaodhgpkdchknaa", sum := "da1480cb5bb0671341073559fa1bae9d54d7176e056d6210561eb525e18441d0", func := "loop.example/g01394/laws.FnExactRaggedOf", spec := "fnExactRaggedOf", apart := false }
def FnExactRaggedOfSaid : Prop := fnExactRaggedOfRow.holds Try.pinned (OpenSpec.ofChange fnExactRaggedOfSpec)

/-- ITS FALSE NEIGHBOUR: 'it returns false'. Refute it at one input. -/
def fnExactRaggedOfWrong : ChangeSpec := { name := "fnExactRaggedOf", fn := fun _ => fun
  | [d1, d2, d3] => { results := [.lit (.bool false)], args := [d1, d2, d3] }
  | _ => none }
def FnExactRaggedOfWrongFalsely : Prop := fnExactRaggedOfRow.holds Try.pinned (OpenSpec.ofChange fnExactRaggedOfWrong)

/-- 'laws.FnExactFillLines': WHATEVER THE INPUT: true; the input reads as it did. -/
def fnExactFillLinesSpec : ChangeSpec := { name := "fnExactFillLines", fn := fun _ => fun
  | [d1, d2] => { results := [.lit (.bool true)], args := [d1, d2] }
  | _ => none }
def fnExactFillLinesRow : OpenClaim := { program := "ytaodhgpkdchknaa", sum := "da1480cb5bb0671341073559fa1bae9d54d7176e056d6210561eb525e18441d0", func := "loop.example/g01394/laws.FnExactFillLines", spec := "fnExactFillLines", apart := false }
def FnExactFillLinesSaid : Prop := fnExactFillLinesRow.holds Try.pinned (OpenSpec.ofChange fnExactFillLinesSpec)

/-- ITS FALSE NEIGHBOUR: 'it returns false'. Refute it at one input. -/
def fnExactFillLinesWrong : ChangeSpec := { name := "fnExactFillLines", fn := fun _ => fun
  | [d1, d2] => { results := [.lit (.bool false)], args := [d1, d2] }
  | _ => none }
def FnExactFillLinesWrongFalsely : Prop := fnExactFillLinesRow.holds Try.pinned (OpenSpec.ofChange fnExactFillLinesWrong)

/-- 'laws.FnExactFirstLeastRagged': WHATEVER THE INPUT: true; the input reads as it did. -/
def fnExactFirstLeastRaggedSpec : ChangeSpec := { name := "fnExactFirstLeastRagged", fn := fun _ => fun
  | [d1, d2] => { results := [.lit (.bool true)], args := [d1, d2] }
  | _ => none }
def fnExactFirstLeastRaggedRow : OpenClaim := { program := "ytaodhgpkdchknaa", sum := "da1480cb5bb0671341073559fa1bae9d54d7176e056d6210561eb525e18441d0", func := "loop.example/g01394/laws.FnExactFirstLeastRagged", spec := "fnExactFirstLeastRagged", unfollowed := true, recurses := true, apart := false }
def FnExactFirstLeastRaggedSaid : Prop := fnExactFirstLeastRaggedRow.holds Try.pinned (OpenSpec.ofChange fnExactFirstLeastRaggedSpec)

/-- ITS FALSE NEIGHBOUR: 'it returns false'. Refute it at one input. -/
def fnExactFirstLeastRaggedWrong : ChangeSpec := { name := "fnExactFirstLeastRagged", fn := fun _ => fun
  | [d1, d2] => { results := [.lit (.bool false)], args := [d1, d2] }
  | _ => none }
def FnExactFirstLeastRaggedWrongFalsely : Prop := fnExactFirstLeastRaggedRow.holds Try.pinned (OpenSpec.ofChange fnExactFirstLeastRaggedWrong)

/- THE SECOND FORM. 'bulk': how many values and letters a reading holds, each counted each time it is reached (what is shared counts as often as it is met; a slice's spare places count too). A statement '..UptoSaid' is the law's where the arguments, and the package variables that the reading takes, are together of bulk at most 1048576: NARROWER than '..Said'. Prove '..Said' where nothing that the law and all that it calls make is longer than what came in: it says more and counts as full. Else prove '..UptoSaid'. A law counts once. -/
mutual
def uptoBulk {H : Type} : DataW H → Nat
  | .lit (.string bytes) => bytes.length + 1
  | .lit _ => 1
  | .nil => 1
  | .ptr d => uptoBulk d + 1
  | .slice elems spare => uptoBulkAll elems + uptoBulkAll spare + 1
  | .agg parts => uptoBulkAll parts + 1
  | .iface _ d => uptoBulk d + 1
  | .map entries => uptoBulkEntries entries + 1
  | .held _ => 1
def uptoBulkAll {H : Type} : List (DataW H) → Nat
  | [] => 0
  | d :: r => uptoBulk d + uptoBulkAll r
def uptoBulkEntries {H : Type} : List (Lit × DataW H) → Nat
  | [] => 0
  | x :: r => uptoBulkEntry x + uptoBulkEntries r
def uptoBulkEntry {H : Type} : Lit × DataW H → Nat
  | (.string bytes, d) => bytes.length + uptoBulk d + 1
  | (_, d) => uptoBulk d + 1
 end
def uptoSmall : (H : Type) → List (DataW H) → Bool := fun _ ds => decide (uptoBulkAll ds ≤ 1048576)
def OpenSpec.upto (s : _root_.Go.ChangeSpec) : _root_.Go.OpenSpec := { _root_.Go.OpenSpec.ofChange s with cond := some uptoSmall }

/-- 'laws.FnExactAreWords', WHERE WHAT IT READS IS OF BULK AT MOST 1048576: true; the input reads as it did. -/
def fnExactAreWordsUptoRow : OpenClaim := { program := "ytaodhgpkdchknaa", sum := "da1480cb5bb0671341073559fa1bae9d54d7176e056d6210561eb525e18441d0", func := "loop.example/g01394/laws.FnExactAreWords", spec := "fnExactAreWords", apart := false, narrowed := true }
def FnExactAreWordsUptoSaid : Prop := fnExactAreWordsUptoRow.holds Try.pinned (OpenSpec.upto fnExactAreWordsSpec)

/-- 'laws.FnExactBreaksAllowed', WHERE WHAT IT READS IS OF BULK AT MOST 1048576: true; the input reads as it did. -/
def fnExactBreaksAllowedUptoRow : OpenClaim := { program := "ytaodhgpkdchknaa", sum := "da1480cb5bb0671341073559fa1bae9d54d7176e056d6210561eb525e18441d0", func := "loop.example/g01394/laws.FnExactBreaksAllowed", spec := "fnExactBreaksAllowed", apart := false, narrowed := true }
def FnExactBreaksAllowedUptoSaid : Prop := fnExactBreaksAllowedUptoRow.holds Try.pinned (OpenSpec.upto fnExactBreaksAllowedSpec)

/-- 'laws.FnExactCountBreaks', WHERE WHAT IT READS IS OF BULK AT MOST 1048576: true; the input reads as it did. -/
def fnExactCountBreaksUptoRow : OpenClaim := { program := "ytaodhgpkdchknaa", sum := "da1480cb5bb0671341073559fa1bae9d54d7176e056d6210561eb525e18441d0", func := "loop.example/g01394/laws.FnExactCountBreaks", spec := "fnExactCountBreaks", apart := false, narrowed := true }
def FnExactCountBreaksUptoSaid : Prop := fnExactCountBreaksUptoRow.holds Try.pinned (OpenSpec.upto fnExactCountBreaksSpec)

/-- 'laws.FnExactWidthsUsed', WHERE WHAT IT READS IS OF BULK AT MOST 1048576: true; the input reads as it did. -/
def fnExactWidthsUsedUptoRow : OpenClaim := { program := "ytaodhgpkdchknaa", sum := "da1480cb5bb0671341073559fa1bae9d54d7176e056d6210561eb525e18441d0", func := "loop.example/g01394/laws.FnExactWidthsUsed", spec := "fnExactWidthsUsed", apart := false, narrowed := true }
def FnExactWidthsUsedUptoSaid : Prop := fnExactWidthsUsedUptoRow.holds Try.pinned (OpenSpec.upto fnExactWidthsUsedSpec)

/-- 'laws.FnExactCountLines', WHERE WHAT IT READS IS OF BULK AT MOST 1048576: true; the input reads as it did. -/
def fnExactCountLinesUptoRow : OpenClaim := { program := "ytaodhgpkdchknaa", sum := "da1480cb5bb0671341073559fa1bae9d54d7176e056d6210561eb525e18441d0", func := "loop.example/g01394/laws.FnExactCountLines", spec := "fnExactCountLines", apart := false, narrowed := true }
def FnExactCountLinesUptoSaid : Prop := fnExactCountLinesUptoRow.holds Try.pinned (OpenSpec.upto fnExactCountLinesSpec)

/-- 'laws.FnExactLeastWidth', WHERE WHAT IT READS IS OF BULK AT MOST 1048576: true; the input reads as it did. -/
def fnExactLeastWidthUptoRow : OpenClaim := { program := "ytaodhgpkdchknaa", sum := "da1480cb5bb0671341073559fa1bae9d54d7176e056d6210561eb525e18441d0", func := "loop.example/g01394/laws.FnExactLeastWidth", spec := "fnExactLeastWidth", apart := false, narrowed := true }
def FnExactLeastWidthUptoSaid : Prop := fnExactLeastWidthUptoRow.holds Try.pinned (OpenSpec.upto fnExactLeastWidthSpec)

/-- 'laws.FnExactLeastWorst', WHERE WHAT IT READS IS OF BULK AT MOST 1048576: true; the input reads as it did. -/
def fnExactLeastWorstUptoRow : OpenClaim := { program := "ytaodhgpkdchknaa", sum := "da1480cb5bb0671341073559fa1bae9d54d7176e056d6210561eb525e18441d0", func := "loop.example/g01394/laws.FnExactLeastWorst", spec := "fnExactLeastWorst", unfollowed := true, recurses := true, apart := false, narrowed := true }
def FnExactLeastWorstUptoSaid : Prop := fnExactLeastWorstUptoRow.holds Try.pinned (OpenSpec.upto fnExactLeastWorstSpec)

/-- 'laws.FnExactLeastRagged', WHERE WHAT IT READS IS OF BULK AT MOST 1048576: true; the input reads as it did. -/
def fnExactLeastRaggedUptoRow : OpenClaim := { program := "ytaodhgpkdchknaa", sum := "da1480cb5bb0671341073559fa1bae9d54d7176e056d6210561eb525e18441d0", func := "loop.example/g01394/laws.FnExactLeastRagged", spec := "fnExactLeastRagged", unfollowed := true, recurses := true, apart := false, narrowed := true }
def FnExactLeastRaggedUptoSaid : Prop := fnExactLeastRaggedUptoRow.holds Try.pinned (OpenSpec.upto fnExactLeastRaggedSpec)

/-- 'laws.FnExactStretchSpaces', WHERE WHAT IT READS IS OF BULK AT MOST 1048576: true; the input reads as it did. -/
def fnExactStretchSpacesUptoRow : OpenClaim := { program := "ytaodhgpkdchknaa", sum := "da1480cb5bb0671341073559fa1bae9d54d7176e056d6210561eb525e18441d0", func := "loop.example/g01394/laws.FnExactStretchSpaces", spec := "fnExactStretchSpaces", apart := false, narrowed := true }
def FnExactStretchSpacesUptoSaid : Prop := fnExactStretchSpacesUptoRow.holds Try.pinned (OpenSpec.upto fnExactStretchSpacesSpec)

/-- 'laws.FnExactRaggedOf', WHERE WHAT IT READS IS OF BULK AT MOST 1048576: true; the input reads as it did. -/
def fnExactRaggedOfUptoRow : OpenClaim := { program := "ytaodhgpkdchknaa", sum := "da1480cb5bb0671341073559fa1bae9d54d7176e056d6210561eb525e18441d0", func := "loop.example/g01394/laws.FnExactRaggedOf", spec := "fnExactRaggedOf", apart := false, narrowed := true }
def FnExactRaggedOfUptoSaid : Prop := fnExactRaggedOfUptoRow.holds Try.pinned (OpenSpec.upto fnExactRaggedOfSpec)

/-- 'laws.FnExactFillLines', WHERE WHAT IT READS IS OF BULK AT MOST 1048576: true; the input reads as it did. -/
def fnExactFillLinesUptoRow : OpenClaim := { program := "ytaodhgpkdchknaa", sum := "da1480cb5bb0671341073559fa1bae9d54d7176e056d6210561eb525e18441d0", func := "loop.example/g01394/laws.FnExactFillLines", spec := "fnExactFillLines", apart := false, narrowed := true }
def FnExactFillLinesUptoSaid : Prop := fnExactFillLinesUptoRow.holds Try.pinned (OpenSpec.upto fnExactFillLinesSpec)

/-- 'laws.FnExactFirstLeastRagged', WHERE WHAT IT READS IS OF BULK AT MOST 1048576: true; the input reads as it did. -/
def fnExactFirstLeastRaggedUptoRow : OpenClaim := { program := "ytaodhgpkdchknaa", sum := "da1480cb5bb0671341073559fa1bae9d54d7176e056d6210561eb525e18441d0", func := "loop.example/g01394/laws.FnExactFirstLeastRagged", spec := "fnExactFirstLeastRagged", unfollowed := true, recurses := true, apart := false, narrowed := true }
def FnExactFirstLeastRaggedUptoSaid : Prop := fnExactFirstLeastRaggedUptoRow.holds Try.pinned (OpenSpec.upto fnExactFirstLeastRaggedSpec)

end Rows
end Go.Proofs.Ytaodhgpkdchknaa
