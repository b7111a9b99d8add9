/-
  No cell of these rows narrows 'for every input' (looked for: loops, veiled, ifaces, maps, wideKeys, modest, calm, conditions, laid).
  DERIVED. THE GIVEN ROWS OF THIS SEAT. 3 by the template 'for every input the law returns true; each argument reads behind the call as it read before'; 0 by the template 'total and deterministic' (their statements: YtgbnpemoljhamaaTotals.lean).
  GIVEN WITH THE SEED: the statements are not yours to turn. If you find one false, say at which input.
  Laid BY PROGRAM, IN A SANDBOX (cutbox-rows.mjs): the forced cells as the released guide's own fill.sh prints them over the translation a872ba4f6a79cde9… (all of the seat's roots in one cut). By AI agents, Wed Nov 11 2026. No macro, syntax, notation, axiom, sorry.
-/
import Derived.Test.YtgbnpemoljhamaaChecked
import GoSem.Claim
import GoSem.ClaimJoined
import GoSem.ClaimMapViews
import Derived.JoinedTies
import Derived.KernelRfl
namespace Go.Proofs.Ytgbnpemoljhamaa
/- THE CELL 'sum', in the pinned program and in every row, IS THE sha256 OF THE DUMP (.gsa) THAT YtgbnpemoljhamaaProg.lean LOADS. Nothing in Lean hashes anything: it is a label: what it is worth is what the hold of that sum in a sandbox is worth. -/
noncomputable def Try.pinned : Pinned := { name := "ytgbnpemoljhamaa", sum := "a872ba4f6a79cde94ac6e746a3095066075f66627da1d4732dafa5657fc63ff9", checked := Try.checked }
namespace Rows
def none {H : Type} : Left H := { results := [], args := [] }

/-- 'laws.FnExactPagesOfParagraphs': WHATEVER THE INPUT: true; the input reads as it did. -/
def fnExactPagesOfParagraphsSpec : ChangeSpec := { name := "fnExactPagesOfParagraphs", fn := fun _ => fun
  | [d1, d2] => { results := [.lit (.bool true)], args := [d1, d2] }
  | _ => none }
def fnExactPagesOfParagraphsRow : OpenClaim := { program := "ytgbnpemoljhamaa", sum := "a872ba4f6a79cde94ac6e746a3095066075f66627da1d4732dafa5657fc63ff9", func := "loop.example/g01394/laws.FnExactPagesOfParagraphs", spec := "fnExactPagesOfParagraphs", apart := false }
def FnExactPagesOfParagraphsSaid : Prop := fnExactPagesOfParagraphsRow.holds Try.pinned (OpenSpec.ofChange fnExactPagesOfParagraphsSpec)

/-- ITS FALSE NEIGHBOUR: 'it returns false'. Refute it at one input. -/
def fnExactPagesOfParagraphsWrong : ChangeSpec := { name := "fnExactPagesOfParagraphs", fn := fun _ => fun
  | [d1, d2] => { results := [.lit (.bool false)], args := [d1, d2] }
  | _ => none }
def FnExactPagesOfParagraphsWrongFalsely : Prop := fnExactPagesOfParagraphsRow.holds Try.pinned (OpenSpec.ofChange fnExactPagesOfParagraphsWrong)

/-- 'laws.FnExactParagraphBreaks': WHATEVER THE INPUT: true; the input reads as it did. -/
def fnExactParagraphBreaksSpec : ChangeSpec := { name := "fnExactParagraphBreaks", fn := fun _ => fun
  | [d1, d2] => { results := [.lit (.bool true)], args := [d1, d2] }
  | _ => none }
def fnExactParagraphBreaksRow : OpenClaim := { program := "ytgbnpemoljhamaa", sum := "a872ba4f6a79cde94ac6e746a3095066075f66627da1d4732dafa5657fc63ff9", func := "loop.example/g01394/laws.FnExactParagraphBreaks", spec := "fnExactParagraphBreaks", apart := false }
def FnExactParagraphBreaksSaid : Prop := fnExactParagraphBreaksRow.holds Try.pinned (OpenSpec.ofChange fnExactParagraphBreaksSpec)

/-- ITS FALSE NEIGHBOUR: 'it returns false'. Refute it at one input. -/
def fnExactParagraphBreaksWrong : ChangeSpec := { name := "fnExactParagraphBreaks", fn := fun _ => fun
  | [d1, d2] => { results := [.lit (.bool false)], args := [d1, d2] }
  | _ => none }
def FnExactParagraphBreaksWrongFalsely : Prop := fnExactParagraphBreaksRow.holds Try.pinned (OpenSpec.ofChange fnExactParagraphBreaksWrong)

/-- 'laws.FnExactLinesLeftOver': WHATEVER THE INPUT: true; the input reads as it did. -/
def fnExactLinesLeftOverSpec : ChangeSpec := { name := "fnExactLinesLeftOver", fn := fun _ => fun
  | [d1, d2] => { results := [.lit (.bool true)], args := [d1, d2] }
  | _ => none }
def fnExactLinesLeftOverRow : OpenClaim := { program := "ytgbnpemoljhamaa", sum := "a872ba4f6a79cde94ac6e746a3095066075f66627da1d4732dafa5657fc63ff9", func := "loop.example/g01394/laws.FnExactLinesLeftOver", spec := "fnExactLinesLeftOver", apart := false }
def FnExactLinesLeftOverSaid : Prop := fnExactLinesLeftOverRow.holds Try.pinned (OpenSpec.ofChange fnExactLinesLeftOverSpec)

/-- ITS FALSE NEIGHBOUR: 'it returns false'. Refute it at one input. -/
def fnExactLinesLeftOverWrong : ChangeSpec := { name := "fnExactLinesLeftOver", fn := fun _ => fun
  | [d1, d2] => { results := [.lit (.bool false)], args := [d1, d2] }
  | _ => none }
def FnExactLinesLeftOverWrongFalsely : Prop := fnExactLinesLeftOverRow.holds Try.pinned (OpenSpec.ofChange fnExactLinesLeftOverWrong)

/- THE SECOND FORM. 'bulk': how many values and letters a reading holds, each counted each time it is reached (what is shared counts as often as it is met; a slice's spare places count too). A statement '..UptoSaid' is the law's where the arguments, and the package variables that the reading takes, are together of bulk at most 1048576: NARROWER than '..Said'. Prove '..Said' where nothing that the law and all that it calls make is longer than what came in: it says more and counts as full. Else prove '..UptoSaid'. A law counts once. -/
mutual
def uptoBulk {H : Type} : DataW H → Nat
  | .lit (.string bytes) => bytes.length + 1
  | .lit _ => 1
  | .nil => 1
  | .ptr d => uptoBulk d + 1
  | .slice elems spare => uptoBulkAll elems + uptoBulkAll spare + 1
  | .agg parts => uptoBulkAll parts + 1
  | .iface _ d => uptoBulk d + 1
  | .map entries => uptoBulkEntries entries + 1
  | .held _ => 1
def uptoBulkAll {H : Type} : List (DataW H) → Nat
  | [] => 0
  | d :: r => uptoBulk d + uptoBulkAll r
def uptoBulkEntries {H : Type} : List (Lit × DataW H) → Nat
  | [] => 0
  | x :: r => uptoBulkEntry x + uptoBulkEntries r
def uptoBulkEntry {H : Type} : Lit × DataW H → Nat
  | (.string bytes, d) => bytes.length + uptoBulk d + 1
  | (_, d) => uptoBulk d + 1
 end
def uptoSmall : (H : Type) → List (DataW H) → Bool := fun _ ds => decide (uptoBulkAll ds ≤ 1048576)
def OpenSpec.upto (s : _root_.Go.ChangeSpec) : _root_.Go.OpenSpec := { _root_.Go.OpenSpec.ofChange s with cond := some uptoSmall }

/-- 'laws.FnExactPagesOfParagraphs', WHERE WHAT IT READS IS OF BULK AT MOST 1048576: true; the input reads as it did. -/
def fnExactPagesOfParagraphsUptoRow : OpenClaim := { program := "ytgbnpemoljhamaa", sum := "a872ba4f6a79cde94ac6e746a3095066075f66627da1d4732dafa5657fc63ff9", func := "loop.example/g01394/laws.FnExactPagesOfParagraphs", spec := "fnExactPagesOfParagraphs", apart := false, narrowed := true }
def FnExactPagesOfParagraphsUptoSaid : Prop := fnExactPagesOfParagraphsUptoRow.holds Try.pinned (OpenSpec.upto fnExactPagesOfParagraphsSpec)

/-- 'laws.FnExactParagraphBreaks', WHERE WHAT IT READS IS OF BULK AT MOST 1048576: true; the input reads as it did. -/
def fnExactParagraphBreaksUptoRow : OpenClaim := { program := "ytgbnpemoljhamaa", sum := "a872ba4f6a79cde94ac6e746a3095066075f66627da1d4732dafa5657fc63ff9", func := "loop.example/g01394/laws.FnExactParagraphBreaks", spec := "fnExactParagraphBreaks", apart := false, narrowed := true }
def FnExactParagraphBreaksUptoSaid : Prop := fnExactParagraphBreaksUptoRow.holds Try.pinned (OpenSpec.upto fnExactParagraphBreaksSpec)

/-- 'laws.FnExactLinesLeftOver', WHERE WHAT IT READS IS OF BULK AT MOST 1048576: true; the input reads as it did. -/
def fnExactLinesLeftOverUptoRow : OpenClaim := { program := "ytgbnpemoljhamaa", sum := "a872ba4f6a79cde94ac6e746a3095066075f66627da1d4732dafa5657fc63ff9", func := "loop.example/g01394/laws.FnExactLinesLeftOver", spec := "fnExactLinesLeftOver", apart := false, narrowed := true }
def FnExactLinesLeftOverUptoSaid : Prop := fnExactLinesLeftOverUptoRow.holds Try.pinned (OpenSpec.upto fnExactLinesLeftOverSpec)

end Rows
end Go.Proofs.Ytgbnpemoljhamaa
