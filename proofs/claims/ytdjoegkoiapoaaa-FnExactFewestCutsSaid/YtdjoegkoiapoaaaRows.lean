/-
  No cell of these rows narrows 'for every input' (looked for: loops, veiled, ifaces, maps, wideKeys, modest, calm, conditions, laid).
  DERIVED. THE GIVEN ROWS OF THIS SEAT. 9 by the template 'for every input the law returns true; each argument reads behind the call as it read before'; 0 by the template 'total and deterministic' (their statements: YtdjoegkoiapoaaaTotals.lean).
  GIVEN WITH THE SEED: the statements are not yours to turn. If you find one false, say at which input.
  Laid BY PROGRAM, IN A SANDBOX (cutbox-rows.mjs): the forced cells as the released guide's own fill.sh prints them over the translation 2a5039afeda0e73d… (all of the seat's roots in one cut). By AI agents, Wed Nov 11 2026. No macro, syntax, notation, axiom, sorry.
-/
import Derived.Test.YtdjoegkoiapoaaaChecked
import GoSem.Claim
import GoSem.ClaimJoined
import GoSem.ClaimMapViews
import Derived.JoinedTies
import Derived.KernelRfl
namespace Go.Proofs.Ytdjoegkoiapoaaa
/- THE CELL 'sum', in the pinned program and in every row, IS THE sha256 OF THE DUMP (.gsa) THAT YtdjoegkoiapoaaaProg.lean LOADS. Nothing in Lean hashes anything: it is a label: what it is worth is what the hold of that sum in a sandbox is worth. -/
noncomputable def Try.pinned : Pinned := { name := "ytdjoegkoiapoaaa", sum := "2a5039afeda0e73d7de34c00668a67ad1ecedd770615ce8516d1870a9da4af8f", checked := Try.checked }
namespace Rows
def none {H : Type} : Left H := { results := [], args := [] }

/-- 'laws.FnExactCountBindings': WHATEVER THE INPUT: true; the input reads as it did. -/
def fnExactCountBindingsSpec : ChangeSpec := { name := "fnExactCountBindings", fn := fun _ => fun
  | [d] => { results := [.lit (.bool true)], args := [d] }
  | _ => none }
def fnExactCountBindingsRow : OpenClaim := { program := "ytdjoegkoiapoaaa", sum := "2a5039afeda0e73d7de34c00668a67ad1ecedd770615ce8516d1870a9da4af8f", func := "loop.example/g01394/laws.FnExactCountBindings", spec := "fnExactCountBindings", apart := false }
def FnExactCountBindingsSaid : Prop := fnExactCountBindingsRow.holds Try.pinned (OpenSpec.ofChange fnExactCountBindingsSpec)

/-- ITS FALSE NEIGHBOUR: 'it returns false'. Refute it at one input. -/
def fnExactCountBindingsWrong : ChangeSpec := { name := "fnExactCountBindings", fn := fun _ => fun
  | [d] => { results := [.lit (.bool false)], args := [d] }
  | _ => none }
def FnExactCountBindingsWrongFalsely : Prop := fnExactCountBindingsRow.holds Try.pinned (OpenSpec.ofChange fnExactCountBindingsWrong)

/-- 'laws.FnExactIsBinding': WHATEVER THE INPUT: true; the input reads as it did. -/
def fnExactIsBindingSpec : ChangeSpec := { name := "fnExactIsBinding", fn := fun _ => fun
  | [d] => { results := [.lit (.bool true)], args := [d] }
  | _ => none }
def fnExactIsBindingRow : OpenClaim := { program := "ytdjoegkoiapoaaa", sum := "2a5039afeda0e73d7de34c00668a67ad1ecedd770615ce8516d1870a9da4af8f", func := "loop.example/g01394/laws.FnExactIsBinding", spec := "fnExactIsBinding", apart := false }
def FnExactIsBindingSaid : Prop := fnExactIsBindingRow.holds Try.pinned (OpenSpec.ofChange fnExactIsBindingSpec)

/-- ITS FALSE NEIGHBOUR: 'it returns false'. Refute it at one input. -/
def fnExactIsBindingWrong : ChangeSpec := { name := "fnExactIsBinding", fn := fun _ => fun
  | [d] => { results := [.lit (.bool false)], args := [d] }
  | _ => none }
def FnExactIsBindingWrongFalsely : Prop := fnExactIsBindingRow.holds Try.pinned (OpenSpec.ofChange fnExactIsBindingWrong)

/-- 'laws.FnExactCountTurned': WHATEVER THE INPUT: true; the input reads as it did. -/
def fnExactCountTurnedSpec : ChangeSpec := { name := "fnExactCountTurned", fn := fun _ => fun
  | [d] => { results := [.lit (.bool true)], args := [d] }
  | _ => none }
def fnExactCountTurnedRow : OpenClaim := { program := "ytdjoegkoiapoaaa", sum := "2a5039afeda0e73d7de34c00668a67ad1ecedd770615ce8516d1870a9da4af8f", func := "loop.example/g01394/laws.FnExactCountTurned", spec := "fnExactCountTurned", apart := false }
def FnExactCountTurnedSaid : Prop := fnExactCountTurnedRow.holds Try.pinned (OpenSpec.ofChange fnExactCountTurnedSpec)

/-- ITS FALSE NEIGHBOUR: 'it returns false'. Refute it at one input. -/
def fnExactCountTurnedWrong : ChangeSpec := { name := "fnExactCountTurned", fn := fun _ => fun
  | [d] => { results := [.lit (.bool false)], args := [d] }
  | _ => none }
def FnExactCountTurnedWrongFalsely : Prop := fnExactCountTurnedRow.holds Try.pinned (OpenSpec.ofChange fnExactCountTurnedWrong)

/-- 'laws.FnExactBindingOfRank': WHATEVER THE INPUT: true; the input reads as it did. -/
def fnExactBindingOfRankSpec : ChangeSpec := { name := "fnExactBindingOfRank", fn := fun _ => fun
  | [d1, d2] => { results := [.lit (.bool true)], args := [d1, d2] }
  | _ => none }
def fnExactBindingOfRankRow : OpenClaim := { program := "ytdjoegkoiapoaaa", sum := "2a5039afeda0e73d7de34c00668a67ad1ecedd770615ce8516d1870a9da4af8f", func := "loop.example/g01394/laws.FnExactBindingOfRank", spec := "fnExactBindingOfRank", apart := false }
def FnExactBindingOfRankSaid : Prop := fnExactBindingOfRankRow.holds Try.pinned (OpenSpec.ofChange fnExactBindingOfRankSpec)

/-- ITS FALSE NEIGHBOUR: 'it returns false'. Refute it at one input. -/
def fnExactBindingOfRankWrong : ChangeSpec := { name := "fnExactBindingOfRank", fn := fun _ => fun
  | [d1, d2] => { results := [.lit (.bool false)], args := [d1, d2] }
  | _ => none }
def FnExactBindingOfRankWrongFalsely : Prop := fnExactBindingOfRankRow.holds Try.pinned (OpenSpec.ofChange fnExactBindingOfRankWrong)

/-- 'laws.FnExactPlaceOfLeaf': WHATEVER THE INPUT: true; the input reads as it did. -/
def fnExactPlaceOfLeafSpec : ChangeSpec := { name := "fnExactPlaceOfLeaf", fn := fun _ => fun
  | [d1, d2] => { results := [.lit (.bool true)], args := [d1, d2] }
  | _ => none }
def fnExactPlaceOfLeafRow : OpenClaim := { program := "ytdjoegkoiapoaaa", sum := "2a5039afeda0e73d7de34c00668a67ad1ecedd770615ce8516d1870a9da4af8f", func := "loop.example/g01394/laws.FnExactPlaceOfLeaf", spec := "fnExactPlaceOfLeaf", unfollowed := true, recurses := true, apart := false }
def FnExactPlaceOfLeafSaid : Prop := fnExactPlaceOfLeafRow.holds Try.pinned (OpenSpec.ofChange fnExactPlaceOfLeafSpec)

/-- ITS FALSE NEIGHBOUR: 'it returns false'. Refute it at one input. -/
def fnExactPlaceOfLeafWrong : ChangeSpec := { name := "fnExactPlaceOfLeaf", fn := fun _ => fun
  | [d1, d2] => { results := [.lit (.bool false)], args := [d1, d2] }
  | _ => none }
def FnExactPlaceOfLeafWrongFalsely : Prop := fnExactPlaceOfLeafRow.holds Try.pinned (OpenSpec.ofChange fnExactPlaceOfLeafWrong)

/-- 'laws.FnExactOpenAt': WHATEVER THE INPUT: true; the input reads as it did. -/
def fnExactOpenAtSpec : ChangeSpec := { name := "fnExactOpenAt", fn := fun _ => fun
  | [d1, d2] => { results := [.lit (.bool true)], args := [d1, d2] }
  | _ => none }
def fnExactOpenAtRow : OpenClaim := { program := "ytdjoegkoiapoaaa", sum := "2a5039afeda0e73d7de34c00668a67ad1ecedd770615ce8516d1870a9da4af8f", func := "loop.example/g01394/laws.FnExactOpenAt", spec := "fnExactOpenAt", apart := false }
def FnExactOpenAtSaid : Prop := fnExactOpenAtRow.holds Try.pinned (OpenSpec.ofChange fnExactOpenAtSpec)

/-- ITS FALSE NEIGHBOUR: 'it returns false'. Refute it at one input. -/
def fnExactOpenAtWrong : ChangeSpec := { name := "fnExactOpenAt", fn := fun _ => fun
  | [d1, d2] => { results := [.lit (.bool false)], args := [d1, d2] }
  | _ => none }
def FnExactOpenAtWrongFalsely : Prop := fnExactOpenAtRow.holds Try.pinned (OpenSpec.ofChange fnExactOpenAtWrong)

/-- 'laws.FnExactRankOfBinding': WHATEVER THE INPUT: true; the input reads as it did. -/
def fnExactRankOfBindingSpec : ChangeSpec := { name := "fnExactRankOfBinding", fn := fun _ => fun
  | [d] => { results := [.lit (.bool true)], args := [d] }
  | _ => none }
def fnExactRankOfBindingRow : OpenClaim := { program := "ytdjoegkoiapoaaa", sum := "2a5039afeda0e73d7de34c00668a67ad1ecedd770615ce8516d1870a9da4af8f", func := "loop.example/g01394/laws.FnExactRankOfBinding", spec := "fnExactRankOfBinding", apart := false }
def FnExactRankOfBindingSaid : Prop := fnExactRankOfBindingRow.holds Try.pinned (OpenSpec.ofChange fnExactRankOfBindingSpec)

/-- ITS FALSE NEIGHBOUR: 'it returns false'. Refute it at one input. -/
def fnExactRankOfBindingWrong : ChangeSpec := { name := "fnExactRankOfBinding", fn := fun _ => fun
  | [d] => { results := [.lit (.bool false)], args := [d] }
  | _ => none }
def FnExactRankOfBindingWrongFalsely : Prop := fnExactRankOfBindingRow.holds Try.pinned (OpenSpec.ofChange fnExactRankOfBindingWrong)

/-- 'laws.FnExactFewestCuts': WHATEVER THE INPUT: true; the input reads as it did. -/
def fnExactFewestCutsSpec : ChangeSpec := { name := "fnExactFewestCuts", fn := fun _ => fun
  | [d] => { results := [.lit (.bool true)], args := [d] }
  | _ => none }
def fnExactFewestCutsRow : OpenClaim := { program := "ytdjoegkoiapoaaa", sum := "2a5039afeda0e73d7de34c00668a67ad1ecedd770615ce8516d1870a9da4af8f", func := "loop.example/g01394/laws.FnExactFewestCuts", spec := "fnExactFewestCuts", apart := false }
def FnExactFewestCutsSaid : Prop := fnExactFewestCutsRow.holds Try.pinned (OpenSpec.ofChange fnExactFewestCutsSpec)

/-- ITS FALSE NEIGHBOUR: 'it returns false'. Refute it at one input. -/
def fnExactFewestCutsWrong : ChangeSpec := { name := "fnExactFewestCuts", fn := fun _ => fun
  | [d] => { results := [.lit (.bool false)], args := [d] }
  | _ => none }
def FnExactFewestCutsWrongFalsely : Prop := fnExactFewestCutsRow.holds Try.pinned (OpenSpec.ofChange fnExactFewestCutsWrong)

/-- 'laws.FnExactPagesRead': WHATEVER THE INPUT: true; the input reads as it did. -/
def fnExactPagesReadSpec : ChangeSpec := { name := "fnExactPagesRead", fn := fun _ => fun
  | [d] => { results := [.lit (.bool true)], args := [d] }
  | _ => none }
def fnExactPagesReadRow : OpenClaim := { program := "ytdjoegkoiapoaaa", sum := "2a5039afeda0e73d7de34c00668a67ad1ecedd770615ce8516d1870a9da4af8f", func := "loop.example/g01394/laws.FnExactPagesRead", spec := "fnExactPagesRead", apart := false }
def FnExactPagesReadSaid : Prop := fnExactPagesReadRow.holds Try.pinned (OpenSpec.ofChange fnExactPagesReadSpec)

/-- ITS FALSE NEIGHBOUR: 'it returns false'. Refute it at one input. -/
def fnExactPagesReadWrong : ChangeSpec := { name := "fnExactPagesRead", fn := fun _ => fun
  | [d] => { results := [.lit (.bool false)], args := [d] }
  | _ => none }
def FnExactPagesReadWrongFalsely : Prop := fnExactPagesReadRow.holds Try.pinned (OpenSpec.ofChange fnExactPagesReadWrong)

/- THE SECOND FORM. 'bulk': how many values and letters a reading holds, each counted each time it is reached (what is shared counts as often as it is met; a slice's spare places count too). A statement '..UptoSaid' is the law's where the arguments, and the package variables that the reading takes, are together of bulk at most 1048576: NARROWER than '..Said'. Prove '..Said' where nothing that the law and all that it calls make is longer than what came in: it says more and counts as full. Else prove '..UptoSaid'. A law counts once. -/
mutual
def uptoBulk {H : Type} : DataW H → Nat
  | .lit (.string bytes) => bytes.length + 1
  | .lit _ => 1
  | .nil => 1
  | .ptr d => uptoBulk d + 1
  | .slice elems spare => uptoBulkAll elems + uptoBulkAll spare + 1
  | .agg parts => uptoBulkAll parts + 1
  | .iface _ d => uptoBulk d + 1
  | .map entries => uptoBulkEntries entries + 1
  | .held _ => 1
def uptoBulkAll {H : Type} : List (DataW H) → Nat
  | [] => 0
  | d :: r => uptoBulk d + uptoBulkAll r
def uptoBulkEntries {H : Type} : List (Lit × DataW H) → Nat
  | [] => 0
  | x :: r => uptoBulkEntry x + uptoBulkEntries r
def uptoBulkEntry {H : Type} : Lit × DataW H → Nat
  | (.string bytes, d) => bytes.length + uptoBulk d + 1
  | (_, d) => uptoBulk d + 1
 end
def uptoSmall : (H : Type) → List (DataW H) → Bool := fun _ ds => decide (uptoBulkAll ds ≤ 1048576)
def OpenSpec.upto (s : _root_.Go.ChangeSpec) : _root_.Go.OpenSpec := { _root_.Go.OpenSpec.ofChange s with cond := some uptoSmall }

/-- 'laws.FnExactCountBindings', WHERE WHAT IT READS IS OF BULK AT MOST 1048576: true; the input reads as it did. -/
def fnExactCountBindingsUptoRow : OpenClaim := { program := "ytdjoegkoiapoaaa", sum := "2a5039afeda0e73d7de34c00668a67ad1ecedd770615ce8516d1870a9da4af8f", func := "loop.example/g01394/laws.FnExactCountBindings", spec := "fnExactCountBindings", apart := false, narrowed := true }
def FnExactCountBindingsUptoSaid : Prop := fnExactCountBindingsUptoRow.holds Try.pinned (OpenSpec.upto fnExactCountBindingsSpec)

/-- 'laws.FnExactIsBinding', WHERE WHAT IT READS IS OF BULK AT MOST 1048576: true; the input reads as it did. -/
def fnExactIsBindingUptoRow : OpenClaim := { program := "ytdjoegkoiapoaaa", sum := "2a5039afeda0e73d7de34c00668a67ad1ecedd770615ce8516d1870a9da4af8f", func := "loop.example/g01394/laws.FnExactIsBinding", spec := "fnExactIsBinding", apart := false, narrowed := true }
def FnExactIsBindingUptoSaid : Prop := fnExactIsBindingUptoRow.holds Try.pinned (OpenSpec.upto fnExactIsBindingSpec)

/-- 'laws.FnExactCountTurned', WHERE WHAT IT READS IS OF BULK AT MOST 1048576: true; the input reads as it did. -/
def fnExactCountTurnedUptoRow : OpenClaim := { program := "ytdjoegkoiapoaaa", sum := "2a5039afeda0e73d7de34c00668a67ad1ecedd770615ce8516d1870a9da4af8f", func := "loop.example/g01394/laws.FnExactCountTurned", spec := "fnExactCountTurned", apart := false, narrowed := true }
def FnExactCountTurnedUptoSaid : Prop := fnExactCountTurnedUptoRow.holds Try.pinned (OpenSpec.upto fnExactCountTurnedSpec)

/-- 'laws.FnExactBindingOfRank', WHERE WHAT IT READS IS OF BULK AT MOST 1048576: true; the input reads as it did. -/
def fnExactBindingOfRankUptoRow : OpenClaim := { program := "ytdjoegkoiapoaaa", sum := "2a5039afeda0e73d7de34c00668a67ad1ecedd770615ce8516d1870a9da4af8f", func := "loop.example/g01394/laws.FnExactBindingOfRank", spec := "fnExactBindingOfRank", apart := false, narrowed := true }
def FnExactBindingOfRankUptoSaid : Prop := fnExactBindingOfRankUptoRow.holds Try.pinned (OpenSpec.upto fnExactBindingOfRankSpec)

/-- 'laws.FnExactPlaceOfLeaf', WHERE WHAT IT READS IS OF BULK AT MOST 1048576: true; the input reads as it did. -/
def fnExactPlaceOfLeafUptoRow : OpenClaim := { program := "ytdjoegkoiapoaaa", sum := "2a5039afeda0e73d7de34c00668a67ad1ecedd770615ce8516d1870a9da4af8f", func := "loop.example/g01394/laws.FnExactPlaceOfLeaf", spec := "fnExactPlaceOfLeaf", unfollowed := true, recurses := true, apart := false, narrowed := true }
def FnExactPlaceOfLeafUptoSaid : Prop := fnExactPlaceOfLeafUptoRow.holds Try.pinned (OpenSpec.upto fnExactPlaceOfLeafSpec)

/-- 'laws.FnExactOpenAt', WHERE WHAT IT READS IS OF BULK AT MOST 1048576: true; the input reads as it did. -/
def fnExactOpenAtUptoRow : OpenClaim := { program := "ytdjoegkoiapoaaa", sum := "2a5039afeda0e73d7de34c00668a67ad1ecedd770615ce8516d1870a9da4af8f", func := "loop.example/g01394/laws.FnExactOpenAt", spec := "fnExactOpenAt", apart := false, narrowed := true }
def FnExactOpenAtUptoSaid : Prop := fnExactOpenAtUptoRow.holds Try.pinned (OpenSpec.upto fnExactOpenAtSpec)

/-- 'laws.FnExactRankOfBinding', WHERE WHAT IT READS IS OF BULK AT MOST 1048576: true; the input reads as it did. -/
def fnExactRankOfBindingUptoRow : OpenClaim := { program := "ytdjoegkoiapoaaa", sum := "2a5039afeda0e73d7de34c00668a67ad1ecedd770615ce8516d1870a9da4af8f", func := "loop.example/g01394/laws.FnExactRankOfBinding", spec := "fnExactRankOfBinding", apart := false, narrowed := true }
def FnExactRankOfBindingUptoSaid : Prop := fnExactRankOfBindingUptoRow.holds Try.pinned (OpenSpec.upto fnExactRankOfBindingSpec)

/-- 'laws.FnExactFewestCuts', WHERE WHAT IT READS IS OF BULK AT MOST 1048576: true; the input reads as it did. -/
def fnExactFewestCutsUptoRow : OpenClaim := { program := "ytdjoegkoiapoaaa", sum := "2a5039afeda0e73d7de34c00668a67ad1ecedd770615ce8516d1870a9da4af8f", func := "loop.example/g01394/laws.FnExactFewestCuts", spec := "fnExactFewestCuts", apart := false, narrowed := true }
def FnExactFewestCutsUptoSaid : Prop := fnExactFewestCutsUptoRow.holds Try.pinned (OpenSpec.upto fnExactFewestCutsSpec)

/-- 'laws.FnExactPagesRead', WHERE WHAT IT READS IS OF BULK AT MOST 1048576: true; the input reads as it did. -/
def fnExactPagesReadUptoRow : OpenClaim := { program := "ytdjoegkoiapoaaa", sum := "2a5039afeda0e73d7de34c00668a67ad1ecedd770615ce8516d1870a9da4af8f", func := "loop.example/g01394/laws.FnExactPagesRead", spec := "fnExactPagesRead", apart := false, narrowed := true }
def FnExactPagesReadUptoSaid : Prop := fnExactPagesReadUptoRow.holds Try.pinned (OpenSpec.upto fnExactPagesReadSpec)

end Rows
end Go.Proofs.Ytdjoegkoiapoaaa
