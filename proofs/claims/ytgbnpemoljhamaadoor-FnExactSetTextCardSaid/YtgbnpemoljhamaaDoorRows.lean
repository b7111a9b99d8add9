/-
  NARROWER THAN 'FOR EVERY INPUT', by the rows' own cells (each row's printed sentence says how): FnExactWordsOfText: laid · FnExactCentreText: laid · FnExactSetText: laid · FnExactStretchText: laid.
  DERIVED. THE GIVEN ROWS OF THIS SEAT. 4 by the template 'for every input the law returns true; each argument reads behind the call as it read before'; 0 by the template 'total and deterministic' (their statements: YtgbnpemoljhamaaDoorTotals.lean).
  GIVEN WITH THE SEED: the statements are not yours to turn. If you find one false, say at which input.
  Laid BY PROGRAM, IN A SANDBOX (cutbox-rows.mjs): the forced cells as the released guide's own fill.sh prints them over the translation ae0d73ac9fc9242f… (all of the seat's roots in one cut). By AI agents, Wed Nov 11 2026. No macro, syntax, notation, axiom, sorry.
-/
import Derived.Test.YtgbnpemoljhamaaDoorChecked
import GoSem.PinnedTables
import GoSem.Claim
import GoSem.ClaimJoined
import GoSem.ClaimMapViews
import Derived.JoinedTies
import Derived.KernelRfl
namespace Go.Proofs.YtgbnpemoljhamaaDoor
/- THE CELL 'sum', in the pinned program and in every row, IS THE sha256 OF THE DUMP (.gsa) THAT YtgbnpemoljhamaaDoorProg.lean LOADS. Nothing in Lean hashes anything: it is a label: what it is worth is what the hold of that sum in a sandbox is worth. -/
noncomputable def Tryd.pinned : Pinned := { name := "ytgbnpemoljhamaadoor", sum := "ae0d73ac9fc9242fb242cd927343478215b0f72a7e4dc8ed0a66965fb1de0713", checked := Tryd.checked }
namespace Rows
def none {H : Type} : Left H := { results := [], args := [] }

/- WHAT THE LISTED PACKAGE-LEVEL VARIABLES READ AS WHEN THE CALL BEGINS. Each datum BY PROGRAM (the guide's laid-datum.mjs) off the statement by which the dump's own 'gosem.cut.vars' lays the variable. In a bare row this is a premise. The card (YtgbnpemoljhamaaDoorCards.lean) ties it to the program's text. -/
def laid_unicode_utf8_acceptRanges {H : Type} : DataW H := .agg [.agg [.lit (.int .u8 128), .lit (.int .u8 191)], .agg [.lit (.int .u8 160), .lit (.int .u8 191)], .agg [.lit (.int .u8 128), .lit (.int .u8 159)], .agg [.lit (.int .u8 144), .lit (.int .u8 191)], .agg [.lit (.int .u8 128), .lit (.int .u8 143)], .agg [.lit (.int .u8 0), .lit (.int .u8 0)], .agg [.lit (.int .u8 0), .lit (.int .u8 0)], .agg [.lit (.int .u8 0), .lit (.int .u8 0)], .agg [.lit (.int .u8 0), .lit (.int .u8 0)], .agg [.lit (.int .u8 0), .lit (.int .u8 0)], .agg [.lit (.int .u8 0), .lit (.int .u8 0)], .agg [.lit (.int .u8 0), .lit (.int .u8 0)], .agg [.lit (.int .u8 0), .lit (.int .u8 0)], .agg [.lit (.int .u8 0), .lit (.int .u8 0)], .agg [.lit (.int .u8 0), .lit (.int .u8 0)], .agg [.lit (.int .u8 0), .lit (.int .u8 0)]]
/-- One of Go's own tables, pinned by name: the form's constant. -/
def laid_unicode_utf8_first : DataW Unit := Go.Pinned.utf8First

/-- 'laws.FnExactWordsOfText': WHATEVER THE INPUT: true; the input reads as it did. -/
def fnExactWordsOfTextSpec : ChangeSpec := { name := "fnExactWordsOfText", fn := fun _ => fun
  | [d] => { results := [.lit (.bool true)], args := [d] }
  | _ => none }
def fnExactWordsOfTextRow : OpenClaim := { program := "ytgbnpemoljhamaadoor", sum := "ae0d73ac9fc9242fb242cd927343478215b0f72a7e4dc8ed0a66965fb1de0713", func := "loop.example/g01394/laws.FnExactWordsOfText", spec := "fnExactWordsOfText", inPlace := ["internal/bytealg.CountString", "internal/bytealg.IndexByteString", "internal/bytealg.IndexString"], named := ["unicode/utf8.first", "unicode/utf8.acceptRanges", "internal/bytealg.MaxLen"], apart := false, laid := [("unicode/utf8.acceptRanges", laid_unicode_utf8_acceptRanges), ("unicode/utf8.first", laid_unicode_utf8_first)] }
def FnExactWordsOfTextSaid : Prop := fnExactWordsOfTextRow.holds Tryd.pinned (OpenSpec.ofChange fnExactWordsOfTextSpec)

/-- ITS FALSE NEIGHBOUR: 'it returns false'. Refute it at one input. -/
def fnExactWordsOfTextWrong : ChangeSpec := { name := "fnExactWordsOfText", fn := fun _ => fun
  | [d] => { results := [.lit (.bool false)], args := [d] }
  | _ => none }
def FnExactWordsOfTextWrongFalsely : Prop := fnExactWordsOfTextRow.holds Tryd.pinned (OpenSpec.ofChange fnExactWordsOfTextWrong)

/-- 'laws.FnExactCentreText': WHATEVER THE INPUT: true; the input reads as it did. -/
def fnExactCentreTextSpec : ChangeSpec := { name := "fnExactCentreText", fn := fun _ => fun
  | [d1, d2] => { results := [.lit (.bool true)], args := [d1, d2] }
  | _ => none }
def fnExactCentreTextRow : OpenClaim := { program := "ytgbnpemoljhamaadoor", sum := "ae0d73ac9fc9242fb242cd927343478215b0f72a7e4dc8ed0a66965fb1de0713", func := "loop.example/g01394/laws.FnExactCentreText", spec := "fnExactCentreText", inPlace := ["internal/bytealg.CountString", "internal/bytealg.IndexByteString", "internal/bytealg.IndexString", "internal/abi.NoEscape", "internal/bytealg.MakeNoZero"], named := ["unicode/utf8.first", "unicode/utf8.acceptRanges", "internal/bytealg.MaxLen"], apart := false, laid := [("unicode/utf8.acceptRanges", laid_unicode_utf8_acceptRanges), ("unicode/utf8.first", laid_unicode_utf8_first)] }
def FnExactCentreTextSaid : Prop := fnExactCentreTextRow.holds Tryd.pinned (OpenSpec.ofChange fnExactCentreTextSpec)

/-- ITS FALSE NEIGHBOUR: 'it returns false'. Refute it at one input. -/
def fnExactCentreTextWrong : ChangeSpec := { name := "fnExactCentreText", fn := fun _ => fun
  | [d1, d2] => { results := [.lit (.bool false)], args := [d1, d2] }
  | _ => none }
def FnExactCentreTextWrongFalsely : Prop := fnExactCentreTextRow.holds Tryd.pinned (OpenSpec.ofChange fnExactCentreTextWrong)

/-- 'laws.FnExactSetText': WHATEVER THE INPUT: true; the input reads as it did. -/
def fnExactSetTextSpec : ChangeSpec := { name := "fnExactSetText", fn := fun _ => fun
  | [d1, d2] => { results := [.lit (.bool true)], args := [d1, d2] }
  | _ => none }
def fnExactSetTextRow : OpenClaim := { program := "ytgbnpemoljhamaadoor", sum := "ae0d73ac9fc9242fb242cd927343478215b0f72a7e4dc8ed0a66965fb1de0713", func := "loop.example/g01394/laws.FnExactSetText", spec := "fnExactSetText", inPlace := ["internal/bytealg.CountString", "internal/bytealg.IndexByteString", "internal/bytealg.IndexString", "internal/abi.NoEscape", "internal/bytealg.MakeNoZero"], named := ["unicode/utf8.first", "unicode/utf8.acceptRanges", "internal/bytealg.MaxLen"], apart := false, laid := [("unicode/utf8.acceptRanges", laid_unicode_utf8_acceptRanges), ("unicode/utf8.first", laid_unicode_utf8_first)] }
def FnExactSetTextSaid : Prop := fnExactSetTextRow.holds Tryd.pinned (OpenSpec.ofChange fnExactSetTextSpec)

/-- ITS FALSE NEIGHBOUR: 'it returns false'. Refute it at one input. -/
def fnExactSetTextWrong : ChangeSpec := { name := "fnExactSetText", fn := fun _ => fun
  | [d1, d2] => { results := [.lit (.bool false)], args := [d1, d2] }
  | _ => none }
def FnExactSetTextWrongFalsely : Prop := fnExactSetTextRow.holds Tryd.pinned (OpenSpec.ofChange fnExactSetTextWrong)

/-- 'laws.FnExactStretchText': WHATEVER THE INPUT: true; the input reads as it did. -/
def fnExactStretchTextSpec : ChangeSpec := { name := "fnExactStretchText", fn := fun _ => fun
  | [d1, d2] => { results := [.lit (.bool true)], args := [d1, d2] }
  | _ => none }
def fnExactStretchTextRow : OpenClaim := { program := "ytgbnpemoljhamaadoor", sum := "ae0d73ac9fc9242fb242cd927343478215b0f72a7e4dc8ed0a66965fb1de0713", func := "loop.example/g01394/laws.FnExactStretchText", spec := "fnExactStretchText", inPlace := ["internal/bytealg.CountString", "internal/bytealg.IndexByteString", "internal/bytealg.IndexString", "internal/abi.NoEscape", "internal/bytealg.MakeNoZero"], named := ["unicode/utf8.first", "unicode/utf8.acceptRanges", "internal/bytealg.MaxLen"], apart := false, laid := [("unicode/utf8.acceptRanges", laid_unicode_utf8_acceptRanges), ("unicode/utf8.first", laid_unicode_utf8_first)] }
def FnExactStretchTextSaid : Prop := fnExactStretchTextRow.holds Tryd.pinned (OpenSpec.ofChange fnExactStretchTextSpec)

/-- ITS FALSE NEIGHBOUR: 'it returns false'. Refute it at one input. -/
def fnExactStretchTextWrong : ChangeSpec := { name := "fnExactStretchText", fn := fun _ => fun
  | [d1, d2] => { results := [.lit (.bool false)], args := [d1, d2] }
  | _ => none }
def FnExactStretchTextWrongFalsely : Prop := fnExactStretchTextRow.holds Tryd.pinned (OpenSpec.ofChange fnExactStretchTextWrong)

/- THE SECOND FORM. 'bulk': how many values and letters a reading holds, each counted each time it is reached (what is shared counts as often as it is met; a slice's spare places count too). A statement '..UptoSaid' is the law's where the arguments, and the package variables that the reading takes, are together of bulk at most 1048576: NARROWER than '..Said'. Prove '..Said' where nothing that the law and all that it calls make is longer than what came in: it says more and counts as full. Else prove '..UptoSaid'. A law counts once. -/
mutual
def uptoBulk {H : Type} : DataW H → Nat
  | .lit (.string bytes) => bytes.length + 1
  | .lit _ => 1
  | .nil => 1
  | .ptr d => uptoBulk d + 1
  | .slice elems spare => uptoBulkAll elems + uptoBulkAll spare + 1
  | .agg parts => uptoBulkAll parts + 1
  | .iface _ d => uptoBulk d + 1
  | .map entries => uptoBulkEntries entries + 1
  | .held _ => 1
def uptoBulkAll {H : Type} : List (DataW H) → Nat
  | [] => 0
  | d :: r => uptoBulk d + uptoBulkAll r
def uptoBulkEntries {H : Type} : List (Lit × DataW H) → Nat
  | [] => 0
  | x :: r => uptoBulkEntry x + uptoBulkEntries r
def uptoBulkEntry {H : Type} : Lit × DataW H → Nat
  | (.string bytes, d) => bytes.length + uptoBulk d + 1
  | (_, d) => uptoBulk d + 1
 end
def uptoSmall : (H : Type) → List (DataW H) → Bool := fun _ ds => decide (uptoBulkAll ds ≤ 1048576)
def OpenSpec.upto (s : _root_.Go.ChangeSpec) : _root_.Go.OpenSpec := { _root_.Go.OpenSpec.ofChange s with cond := some uptoSmall }

/-- 'laws.FnExactWordsOfText', WHERE WHAT IT READS IS OF BULK AT MOST 1048576: true; the input reads as it did. -/
def fnExactWordsOfTextUptoRow : OpenClaim := { program := "ytgbnpemoljhamaadoor", sum := "ae0d73ac9fc9242fb242cd927343478215b0f72a7e4dc8ed0a66965fb1de0713", func := "loop.example/g01394/laws.FnExactWordsOfText", spec := "fnExactWordsOfText", inPlace := ["internal/bytealg.CountString", "internal/bytealg.IndexByteString", "internal/bytealg.IndexString"], named := ["unicode/utf8.first", "unicode/utf8.acceptRanges", "internal/bytealg.MaxLen"], apart := false, laid := [("unicode/utf8.acceptRanges", laid_unicode_utf8_acceptRanges), ("unicode/utf8.first", laid_unicode_utf8_first)], narrowed := true }
def FnExactWordsOfTextUptoSaid : Prop := fnExactWordsOfTextUptoRow.holds Tryd.pinned (OpenSpec.upto fnExactWordsOfTextSpec)

/-- 'laws.FnExactCentreText', WHERE WHAT IT READS IS OF BULK AT MOST 1048576: true; the input reads as it did. -/
def fnExactCentreTextUptoRow : OpenClaim := { program := "ytgbnpemoljhamaadoor", sum := "ae0d73ac9fc9242fb242cd927343478215b0f72a7e4dc8ed0a66965fb1de0713", func := "loop.example/g01394/laws.FnExactCentreText", spec := "fnExactCentreText", inPlace := ["internal/bytealg.CountString", "internal/bytealg.IndexByteString", "internal/bytealg.IndexString", "internal/abi.NoEscape", "internal/bytealg.MakeNoZero"], named := ["unicode/utf8.first", "unicode/utf8.acceptRanges", "internal/bytealg.MaxLen"], apart := false, laid := [("unicode/utf8.acceptRanges", laid_unicode_utf8_acceptRanges), ("unicode/utf8.first", laid_unicode_utf8_first)], narrowed := true }
def FnExactCentreTextUptoSaid : Prop := fnExactCentreTextUptoRow.holds Tryd.pinned (OpenSpec.upto fnExactCentreTextSpec)

/-- 'laws.FnExactSetText', WHERE WHAT IT READS IS OF BULK AT MOST 1048576: true; the input reads as it did. -/
def fnExactSetTextUptoRow : OpenClaim := { program := "ytgbnpemoljhamaadoor", sum := "ae0d73ac9fc9242fb242cd927343478215b0f72a7e4dc8ed0a66965fb1de0713", func := "loop.example/g01394/laws.FnExactSetText", spec := "fnExactSetText", inPlace := ["internal/bytealg.CountString", "internal/bytealg.IndexByteString", "internal/bytealg.IndexString", "internal/abi.NoEscape", "internal/bytealg.MakeNoZero"], named := ["unicode/utf8.first", "unicode/utf8.acceptRanges", "internal/bytealg.MaxLen"], apart := false, laid := [("unicode/utf8.acceptRanges", laid_unicode_utf8_acceptRanges), ("unicode/utf8.first", laid_unicode_utf8_first)], narrowed := true }
def FnExactSetTextUptoSaid : Prop := fnExactSetTextUptoRow.holds Tryd.pinned (OpenSpec.upto fnExactSetTextSpec)

/-- 'laws.FnExactStretchText', WHERE WHAT IT READS IS OF BULK AT MOST 1048576: true; the input reads as it did. -/
def fnExactStretchTextUptoRow : OpenClaim := { program := "ytgbnpemoljhamaadoor", sum := "ae0d73ac9fc9242fb242cd927343478215b0f72a7e4dc8ed0a66965fb1de0713", func := "loop.example/g01394/laws.FnExactStretchText", spec := "fnExactStretchText", inPlace := ["internal/bytealg.CountString", "internal/bytealg.IndexByteString", "internal/bytealg.IndexString", "internal/abi.NoEscape", "internal/bytealg.MakeNoZero"], named := ["unicode/utf8.first", "unicode/utf8.acceptRanges", "internal/bytealg.MaxLen"], apart := false, laid := [("unicode/utf8.acceptRanges", laid_unicode_utf8_acceptRanges), ("unicode/utf8.first", laid_unicode_utf8_first)], narrowed := true }
def FnExactStretchTextUptoSaid : Prop := fnExactStretchTextUptoRow.holds Tryd.pinned (OpenSpec.upto fnExactStretchTextSpec)

end Rows
end Go.Proofs.YtgbnpemoljhamaaDoor
