/-
  DERIVED. GIVEN WITH THE SEED: THE CARDS: each row of YteolpfmpinbdoaaDoorRows.lean that lists a variable, with what it lists TIED to the program's text (the seventh form; the later family's looks); each row that meets fmt, with fmt's text TOLD by the authors' own Lean function (tested against real Go, not proved from fmt's source: count such statements apart). THE CARD IS WHAT COUNTS. Prove the row's statement (the work); the ties are given (YteolpfmpinbdoaaDoorTie.lean); close each card by the builder's one call (the guide's Derived/Test/ToyasCard.lean, 'card_holds'). Laid BY PROGRAM, IN A SANDBOX (cutbox-door.mjs). By AI agents, Wed Nov 11 2026. No macro, syntax, notation, axiom, sorry.
-/
import Derived.Test.YteolpfmpinbdoaaDoorRows
import GoSem.ClaimSeven
namespace Go.Proofs.YteolpfmpinbdoaaDoor
namespace Rows

/-- THE TIED CARD OF 'laws.FnExactShortRange'. -/
def fnExactShortRangeCard : Claim7 := { stood := { row := fnExactShortRangeRow, standIns := [], harness := (true, "8915dc2666908cd781ef1cbb440ac5d97abcef02ae9c0c1d3b1c55e731c6ac82"), looks := true }, kinds := [], alts := [], laidByText := true, laidKinds := [.data, .data, .data], laidTests := true, laidLooks := .later }
def FnExactShortRangeCardSaid : Prop := Claim7.holds Tryd.pinned (.plain (OpenSpec.ofChange fnExactShortRangeSpec)) fnExactShortRangeCard

/-- THE TIED CARD OF 'laws.FnExactRangesText'. -/
def fnExactRangesTextCard : Claim7 := { stood := { row := fnExactRangesTextRow, standIns := [], harness := (true, "8915dc2666908cd781ef1cbb440ac5d97abcef02ae9c0c1d3b1c55e731c6ac82"), looks := true }, kinds := [], alts := [], laidByText := true, laidKinds := [.data, .data, .data], laidTests := true, laidLooks := .later }
def FnExactRangesTextCardSaid : Prop := Claim7.holds Tryd.pinned (.plain (OpenSpec.ofChange fnExactRangesTextSpec)) fnExactRangesTextCard

/-- THE TIED CARD OF 'laws.FnExactLongRange'. -/
def fnExactLongRangeCard : Claim7 := { stood := { row := fnExactLongRangeRow, standIns := [], harness := (true, "8915dc2666908cd781ef1cbb440ac5d97abcef02ae9c0c1d3b1c55e731c6ac82"), looks := true }, kinds := [], alts := [], laidByText := true, laidKinds := [.data, .data, .data, .sentinel, .sentinel], laidTests := true, laidLooks := .later }
def FnExactLongRangeCardSaid : Prop := Claim7.holds Tryd.pinned (.plain (OpenSpec.ofChange fnExactLongRangeSpec)) fnExactLongRangeCard

/-- THE TIED CARD OF 'laws.FnExactParseRanges'. -/
def fnExactParseRangesCard : Claim7 := { stood := { row := fnExactParseRangesRow, standIns := [], harness := (true, "8915dc2666908cd781ef1cbb440ac5d97abcef02ae9c0c1d3b1c55e731c6ac82"), looks := true }, kinds := [], alts := [], laidByText := true, laidKinds := [.data, .data, .data, .data, .sentinel, .sentinel, .pinned], laidTests := true, laidLooks := .later }
def FnExactParseRangesCardSaid : Prop := Claim7.holds Tryd.pinned (.plain (OpenSpec.ofChange fnExactParseRangesSpec)) fnExactParseRangesCard

/-- THE SECOND FORM's CARD OF 'laws.FnExactShortRange'. -/
def fnExactShortRangeUptoCard : Claim7 := { stood := { row := fnExactShortRangeUptoRow, standIns := [], harness := (true, "8915dc2666908cd781ef1cbb440ac5d97abcef02ae9c0c1d3b1c55e731c6ac82"), looks := true }, kinds := [], alts := [], laidByText := true, laidKinds := [.data, .data, .data], laidTests := true, laidLooks := .later }
def FnExactShortRangeUptoCardSaid : Prop := Claim7.holds Tryd.pinned (.plain (OpenSpec.upto fnExactShortRangeSpec)) fnExactShortRangeUptoCard

/-- THE SECOND FORM's CARD OF 'laws.FnExactRangesText'. -/
def fnExactRangesTextUptoCard : Claim7 := { stood := { row := fnExactRangesTextUptoRow, standIns := [], harness := (true, "8915dc2666908cd781ef1cbb440ac5d97abcef02ae9c0c1d3b1c55e731c6ac82"), looks := true }, kinds := [], alts := [], laidByText := true, laidKinds := [.data, .data, .data], laidTests := true, laidLooks := .later }
def FnExactRangesTextUptoCardSaid : Prop := Claim7.holds Tryd.pinned (.plain (OpenSpec.upto fnExactRangesTextSpec)) fnExactRangesTextUptoCard

/-- THE SECOND FORM's CARD OF 'laws.FnExactLongRange'. -/
def fnExactLongRangeUptoCard : Claim7 := { stood := { row := fnExactLongRangeUptoRow, standIns := [], harness := (true, "8915dc2666908cd781ef1cbb440ac5d97abcef02ae9c0c1d3b1c55e731c6ac82"), looks := true }, kinds := [], alts := [], laidByText := true, laidKinds := [.data, .data, .data, .sentinel, .sentinel], laidTests := true, laidLooks := .later }
def FnExactLongRangeUptoCardSaid : Prop := Claim7.holds Tryd.pinned (.plain (OpenSpec.upto fnExactLongRangeSpec)) fnExactLongRangeUptoCard

/-- THE SECOND FORM's CARD OF 'laws.FnExactParseRanges'. -/
def fnExactParseRangesUptoCard : Claim7 := { stood := { row := fnExactParseRangesUptoRow, standIns := [], harness := (true, "8915dc2666908cd781ef1cbb440ac5d97abcef02ae9c0c1d3b1c55e731c6ac82"), looks := true }, kinds := [], alts := [], laidByText := true, laidKinds := [.data, .data, .data, .data, .sentinel, .sentinel, .pinned], laidTests := true, laidLooks := .later }
def FnExactParseRangesUptoCardSaid : Prop := Claim7.holds Tryd.pinned (.plain (OpenSpec.upto fnExactParseRangesSpec)) fnExactParseRangesUptoCard
end Rows
end Go.Proofs.YteolpfmpinbdoaaDoor
