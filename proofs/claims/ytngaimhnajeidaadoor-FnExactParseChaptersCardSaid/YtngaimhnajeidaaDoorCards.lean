/-
  DERIVED. GIVEN WITH THE SEED: THE CARDS: each row of YtngaimhnajeidaaDoorRows.lean that lists a variable, with what it lists TIED to the program's text (the seventh form; the later family's looks); each row that meets fmt, with fmt's text TOLD by the authors' own Lean function (tested against real Go, not proved from fmt's source: count such statements apart). THE CARD IS WHAT COUNTS. Prove the row's statement (the work); the ties are given (YtngaimhnajeidaaDoorTie.lean); close each card by the builder's one call (the guide's Derived/Test/ToyasCard.lean, 'card_holds'). Laid BY PROGRAM, IN A SANDBOX (cutbox-door.mjs). By AI agents, Wed Nov 11 2026. No macro, syntax, notation, axiom, sorry.
-/
import Derived.Test.YtngaimhnajeidaaDoorRows
import GoSem.ClaimSeven
namespace Go.Proofs.YtngaimhnajeidaaDoor
namespace Rows

/-- THE TIED CARD OF 'laws.FnExactParseChapters'. -/
def fnExactParseChaptersCard : Claim7 := { stood := { row := fnExactParseChaptersRow, standIns := [], harness := (true, "c27384df8f85cc8cad8f0f85e9856124ff4992304d34baa83181639b3c1c696e"), looks := true }, kinds := [], alts := [], laidByText := true, laidKinds := [.data, .data, .data, .data, .sentinel, .sentinel, .pinned], laidTests := true, laidLooks := .later }
def FnExactParseChaptersCardSaid : Prop := Claim7.holds Tryd.pinned (.plain (OpenSpec.ofChange fnExactParseChaptersSpec)) fnExactParseChaptersCard

/-- THE TIED CARD OF 'laws.FnExactChaptersText'. -/
def fnExactChaptersTextCard : Claim7 := { stood := { row := fnExactChaptersTextRow, standIns := [], harness := (true, "c27384df8f85cc8cad8f0f85e9856124ff4992304d34baa83181639b3c1c696e"), looks := true }, kinds := [], alts := [], laidByText := true, laidKinds := [.data, .data, .data], laidTests := true, laidLooks := .later }
def FnExactChaptersTextCardSaid : Prop := Claim7.holds Tryd.pinned (.plain (OpenSpec.ofChange fnExactChaptersTextSpec)) fnExactChaptersTextCard

/-- THE TIED CARD OF 'laws.FnExactContentsLine'. -/
def fnExactContentsLineCard : Claim7 := { stood := { row := fnExactContentsLineRow, standIns := [], harness := (true, "c27384df8f85cc8cad8f0f85e9856124ff4992304d34baa83181639b3c1c696e"), looks := true }, kinds := [], alts := [], laidByText := true, laidKinds := [.data, .data, .data], laidTests := true, laidLooks := .later }
def FnExactContentsLineCardSaid : Prop := Claim7.holds Tryd.pinned (.plain (OpenSpec.ofChange fnExactContentsLineSpec)) fnExactContentsLineCard

/-- THE TIED CARD OF 'laws.FnExactContentsOf'. -/
def fnExactContentsOfCard : Claim7 := { stood := { row := fnExactContentsOfRow, standIns := [], harness := (true, "c27384df8f85cc8cad8f0f85e9856124ff4992304d34baa83181639b3c1c696e"), looks := true }, kinds := [], alts := [], laidByText := true, laidKinds := [.data, .data, .data], laidTests := true, laidLooks := .later }
def FnExactContentsOfCardSaid : Prop := Claim7.holds Tryd.pinned (.plain (OpenSpec.ofChange fnExactContentsOfSpec)) fnExactContentsOfCard

/-- THE SECOND FORM's CARD OF 'laws.FnExactParseChapters'. -/
def fnExactParseChaptersUptoCard : Claim7 := { stood := { row := fnExactParseChaptersUptoRow, standIns := [], harness := (true, "c27384df8f85cc8cad8f0f85e9856124ff4992304d34baa83181639b3c1c696e"), looks := true }, kinds := [], alts := [], laidByText := true, laidKinds := [.data, .data, .data, .data, .sentinel, .sentinel, .pinned], laidTests := true, laidLooks := .later }
def FnExactParseChaptersUptoCardSaid : Prop := Claim7.holds Tryd.pinned (.plain (OpenSpec.upto fnExactParseChaptersSpec)) fnExactParseChaptersUptoCard

/-- THE SECOND FORM's CARD OF 'laws.FnExactChaptersText'. -/
def fnExactChaptersTextUptoCard : Claim7 := { stood := { row := fnExactChaptersTextUptoRow, standIns := [], harness := (true, "c27384df8f85cc8cad8f0f85e9856124ff4992304d34baa83181639b3c1c696e"), looks := true }, kinds := [], alts := [], laidByText := true, laidKinds := [.data, .data, .data], laidTests := true, laidLooks := .later }
def FnExactChaptersTextUptoCardSaid : Prop := Claim7.holds Tryd.pinned (.plain (OpenSpec.upto fnExactChaptersTextSpec)) fnExactChaptersTextUptoCard

/-- THE SECOND FORM's CARD OF 'laws.FnExactContentsLine'. -/
def fnExactContentsLineUptoCard : Claim7 := { stood := { row := fnExactContentsLineUptoRow, standIns := [], harness := (true, "c27384df8f85cc8cad8f0f85e9856124ff4992304d34baa83181639b3c1c696e"), looks := true }, kinds := [], alts := [], laidByText := true, laidKinds := [.data, .data, .data], laidTests := true, laidLooks := .later }
def FnExactContentsLineUptoCardSaid : Prop := Claim7.holds Tryd.pinned (.plain (OpenSpec.upto fnExactContentsLineSpec)) fnExactContentsLineUptoCard

/-- THE SECOND FORM's CARD OF 'laws.FnExactContentsOf'. -/
def fnExactContentsOfUptoCard : Claim7 := { stood := { row := fnExactContentsOfUptoRow, standIns := [], harness := (true, "c27384df8f85cc8cad8f0f85e9856124ff4992304d34baa83181639b3c1c696e"), looks := true }, kinds := [], alts := [], laidByText := true, laidKinds := [.data, .data, .data], laidTests := true, laidLooks := .later }
def FnExactContentsOfUptoCardSaid : Prop := Claim7.holds Tryd.pinned (.plain (OpenSpec.upto fnExactContentsOfSpec)) fnExactContentsOfUptoCard
end Rows
end Go.Proofs.YtngaimhnajeidaaDoor
