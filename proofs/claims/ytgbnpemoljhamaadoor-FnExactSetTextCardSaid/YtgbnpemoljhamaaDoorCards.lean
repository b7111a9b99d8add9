/-
  DERIVED. GIVEN WITH THE SEED: THE CARDS: each row of YtgbnpemoljhamaaDoorRows.lean that lists a variable, with what it lists TIED to the program's text (the seventh form; the later family's looks); each row that meets fmt, with fmt's text TOLD by the authors' own Lean function (tested against real Go, not proved from fmt's source: count such statements apart). THE CARD IS WHAT COUNTS. Prove the row's statement (the work); the ties are given (YtgbnpemoljhamaaDoorTie.lean); close each card by the builder's one call (the guide's Derived/Test/ToyasCard.lean, 'card_holds'). Laid BY PROGRAM, IN A SANDBOX (cutbox-door.mjs). By AI agents, Wed Nov 11 2026. No macro, syntax, notation, axiom, sorry.
-/
import Derived.Test.YtgbnpemoljhamaaDoorRows
import GoSem.ClaimSeven
namespace Go.Proofs.YtgbnpemoljhamaaDoor
namespace Rows

/-- THE TIED CARD OF 'laws.FnExactWordsOfText'. -/
def fnExactWordsOfTextCard : Claim7 := { stood := { row := fnExactWordsOfTextRow, standIns := [], harness := (true, "ed0a2cd0b1ecc47aba5887488a9f279e7c0f05139b87bb8cc3005c419e677d99"), looks := false }, kinds := [], alts := [], laidByText := true, laidKinds := [.data, .pinned], laidTests := true, laidLooks := .later }
def FnExactWordsOfTextCardSaid : Prop := Claim7.holds Tryd.pinned (.plain (OpenSpec.ofChange fnExactWordsOfTextSpec)) fnExactWordsOfTextCard

/-- THE TIED CARD OF 'laws.FnExactCentreText'. -/
def fnExactCentreTextCard : Claim7 := { stood := { row := fnExactCentreTextRow, standIns := [], harness := (true, "ed0a2cd0b1ecc47aba5887488a9f279e7c0f05139b87bb8cc3005c419e677d99"), looks := false }, kinds := [], alts := [], laidByText := true, laidKinds := [.data, .pinned], laidTests := true, laidLooks := .later }
def FnExactCentreTextCardSaid : Prop := Claim7.holds Tryd.pinned (.plain (OpenSpec.ofChange fnExactCentreTextSpec)) fnExactCentreTextCard

/-- THE TIED CARD OF 'laws.FnExactSetText'. -/
def fnExactSetTextCard : Claim7 := { stood := { row := fnExactSetTextRow, standIns := [], harness := (true, "ed0a2cd0b1ecc47aba5887488a9f279e7c0f05139b87bb8cc3005c419e677d99"), looks := false }, kinds := [], alts := [], laidByText := true, laidKinds := [.data, .pinned], laidTests := true, laidLooks := .later }
def FnExactSetTextCardSaid : Prop := Claim7.holds Tryd.pinned (.plain (OpenSpec.ofChange fnExactSetTextSpec)) fnExactSetTextCard

/-- THE TIED CARD OF 'laws.FnExactStretchText'. -/
def fnExactStretchTextCard : Claim7 := { stood := { row := fnExactStretchTextRow, standIns := [], harness := (true, "ed0a2cd0b1ecc47aba5887488a9f279e7c0f05139b87bb8cc3005c419e677d99"), looks := false }, kinds := [], alts := [], laidByText := true, laidKinds := [.data, .pinned], laidTests := true, laidLooks := .later }
def FnExactStretchTextCardSaid : Prop := Claim7.holds Tryd.pinned (.plain (OpenSpec.ofChange fnExactStretchTextSpec)) fnExactStretchTextCard

/-- THE SECOND FORM's CARD OF 'laws.FnExactWordsOfText'. -/
def fnExactWordsOfTextUptoCard : Claim7 := { stood := { row := fnExactWordsOfTextUptoRow, standIns := [], harness := (true, "ed0a2cd0b1ecc47aba5887488a9f279e7c0f05139b87bb8cc3005c419e677d99"), looks := false }, kinds := [], alts := [], laidByText := true, laidKinds := [.data, .pinned], laidTests := true, laidLooks := .later }
def FnExactWordsOfTextUptoCardSaid : Prop := Claim7.holds Tryd.pinned (.plain (OpenSpec.upto fnExactWordsOfTextSpec)) fnExactWordsOfTextUptoCard

/-- THE SECOND FORM's CARD OF 'laws.FnExactCentreText'. -/
def fnExactCentreTextUptoCard : Claim7 := { stood := { row := fnExactCentreTextUptoRow, standIns := [], harness := (true, "ed0a2cd0b1ecc47aba5887488a9f279e7c0f05139b87bb8cc3005c419e677d99"), looks := false }, kinds := [], alts := [], laidByText := true, laidKinds := [.data, .pinned], laidTests := true, laidLooks := .later }
def FnExactCentreTextUptoCardSaid : Prop := Claim7.holds Tryd.pinned (.plain (OpenSpec.upto fnExactCentreTextSpec)) fnExactCentreTextUptoCard

/-- THE SECOND FORM's CARD OF 'laws.FnExactSetText'. -/
def fnExactSetTextUptoCard : Claim7 := { stood := { row := fnExactSetTextUptoRow, standIns := [], harness := (true, "ed0a2cd0b1ecc47aba5887488a9f279e7c0f05139b87bb8cc3005c419e677d99"), looks := false }, kinds := [], alts := [], laidByText := true, laidKinds := [.data, .pinned], laidTests := true, laidLooks := .later }
def FnExactSetTextUptoCardSaid : Prop := Claim7.holds Tryd.pinned (.plain (OpenSpec.upto fnExactSetTextSpec)) fnExactSetTextUptoCard

/-- THE SECOND FORM's CARD OF 'laws.FnExactStretchText'. -/
def fnExactStretchTextUptoCard : Claim7 := { stood := { row := fnExactStretchTextUptoRow, standIns := [], harness := (true, "ed0a2cd0b1ecc47aba5887488a9f279e7c0f05139b87bb8cc3005c419e677d99"), looks := false }, kinds := [], alts := [], laidByText := true, laidKinds := [.data, .pinned], laidTests := true, laidLooks := .later }
def FnExactStretchTextUptoCardSaid : Prop := Claim7.holds Tryd.pinned (.plain (OpenSpec.upto fnExactStretchTextSpec)) fnExactStretchTextUptoCard
end Rows
end Go.Proofs.YtgbnpemoljhamaaDoor
