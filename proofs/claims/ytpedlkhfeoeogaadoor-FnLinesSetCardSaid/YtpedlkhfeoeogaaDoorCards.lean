/-
  DERIVED. GIVEN WITH THE SEED: THE CARDS: each row of YtpedlkhfeoeogaaDoorRows.lean that lists a variable, with what it lists TIED to the program's text (the seventh form; the later family's looks); each row that meets fmt, with fmt's text TOLD by the authors' own Lean function (tested against real Go, not proved from fmt's source: count such statements apart). THE CARD IS WHAT COUNTS. Prove the row's statement (the work); the ties are given (YtpedlkhfeoeogaaDoorTie.lean); close each card by the builder's one call (the guide's Derived/Test/ToyasCard.lean, 'card_holds'). Laid BY PROGRAM, IN A SANDBOX (cutbox-door.mjs). By AI agents, Wed Nov 11 2026. No macro, syntax, notation, axiom, sorry.
-/
import Derived.Test.YtpedlkhfeoeogaaDoorRows
import GoSem.ClaimSeven
namespace Go.Proofs.YtpedlkhfeoeogaaDoor
namespace Rows

/-- THE TIED CARD OF 'laws.FnVolumesSplit'. -/
def fnVolumesSplitCard : Claim7 := { stood := { row := fnVolumesSplitRow, standIns := [], harness := (true, "30b33b99686a306d08bfe6cb32857ece60d234d5618ef424f90db269c4bf757a"), looks := false }, kinds := [], alts := [], laidByText := true, laidKinds := [.data, .data, .data], laidTests := true, laidLooks := .later }
def FnVolumesSplitCardSaid : Prop := Claim7.holds Tryd.pinned (.plain (OpenSpec.ofChange fnVolumesSplitSpec)) fnVolumesSplitCard

/-- THE TIED CARD OF 'laws.FnLinesSet'. -/
def fnLinesSetCard : Claim7 := { stood := { row := fnLinesSetRow, standIns := [], harness := (true, "30b33b99686a306d08bfe6cb32857ece60d234d5618ef424f90db269c4bf757a"), looks := false }, kinds := [], alts := [], laidByText := true, laidKinds := [.data, .pinned], laidTests := true, laidLooks := .later }
def FnLinesSetCardSaid : Prop := Claim7.holds Tryd.pinned (.plain (OpenSpec.ofChange fnLinesSetSpec)) fnLinesSetCard

/-- THE TIED CARD OF 'laws.FnLinesStretched'. -/
def fnLinesStretchedCard : Claim7 := { stood := { row := fnLinesStretchedRow, standIns := [], harness := (true, "30b33b99686a306d08bfe6cb32857ece60d234d5618ef424f90db269c4bf757a"), looks := false }, kinds := [], alts := [], laidByText := true, laidKinds := [.data, .pinned], laidTests := true, laidLooks := .later }
def FnLinesStretchedCardSaid : Prop := Claim7.holds Tryd.pinned (.plain (OpenSpec.ofChange fnLinesStretchedSpec)) fnLinesStretchedCard

/-- THE SECOND FORM's CARD OF 'laws.FnVolumesSplit'. -/
def fnVolumesSplitUptoCard : Claim7 := { stood := { row := fnVolumesSplitUptoRow, standIns := [], harness := (true, "30b33b99686a306d08bfe6cb32857ece60d234d5618ef424f90db269c4bf757a"), looks := false }, kinds := [], alts := [], laidByText := true, laidKinds := [.data, .data, .data], laidTests := true, laidLooks := .later }
def FnVolumesSplitUptoCardSaid : Prop := Claim7.holds Tryd.pinned (.plain (OpenSpec.upto fnVolumesSplitSpec)) fnVolumesSplitUptoCard

/-- THE SECOND FORM's CARD OF 'laws.FnLinesSet'. -/
def fnLinesSetUptoCard : Claim7 := { stood := { row := fnLinesSetUptoRow, standIns := [], harness := (true, "30b33b99686a306d08bfe6cb32857ece60d234d5618ef424f90db269c4bf757a"), looks := false }, kinds := [], alts := [], laidByText := true, laidKinds := [.data, .pinned], laidTests := true, laidLooks := .later }
def FnLinesSetUptoCardSaid : Prop := Claim7.holds Tryd.pinned (.plain (OpenSpec.upto fnLinesSetSpec)) fnLinesSetUptoCard

/-- THE SECOND FORM's CARD OF 'laws.FnLinesStretched'. -/
def fnLinesStretchedUptoCard : Claim7 := { stood := { row := fnLinesStretchedUptoRow, standIns := [], harness := (true, "30b33b99686a306d08bfe6cb32857ece60d234d5618ef424f90db269c4bf757a"), looks := false }, kinds := [], alts := [], laidByText := true, laidKinds := [.data, .pinned], laidTests := true, laidLooks := .later }
def FnLinesStretchedUptoCardSaid : Prop := Claim7.holds Tryd.pinned (.plain (OpenSpec.upto fnLinesStretchedSpec)) fnLinesStretchedUptoCard
end Rows
end Go.Proofs.YtpedlkhfeoeogaaDoor
