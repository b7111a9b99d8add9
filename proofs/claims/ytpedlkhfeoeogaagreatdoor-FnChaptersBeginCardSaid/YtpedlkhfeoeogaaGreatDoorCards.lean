/-
  DERIVED. GIVEN WITH THE SEED: THE CARDS: each row of YtpedlkhfeoeogaaGreatDoorRows.lean that lists a variable, with what it lists TIED to the program's text (the seventh form; the later family's looks); each row that meets fmt, with fmt's text TOLD by the authors' own Lean function (tested against real Go, not proved from fmt's source: count such statements apart). THE CARD IS WHAT COUNTS. Prove the row's statement (the work); the ties are given (YtpedlkhfeoeogaaGreatDoorTie.lean); close each card by the builder's one call (the guide's Derived/Test/ToyasCard.lean, 'card_holds'). Laid BY PROGRAM, IN A SANDBOX (cutbox-door.mjs). By AI agents, Wed Nov 11 2026. No macro, syntax, notation, axiom, sorry.
-/
import Derived.Test.YtpedlkhfeoeogaaGreatDoorRows
import GoSem.ClaimSeven
namespace Go.Proofs.YtpedlkhfeoeogaaGreatDoor
namespace Rows

/-- THE TIED CARD OF 'laws.FnChaptersBegin'. -/
def fnChaptersBeginCard : Claim7 := { stood := { row := fnChaptersBeginRow, standIns := [], harness := (true, "80be6a202ba6c628dec309182fabb8d91c95a3b9666e6767b0b5dc443f0af361"), looks := true }, kinds := [], alts := [], laidByText := true, laidKinds := [.data, .data, .data, .data, .sentinel, .sentinel, .pinned], laidTests := true, laidLooks := .later }
def FnChaptersBeginCardSaid : Prop := Claim7.holds Tryz.pinned (.plain (OpenSpec.ofChange fnChaptersBeginSpec)) fnChaptersBeginCard

/-- THE SECOND FORM's CARD OF 'laws.FnChaptersBegin'. -/
def fnChaptersBeginUptoCard : Claim7 := { stood := { row := fnChaptersBeginUptoRow, standIns := [], harness := (true, "80be6a202ba6c628dec309182fabb8d91c95a3b9666e6767b0b5dc443f0af361"), looks := true }, kinds := [], alts := [], laidByText := true, laidKinds := [.data, .data, .data, .data, .sentinel, .sentinel, .pinned], laidTests := true, laidLooks := .later }
def FnChaptersBeginUptoCardSaid : Prop := Claim7.holds Tryz.pinned (.plain (OpenSpec.upto fnChaptersBeginSpec)) fnChaptersBeginUptoCard
end Rows
end Go.Proofs.YtpedlkhfeoeogaaGreatDoor
