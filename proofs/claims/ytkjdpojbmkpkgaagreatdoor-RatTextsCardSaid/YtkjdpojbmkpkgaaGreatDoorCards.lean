/-
  DERIVED. GIVEN WITH THE SEED: THE CARDS: each row of YtkjdpojbmkpkgaaGreatDoorRows.lean that lists a variable, with what it lists TIED to the program's text (the seventh form; the later family's looks); each row that meets fmt, with fmt's text TOLD by the authors' own Lean function (tested against real Go, not proved from fmt's source: count such statements apart). THE CARD IS WHAT COUNTS. Prove the row's statement (the work); the ties are given (YtkjdpojbmkpkgaaGreatDoorTie.lean); close each card by the builder's one call (the guide's Derived/Test/ToyasCard.lean, 'card_holds'). Laid BY PROGRAM, IN A SANDBOX (cutbox-door.mjs). By AI agents, Wed Nov 11 2026. No macro, syntax, notation, axiom, sorry.
-/
import Derived.Test.YtkjdpojbmkpkgaaGreatDoorRows
import GoSem.ClaimSeven
namespace Go.Proofs.YtkjdpojbmkpkgaaGreatDoor
namespace Rows

/-- THE TIED CARD OF 'driftnetlaw02.RatReckons'. -/
def ratReckonsCard : Claim7 := { stood := { row := ratReckonsRow, standIns := [], harness := (true, "32ceed6364ad57a0e78739783fe6c7f4cccb9bf5311cf3e21a2b5a5bf027eb85"), looks := false }, kinds := [], alts := [], laidByText := true, laidKinds := [.data, .pinned], laidTests := true, laidLooks := .later }
def RatReckonsCardSaid : Prop := Claim7.holds Tryz.pinned (.plain (OpenSpec.ofChange ratReckonsSpec)) ratReckonsCard

/-- THE TIED CARD OF 'driftnetlaw02.RatTexts'. -/
def ratTextsCard : Claim7 := { stood := { row := ratTextsRow, standIns := [], harness := (true, "32ceed6364ad57a0e78739783fe6c7f4cccb9bf5311cf3e21a2b5a5bf027eb85"), looks := false }, kinds := [], alts := [], laidByText := true, laidKinds := [.data, .pinned], laidTests := true, laidLooks := .later }
def RatTextsCardSaid : Prop := Claim7.holds Tryz.pinned (.plain (OpenSpec.ofChange ratTextsSpec)) ratTextsCard

/-- THE TIED CARD OF 'driftnetlaw02.RatTells'. -/
def ratTellsCard : Claim7 := { stood := { row := ratTellsRow, standIns := [], harness := (true, "32ceed6364ad57a0e78739783fe6c7f4cccb9bf5311cf3e21a2b5a5bf027eb85"), looks := false }, kinds := [], alts := [], laidByText := true, laidKinds := [.data, .pinned], laidTests := true, laidLooks := .later }
def RatTellsCardSaid : Prop := Claim7.holds Tryz.pinned (.plain (OpenSpec.ofChange ratTellsSpec)) ratTellsCard

/-- THE SECOND FORM's CARD OF 'driftnetlaw02.RatReckons'. -/
def ratReckonsUptoCard : Claim7 := { stood := { row := ratReckonsUptoRow, standIns := [], harness := (true, "32ceed6364ad57a0e78739783fe6c7f4cccb9bf5311cf3e21a2b5a5bf027eb85"), looks := false }, kinds := [], alts := [], laidByText := true, laidKinds := [.data, .pinned], laidTests := true, laidLooks := .later }
def RatReckonsUptoCardSaid : Prop := Claim7.holds Tryz.pinned (.plain (OpenSpec.upto ratReckonsSpec)) ratReckonsUptoCard

/-- THE SECOND FORM's CARD OF 'driftnetlaw02.RatTexts'. -/
def ratTextsUptoCard : Claim7 := { stood := { row := ratTextsUptoRow, standIns := [], harness := (true, "32ceed6364ad57a0e78739783fe6c7f4cccb9bf5311cf3e21a2b5a5bf027eb85"), looks := false }, kinds := [], alts := [], laidByText := true, laidKinds := [.data, .pinned], laidTests := true, laidLooks := .later }
def RatTextsUptoCardSaid : Prop := Claim7.holds Tryz.pinned (.plain (OpenSpec.upto ratTextsSpec)) ratTextsUptoCard

/-- THE SECOND FORM's CARD OF 'driftnetlaw02.RatTells'. -/
def ratTellsUptoCard : Claim7 := { stood := { row := ratTellsUptoRow, standIns := [], harness := (true, "32ceed6364ad57a0e78739783fe6c7f4cccb9bf5311cf3e21a2b5a5bf027eb85"), looks := false }, kinds := [], alts := [], laidByText := true, laidKinds := [.data, .pinned], laidTests := true, laidLooks := .later }
def RatTellsUptoCardSaid : Prop := Claim7.holds Tryz.pinned (.plain (OpenSpec.upto ratTellsSpec)) ratTellsUptoCard
end Rows
end Go.Proofs.YtkjdpojbmkpkgaaGreatDoor
