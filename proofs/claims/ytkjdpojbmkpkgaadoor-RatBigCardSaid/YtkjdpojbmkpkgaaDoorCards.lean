/-
  DERIVED. GIVEN WITH THE SEED: THE CARDS: each row of YtkjdpojbmkpkgaaDoorRows.lean that lists a variable, with what it lists TIED to the program's text (the seventh form; the later family's looks); each row that meets fmt, with fmt's text TOLD by the authors' own Lean function (tested against real Go, not proved from fmt's source: count such statements apart). THE CARD IS WHAT COUNTS. Prove the row's statement (the work); the ties are given (YtkjdpojbmkpkgaaDoorTie.lean); close each card by the builder's one call (the guide's Derived/Test/ToyasCard.lean, 'card_holds'). Laid BY PROGRAM, IN A SANDBOX (cutbox-door.mjs). By AI agents, Wed Nov 11 2026. No macro, syntax, notation, axiom, sorry.
-/
import Derived.Test.YtkjdpojbmkpkgaaDoorRows
import GoSem.ClaimSeven
namespace Go.Proofs.YtkjdpojbmkpkgaaDoor
namespace Rows

/-- THE TIED CARD OF 'driftnetlaw02.RatOrder'. -/
def ratOrderCard : Claim7 := { stood := { row := ratOrderRow, standIns := [], harness := (true, "c29c64317246c2f38b340c32a5c9fe7da449756aa56317b1fd83353cc18cef2c"), looks := false }, kinds := [], alts := [], laidByText := true, laidKinds := [.data, .pinned], laidTests := true, laidLooks := .later }
def RatOrderCardSaid : Prop := Claim7.holds Tryd.pinned (.plain (OpenSpec.ofChange ratOrderSpec)) ratOrderCard

/-- THE TIED CARD OF 'driftnetlaw02.RatBack'. -/
def ratBackCard : Claim7 := { stood := { row := ratBackRow, standIns := [], harness := (true, "c29c64317246c2f38b340c32a5c9fe7da449756aa56317b1fd83353cc18cef2c"), looks := false }, kinds := [], alts := [], laidByText := true, laidKinds := [.data, .pinned], laidTests := true, laidLooks := .later }
def RatBackCardSaid : Prop := Claim7.holds Tryd.pinned (.plain (OpenSpec.ofChange ratBackSpec)) ratBackCard

/-- THE TIED CARD OF 'driftnetlaw02.RatBig'. -/
def ratBigCard : Claim7 := { stood := { row := ratBigRow, standIns := [], harness := (true, "c29c64317246c2f38b340c32a5c9fe7da449756aa56317b1fd83353cc18cef2c"), looks := false }, kinds := [], alts := [], laidByText := true, laidKinds := [.data, .pinned], laidTests := true, laidLooks := .later }
def RatBigCardSaid : Prop := Claim7.holds Tryd.pinned (.plain (OpenSpec.ofChange ratBigSpec)) ratBigCard

/-- THE TIED CARD OF 'driftnetlaw02.RatField'. -/
def ratFieldCard : Claim7 := { stood := { row := ratFieldRow, standIns := [], harness := (true, "c29c64317246c2f38b340c32a5c9fe7da449756aa56317b1fd83353cc18cef2c"), looks := false }, kinds := [], alts := [], laidByText := true, laidKinds := [.data, .pinned], laidTests := true, laidLooks := .later }
def RatFieldCardSaid : Prop := Claim7.holds Tryd.pinned (.plain (OpenSpec.ofChange ratFieldSpec)) ratFieldCard

/-- THE TIED CARD OF 'driftnetlaw02.RatInts'. -/
def ratIntsCard : Claim7 := { stood := { row := ratIntsRow, standIns := [], harness := (true, "c29c64317246c2f38b340c32a5c9fe7da449756aa56317b1fd83353cc18cef2c"), looks := false }, kinds := [], alts := [], laidByText := true, laidKinds := [.data, .pinned], laidTests := true, laidLooks := .later }
def RatIntsCardSaid : Prop := Claim7.holds Tryd.pinned (.plain (OpenSpec.ofChange ratIntsSpec)) ratIntsCard

/-- THE TIED CARD OF 'driftnetlaw02.RatKnown'. -/
def ratKnownCard : Claim7 := { stood := { row := ratKnownRow, standIns := [], harness := (true, "c29c64317246c2f38b340c32a5c9fe7da449756aa56317b1fd83353cc18cef2c"), looks := false }, kinds := [], alts := [], laidByText := true, laidKinds := [.data, .pinned], laidTests := true, laidLooks := .later }
def RatKnownCardSaid : Prop := Claim7.holds Tryd.pinned (.plain (OpenSpec.ofChange ratKnownSpec)) ratKnownCard

/-- THE SECOND FORM's CARD OF 'driftnetlaw02.RatOrder'. -/
def ratOrderUptoCard : Claim7 := { stood := { row := ratOrderUptoRow, standIns := [], harness := (true, "c29c64317246c2f38b340c32a5c9fe7da449756aa56317b1fd83353cc18cef2c"), looks := false }, kinds := [], alts := [], laidByText := true, laidKinds := [.data, .pinned], laidTests := true, laidLooks := .later }
def RatOrderUptoCardSaid : Prop := Claim7.holds Tryd.pinned (.plain (OpenSpec.upto ratOrderSpec)) ratOrderUptoCard

/-- THE SECOND FORM's CARD OF 'driftnetlaw02.RatBack'. -/
def ratBackUptoCard : Claim7 := { stood := { row := ratBackUptoRow, standIns := [], harness := (true, "c29c64317246c2f38b340c32a5c9fe7da449756aa56317b1fd83353cc18cef2c"), looks := false }, kinds := [], alts := [], laidByText := true, laidKinds := [.data, .pinned], laidTests := true, laidLooks := .later }
def RatBackUptoCardSaid : Prop := Claim7.holds Tryd.pinned (.plain (OpenSpec.upto ratBackSpec)) ratBackUptoCard

/-- THE SECOND FORM's CARD OF 'driftnetlaw02.RatBig'. -/
def ratBigUptoCard : Claim7 := { stood := { row := ratBigUptoRow, standIns := [], harness := (true, "c29c64317246c2f38b340c32a5c9fe7da449756aa56317b1fd83353cc18cef2c"), looks := false }, kinds := [], alts := [], laidByText := true, laidKinds := [.data, .pinned], laidTests := true, laidLooks := .later }
def RatBigUptoCardSaid : Prop := Claim7.holds Tryd.pinned (.plain (OpenSpec.upto ratBigSpec)) ratBigUptoCard

/-- THE SECOND FORM's CARD OF 'driftnetlaw02.RatField'. -/
def ratFieldUptoCard : Claim7 := { stood := { row := ratFieldUptoRow, standIns := [], harness := (true, "c29c64317246c2f38b340c32a5c9fe7da449756aa56317b1fd83353cc18cef2c"), looks := false }, kinds := [], alts := [], laidByText := true, laidKinds := [.data, .pinned], laidTests := true, laidLooks := .later }
def RatFieldUptoCardSaid : Prop := Claim7.holds Tryd.pinned (.plain (OpenSpec.upto ratFieldSpec)) ratFieldUptoCard

/-- THE SECOND FORM's CARD OF 'driftnetlaw02.RatInts'. -/
def ratIntsUptoCard : Claim7 := { stood := { row := ratIntsUptoRow, standIns := [], harness := (true, "c29c64317246c2f38b340c32a5c9fe7da449756aa56317b1fd83353cc18cef2c"), looks := false }, kinds := [], alts := [], laidByText := true, laidKinds := [.data, .pinned], laidTests := true, laidLooks := .later }
def RatIntsUptoCardSaid : Prop := Claim7.holds Tryd.pinned (.plain (OpenSpec.upto ratIntsSpec)) ratIntsUptoCard

/-- THE SECOND FORM's CARD OF 'driftnetlaw02.RatKnown'. -/
def ratKnownUptoCard : Claim7 := { stood := { row := ratKnownUptoRow, standIns := [], harness := (true, "c29c64317246c2f38b340c32a5c9fe7da449756aa56317b1fd83353cc18cef2c"), looks := false }, kinds := [], alts := [], laidByText := true, laidKinds := [.data, .pinned], laidTests := true, laidLooks := .later }
def RatKnownUptoCardSaid : Prop := Claim7.holds Tryd.pinned (.plain (OpenSpec.upto ratKnownSpec)) ratKnownUptoCard
end Rows
end Go.Proofs.YtkjdpojbmkpkgaaDoor
