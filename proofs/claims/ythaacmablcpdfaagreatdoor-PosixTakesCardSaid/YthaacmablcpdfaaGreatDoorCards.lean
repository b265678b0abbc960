/-
  DERIVED. GIVEN WITH THE SEED: THE CARDS: each row of YthaacmablcpdfaaGreatDoorRows.lean that lists a variable, with what it lists TIED to the program's text (the seventh form; the later family's looks); each row that meets fmt, with fmt's text TOLD by the authors' own Lean function (tested against real Go, not proved from fmt's source: count such statements apart). THE CARD IS WHAT COUNTS. Prove the row's statement (the work); the ties are given (YthaacmablcpdfaaGreatDoorTie.lean); close each card by the builder's one call (the guide's Derived/Test/ToyasCard.lean, 'card_holds'). Laid BY PROGRAM, IN A SANDBOX (cutbox-door.mjs). By AI agents, Wed Nov 11 2026. No macro, syntax, notation, axiom, sorry.
-/
import Derived.Test.YthaacmablcpdfaaGreatDoorRows
import GoSem.ClaimSeven
namespace Go.Proofs.YthaacmablcpdfaaGreatDoor
namespace Rows

/-- THE TIED CARD OF 'conchlaw30.PosixRight'. -/
def posixRightCard : Claim7 := { stood := { row := posixRightRow, standIns := [], harness := (true, "f41d3e552ec74bd824f68bb3649b4086b1ce63c4592713050d88692a4aae08a3"), looks := true }, kinds := [], alts := [], laidByText := true, laidKinds := [.data, .data], laidTests := true, laidLooks := .later }
def PosixRightCardSaid : Prop := Claim7.holds Tryz.pinned (.plain (OpenSpec.ofChange posixRightSpec)) posixRightCard

/-- THE TIED CARD OF 'conchlaw30.PosixClean'. -/
def posixCleanCard : Claim7 := { stood := { row := posixCleanRow, standIns := [], harness := (true, "f41d3e552ec74bd824f68bb3649b4086b1ce63c4592713050d88692a4aae08a3"), looks := true }, kinds := [], alts := [], laidByText := true, laidKinds := [.data, .data], laidTests := true, laidLooks := .later }
def PosixCleanCardSaid : Prop := Claim7.holds Tryz.pinned (.plain (OpenSpec.ofChange posixCleanSpec)) posixCleanCard

/-- THE TIED CARD OF 'conchlaw30.PosixTakes'. -/
def posixTakesCard : Claim7 := { stood := { row := posixTakesRow, standIns := [], harness := (true, "f41d3e552ec74bd824f68bb3649b4086b1ce63c4592713050d88692a4aae08a3"), looks := true }, kinds := [], alts := [], laidByText := true, laidKinds := [.data, .data], laidTests := true, laidLooks := .later }
def PosixTakesCardSaid : Prop := Claim7.holds Tryz.pinned (.plain (OpenSpec.ofChange posixTakesSpec)) posixTakesCard

/-- THE SECOND FORM's CARD OF 'conchlaw30.PosixRight'. -/
def posixRightUptoCard : Claim7 := { stood := { row := posixRightUptoRow, standIns := [], harness := (true, "f41d3e552ec74bd824f68bb3649b4086b1ce63c4592713050d88692a4aae08a3"), looks := true }, kinds := [], alts := [], laidByText := true, laidKinds := [.data, .data], laidTests := true, laidLooks := .later }
def PosixRightUptoCardSaid : Prop := Claim7.holds Tryz.pinned (.plain (OpenSpec.upto posixRightSpec)) posixRightUptoCard

/-- THE SECOND FORM's CARD OF 'conchlaw30.PosixClean'. -/
def posixCleanUptoCard : Claim7 := { stood := { row := posixCleanUptoRow, standIns := [], harness := (true, "f41d3e552ec74bd824f68bb3649b4086b1ce63c4592713050d88692a4aae08a3"), looks := true }, kinds := [], alts := [], laidByText := true, laidKinds := [.data, .data], laidTests := true, laidLooks := .later }
def PosixCleanUptoCardSaid : Prop := Claim7.holds Tryz.pinned (.plain (OpenSpec.upto posixCleanSpec)) posixCleanUptoCard

/-- THE SECOND FORM's CARD OF 'conchlaw30.PosixTakes'. -/
def posixTakesUptoCard : Claim7 := { stood := { row := posixTakesUptoRow, standIns := [], harness := (true, "f41d3e552ec74bd824f68bb3649b4086b1ce63c4592713050d88692a4aae08a3"), looks := true }, kinds := [], alts := [], laidByText := true, laidKinds := [.data, .data], laidTests := true, laidLooks := .later }
def PosixTakesUptoCardSaid : Prop := Claim7.holds Tryz.pinned (.plain (OpenSpec.upto posixTakesSpec)) posixTakesUptoCard
end Rows
end Go.Proofs.YthaacmablcpdfaaGreatDoor
