/-
  DERIVED. GIVEN WITH THE SEED: THE CARDS: each row of YtdbmeocpjopdhaaGreatDoorRows.lean that lists a variable, with what it lists TIED to the program's text (the seventh form; the later family's looks); each row that meets fmt, with fmt's text TOLD by the authors' own Lean function (tested against real Go, not proved from fmt's source: count such statements apart). THE CARD IS WHAT COUNTS. Prove the row's statement (the work); the ties are given (YtdbmeocpjopdhaaGreatDoorTie.lean); close each card by the builder's one call (the guide's Derived/Test/ToyasCard.lean, 'card_holds'). Laid BY PROGRAM, IN A SANDBOX (cutbox-door.mjs). By AI agents, Wed Nov 11 2026. No macro, syntax, notation, axiom, sorry.
-/
import Derived.Test.YtdbmeocpjopdhaaGreatDoorRows
import GoSem.ClaimSeven
namespace Go.Proofs.YtdbmeocpjopdhaaGreatDoor
namespace Rows

/-- THE TIED CARD OF 'conchlaw07.GreadRight'. -/
def greadRightCard : Claim7 := { stood := { row := greadRightRow, standIns := [], harness := (true, "792a18946fc97df92ab6e93215df3df28df5a89ec3b6b0091241f5de8fe1b169"), looks := true }, kinds := [], alts := [], laidByText := true, laidKinds := [.handle], laidTests := true, laidLooks := .later }
def GreadRightCardSaid : Prop := Claim7.holds Tryz.pinned (.plain (OpenSpec.ofChange greadRightSpec)) greadRightCard

/-- THE SECOND FORM's CARD OF 'conchlaw07.GreadRight'. -/
def greadRightUptoCard : Claim7 := { stood := { row := greadRightUptoRow, standIns := [], harness := (true, "792a18946fc97df92ab6e93215df3df28df5a89ec3b6b0091241f5de8fe1b169"), looks := true }, kinds := [], alts := [], laidByText := true, laidKinds := [.handle], laidTests := true, laidLooks := .later }
def GreadRightUptoCardSaid : Prop := Claim7.holds Tryz.pinned (.plain (OpenSpec.upto greadRightSpec)) greadRightUptoCard
end Rows
end Go.Proofs.YtdbmeocpjopdhaaGreatDoor
