/-
  DERIVED. GIVEN WITH THE SEED: THE CARDS: each row of YtiljpamcmmeflaaGreatDoorRows.lean that lists a variable, with what it lists TIED to the program's text (the seventh form; the later family's looks); each row that meets fmt, with fmt's text TOLD by the authors' own Lean function (tested against real Go, not proved from fmt's source: count such statements apart). THE CARD IS WHAT COUNTS. Prove the row's statement (the work); the ties are given (YtiljpamcmmeflaaGreatDoorTie.lean); close each card by the builder's one call (the guide's Derived/Test/ToyasCard.lean, 'card_holds'). Laid BY PROGRAM, IN A SANDBOX (cutbox-door.mjs). By AI agents, Wed Nov 11 2026. No macro, syntax, notation, axiom, sorry.
-/
import Derived.Test.YtiljpamcmmeflaaGreatDoorRows
import GoSem.ClaimSeven
namespace Go.Proofs.YtiljpamcmmeflaaGreatDoor
namespace Rows

/-- THE TIED CARD OF 'conchlaw34.BuildFits'. -/
def buildFitsCard : Claim7 := { stood := { row := buildFitsRow, standIns := [], harness := (true, "9d31b23fbd2ffdca106001f4f7f1047ed7e29d0bc1be6730fb7fd900f4557333"), looks := true }, kinds := [], alts := [], laidByText := true, laidKinds := [.data, .data], laidTests := true, laidLooks := .later }
def BuildFitsCardSaid : Prop := Claim7.holds Tryz.pinned (.plain (OpenSpec.ofChange buildFitsSpec)) buildFitsCard

/-- THE TIED CARD OF 'conchlaw34.BuildOther'. -/
def buildOtherCard : Claim7 := { stood := { row := buildOtherRow, standIns := [], harness := (true, "9d31b23fbd2ffdca106001f4f7f1047ed7e29d0bc1be6730fb7fd900f4557333"), looks := true }, kinds := [], alts := [], laidByText := true, laidKinds := [.data, .data], laidTests := true, laidLooks := .later }
def BuildOtherCardSaid : Prop := Claim7.holds Tryz.pinned (.plain (OpenSpec.ofChange buildOtherSpec)) buildOtherCard

/-- THE SECOND FORM's CARD OF 'conchlaw34.BuildFits'. -/
def buildFitsUptoCard : Claim7 := { stood := { row := buildFitsUptoRow, standIns := [], harness := (true, "9d31b23fbd2ffdca106001f4f7f1047ed7e29d0bc1be6730fb7fd900f4557333"), looks := true }, kinds := [], alts := [], laidByText := true, laidKinds := [.data, .data], laidTests := true, laidLooks := .later }
def BuildFitsUptoCardSaid : Prop := Claim7.holds Tryz.pinned (.plain (OpenSpec.upto buildFitsSpec)) buildFitsUptoCard

/-- THE SECOND FORM's CARD OF 'conchlaw34.BuildOther'. -/
def buildOtherUptoCard : Claim7 := { stood := { row := buildOtherUptoRow, standIns := [], harness := (true, "9d31b23fbd2ffdca106001f4f7f1047ed7e29d0bc1be6730fb7fd900f4557333"), looks := true }, kinds := [], alts := [], laidByText := true, laidKinds := [.data, .data], laidTests := true, laidLooks := .later }
def BuildOtherUptoCardSaid : Prop := Claim7.holds Tryz.pinned (.plain (OpenSpec.upto buildOtherSpec)) buildOtherUptoCard
end Rows
end Go.Proofs.YtiljpamcmmeflaaGreatDoor
