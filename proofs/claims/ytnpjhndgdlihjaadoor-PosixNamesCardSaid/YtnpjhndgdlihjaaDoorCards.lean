/-
  DERIVED. GIVEN WITH THE SEED: THE CARDS: each row of YtnpjhndgdlihjaaDoorRows.lean that lists a variable, with what it lists TIED to the program's text (the seventh form; the later family's looks); each row that meets fmt, with fmt's text TOLD by the authors' own Lean function (tested against real Go, not proved from fmt's source: count such statements apart). THE CARD IS WHAT COUNTS. Prove the row's statement (the work); the ties are given (YtnpjhndgdlihjaaDoorTie.lean); close each card by the builder's one call (the guide's Derived/Test/ToyasCard.lean, 'card_holds'). Laid BY PROGRAM, IN A SANDBOX (cutbox-door.mjs). By AI agents, Wed Nov 11 2026. No macro, syntax, notation, axiom, sorry.
-/
import Derived.Test.YtnpjhndgdlihjaaDoorRows
import GoSem.ClaimSeven
namespace Go.Proofs.YtnpjhndgdlihjaaDoor
namespace Rows

/-- THE TIED CARD OF 'conchlaw30.PosixTells'. -/
def posixTellsCard : Claim7 := { stood := { row := posixTellsRow, standIns := [], harness := (true, "771a34954ef2995232f0d73ee8553627b949519000923be4c4b18d6aaec4d9bd"), looks := true }, kinds := [], alts := [], laidByText := true, laidKinds := [.data, .data], laidTests := true, laidLooks := .later }
def PosixTellsCardSaid : Prop := Claim7.holds Tryd.pinned (.plain (OpenSpec.ofChange posixTellsSpec)) posixTellsCard

/-- THE TIED CARD OF 'conchlaw30.PosixNames'. -/
def posixNamesCard : Claim7 := { stood := { row := posixNamesRow, standIns := [], harness := (true, "771a34954ef2995232f0d73ee8553627b949519000923be4c4b18d6aaec4d9bd"), looks := true }, kinds := [], alts := [], laidByText := true, laidKinds := [.data, .data], laidTests := true, laidLooks := .later }
def PosixNamesCardSaid : Prop := Claim7.holds Tryd.pinned (.plain (OpenSpec.ofChange posixNamesSpec)) posixNamesCard

/-- THE SECOND FORM's CARD OF 'conchlaw30.PosixTells'. -/
def posixTellsUptoCard : Claim7 := { stood := { row := posixTellsUptoRow, standIns := [], harness := (true, "771a34954ef2995232f0d73ee8553627b949519000923be4c4b18d6aaec4d9bd"), looks := true }, kinds := [], alts := [], laidByText := true, laidKinds := [.data, .data], laidTests := true, laidLooks := .later }
def PosixTellsUptoCardSaid : Prop := Claim7.holds Tryd.pinned (.plain (OpenSpec.upto posixTellsSpec)) posixTellsUptoCard

/-- THE SECOND FORM's CARD OF 'conchlaw30.PosixNames'. -/
def posixNamesUptoCard : Claim7 := { stood := { row := posixNamesUptoRow, standIns := [], harness := (true, "771a34954ef2995232f0d73ee8553627b949519000923be4c4b18d6aaec4d9bd"), looks := true }, kinds := [], alts := [], laidByText := true, laidKinds := [.data, .data], laidTests := true, laidLooks := .later }
def PosixNamesUptoCardSaid : Prop := Claim7.holds Tryd.pinned (.plain (OpenSpec.upto posixNamesSpec)) posixNamesUptoCard
end Rows
end Go.Proofs.YtnpjhndgdlihjaaDoor
