/-
  DERIVED. GIVEN WITH THE SEED: THE CARDS: each row of YtdbmeocpjopdhaaDoorRows.lean that lists a variable, with what it lists TIED to the program's text (the seventh form; the later family's looks); each row that meets fmt, with fmt's text TOLD by the authors' own Lean function (tested against real Go, not proved from fmt's source: count such statements apart). THE CARD IS WHAT COUNTS. Prove the row's statement (the work); the ties are given (YtdbmeocpjopdhaaDoorTie.lean); close each card by the builder's one call (the guide's Derived/Test/ToyasCard.lean, 'card_holds'). Laid BY PROGRAM, IN A SANDBOX (cutbox-door.mjs). By AI agents, Wed Nov 11 2026. No macro, syntax, notation, axiom, sorry.
-/
import Derived.Test.YtdbmeocpjopdhaaDoorRows
import GoSem.ClaimSeven
namespace Go.Proofs.YtdbmeocpjopdhaaDoor
namespace Rows

/-- THE TIED CARD OF 'conchlaw07.GreadMany'. -/
def greadManyCard : Claim7 := { stood := { row := greadManyRow, standIns := [], harness := (true, "725f72c86db50785831975ba7e8882b80dd97af56e4c3deb91cfd91ded26c85d"), looks := true }, kinds := [], alts := [], laidByText := true, laidKinds := [.handle], laidTests := true, laidLooks := .later }
def GreadManyCardSaid : Prop := Claim7.holds Tryd.pinned (.plain (OpenSpec.ofChange greadManySpec)) greadManyCard

/-- THE TIED CARD OF 'conchlaw07.GreadToken'. -/
def greadTokenCard : Claim7 := { stood := { row := greadTokenRow, standIns := [], harness := (true, "725f72c86db50785831975ba7e8882b80dd97af56e4c3deb91cfd91ded26c85d"), looks := true }, kinds := [], alts := [], laidByText := true, laidKinds := [.handle], laidTests := true, laidLooks := .later }
def GreadTokenCardSaid : Prop := Claim7.holds Tryd.pinned (.plain (OpenSpec.ofChange greadTokenSpec)) greadTokenCard

/-- THE SECOND FORM's CARD OF 'conchlaw07.GreadMany'. -/
def greadManyUptoCard : Claim7 := { stood := { row := greadManyUptoRow, standIns := [], harness := (true, "725f72c86db50785831975ba7e8882b80dd97af56e4c3deb91cfd91ded26c85d"), looks := true }, kinds := [], alts := [], laidByText := true, laidKinds := [.handle], laidTests := true, laidLooks := .later }
def GreadManyUptoCardSaid : Prop := Claim7.holds Tryd.pinned (.plain (OpenSpec.upto greadManySpec)) greadManyUptoCard

/-- THE SECOND FORM's CARD OF 'conchlaw07.GreadToken'. -/
def greadTokenUptoCard : Claim7 := { stood := { row := greadTokenUptoRow, standIns := [], harness := (true, "725f72c86db50785831975ba7e8882b80dd97af56e4c3deb91cfd91ded26c85d"), looks := true }, kinds := [], alts := [], laidByText := true, laidKinds := [.handle], laidTests := true, laidLooks := .later }
def GreadTokenUptoCardSaid : Prop := Claim7.holds Tryd.pinned (.plain (OpenSpec.upto greadTokenSpec)) greadTokenUptoCard
end Rows
end Go.Proofs.YtdbmeocpjopdhaaDoor
