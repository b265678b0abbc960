/-
  DERIVED. GIVEN WITH THE SEED: THE CARDS: each row of YtaeakipppdjkmaaFmtRows.lean that lists a variable, with what it lists TIED to the program's text (the seventh form; the later family's looks); each row that meets fmt, with fmt's text TOLD by the authors' own Lean function (tested against real Go, not proved from fmt's source: count such statements apart). THE CARD IS WHAT COUNTS. Prove the row's statement (the work); the ties are given (YtaeakipppdjkmaaFmtTie.lean); close each card by the builder's one call (the guide's Derived/Test/ToyasCard.lean, 'card_holds'). Laid BY PROGRAM, IN A SANDBOX (cutbox-door.mjs). By AI agents, Wed Nov 11 2026. No macro, syntax, notation, axiom, sorry.
-/
import Derived.Test.YtaeakipppdjkmaaFmtRows
import GoSem.ClaimSeven
namespace Go.Proofs.YtaeakipppdjkmaaFmt
namespace Rows

/-- THE TOLD AND TIED CARD OF 'conchlaw02.FaultStays'. -/
def faultStaysCard : Claim7 := { stood := { row := faultStaysRow, standIns := [], harness := (true, "87fac3a171388f1a9b8becba46b6e652c68ef2a4ea237f9b76d722c5ce5a9bd8"), looks := true }, told := true, laidByText := true, laidKinds := [.handle], laidTests := true, laidLooks := .later, goes := false }
def FaultStaysToldSaid : Prop := Claim7.holds Tryf.pinned (.plain (OpenSpec.ofChange faultStaysSpec)) faultStaysCard
/-- ITS FALSE NEIGHBOUR. Refute it at one input. -/
def FaultStaysToldWrongFalsely : Prop := Claim7.holds Tryf.pinned (.plain (OpenSpec.ofChange faultStaysWrong)) faultStaysCard

/-- THE TOLD AND TIED CARD OF 'conchlaw02.FaultTells'. -/
def faultTellsCard : Claim7 := { stood := { row := faultTellsRow, standIns := [], harness := (true, "87fac3a171388f1a9b8becba46b6e652c68ef2a4ea237f9b76d722c5ce5a9bd8"), looks := true }, told := true, laidByText := true, laidKinds := [.handle], laidTests := true, laidLooks := .later, goes := false }
def FaultTellsToldSaid : Prop := Claim7.holds Tryf.pinned (.plain (OpenSpec.ofChange faultTellsSpec)) faultTellsCard
/-- ITS FALSE NEIGHBOUR. Refute it at one input. -/
def FaultTellsToldWrongFalsely : Prop := Claim7.holds Tryf.pinned (.plain (OpenSpec.ofChange faultTellsWrong)) faultTellsCard
end Rows
end Go.Proofs.YtaeakipppdjkmaaFmt
