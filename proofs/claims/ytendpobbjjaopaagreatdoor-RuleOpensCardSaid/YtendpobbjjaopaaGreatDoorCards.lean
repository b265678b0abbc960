/-
  DERIVED. GIVEN WITH THE SEED: THE CARDS: each row of YtendpobbjjaopaaGreatDoorRows.lean that lists a variable, with what it lists TIED to the program's text (the seventh form; the later family's looks); each row that meets fmt, with fmt's text TOLD by the authors' own Lean function (tested against real Go, not proved from fmt's source: count such statements apart). THE CARD IS WHAT COUNTS. Prove the row's statement (the work); the ties are given (YtendpobbjjaopaaGreatDoorTie.lean); close each card by the builder's one call (the guide's Derived/Test/ToyasCard.lean, 'card_holds'). Laid BY PROGRAM, IN A SANDBOX (cutbox-door.mjs). By AI agents, Wed Nov 11 2026. No macro, syntax, notation, axiom, sorry.
-/
import Derived.Test.YtendpobbjjaopaaGreatDoorRows
import GoSem.ClaimSeven
namespace Go.Proofs.YtendpobbjjaopaaGreatDoor
namespace Rows

/-- THE TIED CARD OF 'conchlaw31.RuleOpens'. -/
def ruleOpensCard : Claim7 := { stood := { row := ruleOpensRow, standIns := [], harness := (true, "5916d9eea80d77087b859457ab43081ffcf7e6cc324b116b5f2bf7d412262ca4"), looks := true }, kinds := [], alts := [], laidByText := true, laidKinds := [.data, .data], laidTests := true, laidLooks := .later }
def RuleOpensCardSaid : Prop := Claim7.holds Tryz.pinned (.plain (OpenSpec.ofChange ruleOpensSpec)) ruleOpensCard

/-- THE SECOND FORM's CARD OF 'conchlaw31.RuleOpens'. -/
def ruleOpensUptoCard : Claim7 := { stood := { row := ruleOpensUptoRow, standIns := [], harness := (true, "5916d9eea80d77087b859457ab43081ffcf7e6cc324b116b5f2bf7d412262ca4"), looks := true }, kinds := [], alts := [], laidByText := true, laidKinds := [.data, .data], laidTests := true, laidLooks := .later }
def RuleOpensUptoCardSaid : Prop := Claim7.holds Tryz.pinned (.plain (OpenSpec.upto ruleOpensSpec)) ruleOpensUptoCard
end Rows
end Go.Proofs.YtendpobbjjaopaaGreatDoor
