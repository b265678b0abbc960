/-
  DERIVED. GIVEN WITH THE SEED: THE CARDS: each row of YtlogpnoioimhjaaGreatDoorRows.lean that lists a variable, with what it lists TIED to the program's text (the seventh form; the later family's looks); each row that meets fmt, with fmt's text TOLD by the authors' own Lean function (tested against real Go, not proved from fmt's source: count such statements apart). THE CARD IS WHAT COUNTS. Prove the row's statement (the work); the ties are given (YtlogpnoioimhjaaGreatDoorTie.lean); close each card by the builder's one call (the guide's Derived/Test/ToyasCard.lean, 'card_holds'). Laid BY PROGRAM, IN A SANDBOX (cutbox-door.mjs). By AI agents, Wed Nov 11 2026. No macro, syntax, notation, axiom, sorry.
-/
import Derived.Test.YtlogpnoioimhjaaGreatDoorRows
import GoSem.ClaimSeven
namespace Go.Proofs.YtlogpnoioimhjaaGreatDoor
namespace Rows

/-- THE TIED CARD OF 'conchlaw31.RuleNone'. -/
def ruleNoneCard : Claim7 := { stood := { row := ruleNoneRow, standIns := [], harness := (true, "ba9a59aa488d073bb2fea1ca87722f13b186c10f41b857a0533bab40b26dac77"), looks := true }, kinds := [], alts := [], laidByText := true, laidKinds := [.data, .data], laidTests := true, laidLooks := .later }
def RuleNoneCardSaid : Prop := Claim7.holds Tryz.pinned (.plain (OpenSpec.ofChange ruleNoneSpec)) ruleNoneCard

/-- THE TIED CARD OF 'conchlaw31.RuleTells'. -/
def ruleTellsCard : Claim7 := { stood := { row := ruleTellsRow, standIns := [], harness := (true, "ba9a59aa488d073bb2fea1ca87722f13b186c10f41b857a0533bab40b26dac77"), looks := true }, kinds := [], alts := [], laidByText := true, laidKinds := [.data, .data], laidTests := true, laidLooks := .later }
def RuleTellsCardSaid : Prop := Claim7.holds Tryz.pinned (.plain (OpenSpec.ofChange ruleTellsSpec)) ruleTellsCard

/-- THE SECOND FORM's CARD OF 'conchlaw31.RuleNone'. -/
def ruleNoneUptoCard : Claim7 := { stood := { row := ruleNoneUptoRow, standIns := [], harness := (true, "ba9a59aa488d073bb2fea1ca87722f13b186c10f41b857a0533bab40b26dac77"), looks := true }, kinds := [], alts := [], laidByText := true, laidKinds := [.data, .data], laidTests := true, laidLooks := .later }
def RuleNoneUptoCardSaid : Prop := Claim7.holds Tryz.pinned (.plain (OpenSpec.upto ruleNoneSpec)) ruleNoneUptoCard

/-- THE SECOND FORM's CARD OF 'conchlaw31.RuleTells'. -/
def ruleTellsUptoCard : Claim7 := { stood := { row := ruleTellsUptoRow, standIns := [], harness := (true, "ba9a59aa488d073bb2fea1ca87722f13b186c10f41b857a0533bab40b26dac77"), looks := true }, kinds := [], alts := [], laidByText := true, laidKinds := [.data, .data], laidTests := true, laidLooks := .later }
def RuleTellsUptoCardSaid : Prop := Claim7.holds Tryz.pinned (.plain (OpenSpec.upto ruleTellsSpec)) ruleTellsUptoCard
end Rows
end Go.Proofs.YtlogpnoioimhjaaGreatDoor
