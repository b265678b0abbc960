/-
  NARROWER THAN 'FOR EVERY INPUT', by the rows' own cells (each row's printed sentence says how): FaultStays: laid · FaultTells: laid.
  DERIVED. THE GIVEN ROWS OF THIS SEAT. 2 by the template 'for every input the law returns true; each argument reads behind the call as it read before'; 0 by the template 'total and deterministic' (their statements: YtaeakipppdjkmaaFmtTotals.lean).
  GIVEN WITH THE SEED: the statements are not yours to turn. If you find one false, say at which input.
  Laid BY PROGRAM, IN A SANDBOX (cutbox-rows.mjs): the forced cells as the released guide's own fill.sh prints them over the translation a8a2944972a79db3… (all of the seat's roots in one cut). By AI agents, Wed Nov 11 2026. No macro, syntax, notation, axiom, sorry.
-/
import Derived.Test.YtaeakipppdjkmaaFmtChecked
import GoSem.Claim
import GoSem.ClaimJoined
import GoSem.ClaimMapViews
import Derived.JoinedTies
import Derived.KernelRfl
namespace Go.Proofs.YtaeakipppdjkmaaFmt
/- THE CELL 'sum', in the pinned program and in every row, IS THE sha256 OF THE DUMP (.gsa) THAT YtaeakipppdjkmaaFmtProg.lean LOADS. Nothing in Lean hashes anything: it is a label: what it is worth is what the hold of that sum in a sandbox is worth. -/
noncomputable def Tryf.pinned : Pinned := { name := "ytaeakipppdjkmaafmt", sum := "a8a2944972a79db375f1316b0b0be27a27244b8dc439bed8299b7d95d7a0c410", checked := Tryf.checked }
namespace Rows
def none {H : Type} : Left H := { results := [], args := [] }

/- WHAT THE LISTED PACKAGE-LEVEL VARIABLES READ AS WHEN THE CALL BEGINS. Each datum BY PROGRAM (the guide's laid-datum.mjs) off the statement by which the dump's own 'gosem.cut.vars' lays the variable. In a bare row this is a premise. The card (YtaeakipppdjkmaaFmtCards.lean) ties it to the program's text. -/
def laid_errors_errorType {H : Type} : DataW H := .iface "internal/reflectlite.rtype" (.agg [.ptr (.lit (.string [101, 114, 114, 111, 114]))])

/-- 'conchlaw02.FaultStays': WHATEVER THE INPUT: true; the input reads as it did. -/
def faultStaysSpec : ChangeSpec := { name := "faultStays", fn := fun _ => fun
  | [d1, d2, d3, d4] => { results := [.lit (.bool true)], args := [d1, d2, d3, d4] }
  | _ => none }
def faultStaysRow : OpenClaim := { program := "ytaeakipppdjkmaafmt", sum := "a8a2944972a79db375f1316b0b0be27a27244b8dc439bed8299b7d95d7a0c410", func := "conch/conchlaw02.FaultStays", spec := "faultStays", stops := ["fmt.errorf, its operands' methods called"], inPlace := ["internal/reflectlite.ValueOf", "(internal/reflectlite.Value).Type", "(internal/reflectlite.Value).IsNil", "internal/reflectlite.TypeOf", "(internal/reflectlite.Value).Elem", "(internal/reflectlite.Value).Set", "fmt.errorf"], unfollowed := true, recurses := true, named := ["errors.errorType"], apart := false, laid := [("errors.errorType", laid_errors_errorType)] }
/-- NO THEOREM (fmt's text is open here; it may be false): for the released tool's asking of the row's closed facts alone. THE STATEMENT IS 'FaultStaysToldSaid' (YtaeakipppdjkmaaFmtCards.lean). -/
def FaultStaysFormAsk : Prop := faultStaysRow.holds Tryf.pinned (OpenSpec.ofChange faultStaysSpec)

/-- ITS FALSE NEIGHBOUR: 'it returns false'. Refute it at one input. -/
def faultStaysWrong : ChangeSpec := { name := "faultStays", fn := fun _ => fun
  | [d1, d2, d3, d4] => { results := [.lit (.bool false)], args := [d1, d2, d3, d4] }
  | _ => none }
def FaultStaysWrongFormAsk : Prop := faultStaysRow.holds Tryf.pinned (OpenSpec.ofChange faultStaysWrong)

/-- 'conchlaw02.FaultTells': WHATEVER THE INPUT: true; the input reads as it did. -/
def faultTellsSpec : ChangeSpec := { name := "faultTells", fn := fun _ => fun
  | [d1, d2, d3, d4, d5] => { results := [.lit (.bool true)], args := [d1, d2, d3, d4, d5] }
  | _ => none }
def faultTellsRow : OpenClaim := { program := "ytaeakipppdjkmaafmt", sum := "a8a2944972a79db375f1316b0b0be27a27244b8dc439bed8299b7d95d7a0c410", func := "conch/conchlaw02.FaultTells", spec := "faultTells", stops := ["fmt.errorf, its operands' methods called"], inPlace := ["internal/reflectlite.ValueOf", "(internal/reflectlite.Value).Type", "(internal/reflectlite.Value).IsNil", "internal/reflectlite.TypeOf", "(internal/reflectlite.Value).Elem", "(internal/reflectlite.Value).Set", "fmt.errorf"], unfollowed := true, recurses := true, named := ["errors.errorType"], apart := false, laid := [("errors.errorType", laid_errors_errorType)] }
/-- NO THEOREM (fmt's text is open here; it may be false): for the released tool's asking of the row's closed facts alone. THE STATEMENT IS 'FaultTellsToldSaid' (YtaeakipppdjkmaaFmtCards.lean). -/
def FaultTellsFormAsk : Prop := faultTellsRow.holds Tryf.pinned (OpenSpec.ofChange faultTellsSpec)

/-- ITS FALSE NEIGHBOUR: 'it returns false'. Refute it at one input. -/
def faultTellsWrong : ChangeSpec := { name := "faultTells", fn := fun _ => fun
  | [d1, d2, d3, d4, d5] => { results := [.lit (.bool false)], args := [d1, d2, d3, d4, d5] }
  | _ => none }
def FaultTellsWrongFormAsk : Prop := faultTellsRow.holds Tryf.pinned (OpenSpec.ofChange faultTellsWrong)

end Rows
end Go.Proofs.YtaeakipppdjkmaaFmt
