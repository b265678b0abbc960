/-
  NARROWER THAN 'FOR EVERY INPUT', by the rows' own cells (each row's printed sentence says how): RuleOpens: laid.
  DERIVED. THE GIVEN ROWS OF THIS SEAT. 1 by the template 'for every input the law returns true; each argument reads behind the call as it read before'; 0 by the template 'total and deterministic' (their statements: YtendpobbjjaopaaGreatDoorTotals.lean).
  GIVEN WITH THE SEED: the statements are not yours to turn. If you find one false, say at which input.
  Laid BY PROGRAM, IN A SANDBOX (cutbox-rows.mjs): the forced cells as the released guide's own fill.sh prints them over the translation 30d368e2485e2880… (all of the seat's roots in one cut). By AI agents, Wed Nov 11 2026. No macro, syntax, notation, axiom, sorry.
-/
import Derived.Test.YtendpobbjjaopaaGreatDoorChecked
import GoSem.Claim
import GoSem.ClaimJoined
import GoSem.ClaimMapViews
import Derived.JoinedTies
import Derived.KernelRfl
namespace Go.Proofs.YtendpobbjjaopaaGreatDoor
/- THE CELL 'sum', in the pinned program and in every row, IS THE sha256 OF THE DUMP (.gsa) THAT YtendpobbjjaopaaGreatDoorProg.lean LOADS. Nothing in Lean hashes anything: it is a label: what it is worth is what the hold of that sum in a sandbox is worth. -/
noncomputable def Tryz.pinned : Pinned := { name := "ytendpobbjjaopaagreatdoor", sum := "30d368e2485e288061a365b0d29a6474bddb4e87b5f3f0d661bdef24ad20543b", checked := Tryz.checked }
namespace Rows
def none {H : Type} : Left H := { results := [], args := [] }

/- WHAT THE LISTED PACKAGE-LEVEL VARIABLES READ AS WHEN THE CALL BEGINS. Each datum BY PROGRAM (the guide's laid-datum.mjs) off the statement by which the dump's own 'gosem.cut.vars' lays the variable. In a bare row this is a premise. The card (YtendpobbjjaopaaGreatDoorCards.lean) ties it to the program's text. -/
def laid_conch_oper_texts {H : Type} : DataW H := .agg [.lit (.string []), .lit (.string [38, 38]), .lit (.string [124, 124]), .lit (.string [59, 59]), .lit (.string [59]), .lit (.string [38]), .lit (.string [124]), .lit (.string [40]), .lit (.string [41]), .lit (.string [60]), .lit (.string [62]), .lit (.string [62, 62]), .lit (.string [60, 60]), .lit (.string [60, 60, 45]), .lit (.string [60, 38]), .lit (.string [62, 38]), .lit (.string [60, 62]), .lit (.string [62, 124])]
def laid_conch_posix_reserved {H : Type} : DataW H := .agg [.lit (.string [105, 102]), .lit (.string [116, 104, 101, 110]), .lit (.string [101, 108, 115, 101]), .lit (.string [101, 108, 105, 102]), .lit (.string [102, 105]), .lit (.string [100, 111]), .lit (.string [100, 111, 110, 101]), .lit (.string [99, 97, 115, 101]), .lit (.string [101, 115, 97, 99]), .lit (.string [119, 104, 105, 108, 101]), .lit (.string [117, 110, 116, 105, 108]), .lit (.string [102, 111, 114]), .lit (.string [123]), .lit (.string [125]), .lit (.string [33]), .lit (.string [105, 110])]

/-- 'conchlaw31.RuleOpens': WHATEVER THE INPUT: true; the input reads as it did. -/
def ruleOpensSpec : ChangeSpec := { name := "ruleOpens", fn := fun _ => fun
  | [d1, d2] => { results := [.lit (.bool true)], args := [d1, d2] }
  | _ => none }
def ruleOpensRow : OpenClaim := { program := "ytendpobbjjaopaagreatdoor", sum := "30d368e2485e288061a365b0d29a6474bddb4e87b5f3f0d661bdef24ad20543b", func := "conch/conchlaw31.RuleOpens", spec := "ruleOpens", inPlace := ["internal/bytealg.IndexByteString", "internal/bytealg.IndexString", "internal/abi.NoEscape", "slices.overlaps[conch/api.Part]"], unfollowed := true, recurses := true, named := ["internal/bytealg.MaxLen", "conch/posix.reserved", "conch/oper.texts"], plainKeys := false, apart := false, laid := [("conch/oper.texts", laid_conch_oper_texts), ("conch/posix.reserved", laid_conch_posix_reserved)] }
def RuleOpensSaid : Prop := ruleOpensRow.holds Tryz.pinned (OpenSpec.ofChange ruleOpensSpec)

/-- ITS FALSE NEIGHBOUR: 'it returns false'. Refute it at one input. -/
def ruleOpensWrong : ChangeSpec := { name := "ruleOpens", fn := fun _ => fun
  | [d1, d2] => { results := [.lit (.bool false)], args := [d1, d2] }
  | _ => none }
def RuleOpensWrongFalsely : Prop := ruleOpensRow.holds Tryz.pinned (OpenSpec.ofChange ruleOpensWrong)

/- THE SECOND FORM. 'bulk': how many values and letters a reading holds, each counted each time it is reached (what is shared counts as often as it is met; a slice's spare places count too). A statement '..UptoSaid' is the law's where the arguments, and the package variables that the reading takes, are together of bulk at most 1048576: NARROWER than '..Said'. Prove '..Said' where nothing that the law and all that it calls make is longer than what came in: it says more and counts as full. Else prove '..UptoSaid'. A law counts once. -/
mutual
def uptoBulk {H : Type} : DataW H → Nat
  | .lit (.string bytes) => bytes.length + 1
  | .lit _ => 1
  | .nil => 1
  | .ptr d => uptoBulk d + 1
  | .slice elems spare => uptoBulkAll elems + uptoBulkAll spare + 1
  | .agg parts => uptoBulkAll parts + 1
  | .iface _ d => uptoBulk d + 1
  | .map entries => uptoBulkEntries entries + 1
  | .held _ => 1
def uptoBulkAll {H : Type} : List (DataW H) → Nat
  | [] => 0
  | d :: r => uptoBulk d + uptoBulkAll r
def uptoBulkEntries {H : Type} : List (Lit × DataW H) → Nat
  | [] => 0
  | x :: r => uptoBulkEntry x + uptoBulkEntries r
def uptoBulkEntry {H : Type} : Lit × DataW H → Nat
  | (.string bytes, d) => bytes.length + uptoBulk d + 1
  | (_, d) => uptoBulk d + 1
 end
def uptoSmall : (H : Type) → List (DataW H) → Bool := fun _ ds => decide (uptoBulkAll ds ≤ 1048576)
def OpenSpec.upto (s : _root_.Go.ChangeSpec) : _root_.Go.OpenSpec := { _root_.Go.OpenSpec.ofChange s with cond := some uptoSmall }

/-- 'conchlaw31.RuleOpens', WHERE WHAT IT READS IS OF BULK AT MOST 1048576: true; the input reads as it did. -/
def ruleOpensUptoRow : OpenClaim := { program := "ytendpobbjjaopaagreatdoor", sum := "30d368e2485e288061a365b0d29a6474bddb4e87b5f3f0d661bdef24ad20543b", func := "conch/conchlaw31.RuleOpens", spec := "ruleOpens", inPlace := ["internal/bytealg.IndexByteString", "internal/bytealg.IndexString", "internal/abi.NoEscape", "slices.overlaps[conch/api.Part]"], unfollowed := true, recurses := true, named := ["internal/bytealg.MaxLen", "conch/posix.reserved", "conch/oper.texts"], plainKeys := false, apart := false, laid := [("conch/oper.texts", laid_conch_oper_texts), ("conch/posix.reserved", laid_conch_posix_reserved)], narrowed := true }
def RuleOpensUptoSaid : Prop := ruleOpensUptoRow.holds Tryz.pinned (OpenSpec.upto ruleOpensSpec)

end Rows
end Go.Proofs.YtendpobbjjaopaaGreatDoor
