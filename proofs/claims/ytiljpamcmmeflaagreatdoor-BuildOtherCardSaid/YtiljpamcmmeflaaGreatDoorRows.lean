/-
  NARROWER THAN 'FOR EVERY INPUT', by the rows' own cells (each row's printed sentence says how): BuildFits: loops, laid · BuildOther: laid.
  DERIVED. THE GIVEN ROWS OF THIS SEAT. 2 by the template 'for every input the law returns true; each argument reads behind the call as it read before'; 0 by the template 'total and deterministic' (their statements: YtiljpamcmmeflaaGreatDoorTotals.lean).
  GIVEN WITH THE SEED: the statements are not yours to turn. If you find one false, say at which input.
  Laid BY PROGRAM, IN A SANDBOX (cutbox-rows.mjs): the forced cells as the released guide's own fill.sh prints them over the translation 9a4abdd99d452995… (all of the seat's roots in one cut). By AI agents, Wed Nov 11 2026. No macro, syntax, notation, axiom, sorry.
-/
import Derived.Test.YtiljpamcmmeflaaGreatDoorChecked
import GoSem.Claim
import GoSem.ClaimJoined
import GoSem.ClaimMapViews
import Derived.JoinedTies
import Derived.KernelRfl
namespace Go.Proofs.YtiljpamcmmeflaaGreatDoor
/- THE CELL 'sum', in the pinned program and in every row, IS THE sha256 OF THE DUMP (.gsa) THAT YtiljpamcmmeflaaGreatDoorProg.lean LOADS. Nothing in Lean hashes anything: it is a label: what it is worth is what the hold of that sum in a sandbox is worth. -/
noncomputable def Tryz.pinned : Pinned := { name := "ytiljpamcmmeflaagreatdoor", sum := "9a4abdd99d452995134f3f0f11fd2e044fcc7e1bb2c0f93a9d1edb13b10a5181", checked := Tryz.checked }
namespace Rows
def none {H : Type} : Left H := { results := [], args := [] }

/- WHAT THE LISTED PACKAGE-LEVEL VARIABLES READ AS WHEN THE CALL BEGINS. Each datum BY PROGRAM (the guide's laid-datum.mjs) off the statement by which the dump's own 'gosem.cut.vars' lays the variable. In a bare row this is a premise. The card (YtiljpamcmmeflaaGreatDoorCards.lean) ties it to the program's text. -/
def laid_conch_oper_texts {H : Type} : DataW H := .agg [.lit (.string []), .lit (.string [38, 38]), .lit (.string [124, 124]), .lit (.string [59, 59]), .lit (.string [59]), .lit (.string [38]), .lit (.string [124]), .lit (.string [40]), .lit (.string [41]), .lit (.string [60]), .lit (.string [62]), .lit (.string [62, 62]), .lit (.string [60, 60]), .lit (.string [60, 60, 45]), .lit (.string [60, 38]), .lit (.string [62, 38]), .lit (.string [60, 62]), .lit (.string [62, 124])]
def laid_conch_posix_reserved {H : Type} : DataW H := .agg [.lit (.string [105, 102]), .lit (.string [116, 104, 101, 110]), .lit (.string [101, 108, 115, 101]), .lit (.string [101, 108, 105, 102]), .lit (.string [102, 105]), .lit (.string [100, 111]), .lit (.string [100, 111, 110, 101]), .lit (.string [99, 97, 115, 101]), .lit (.string [101, 115, 97, 99]), .lit (.string [119, 104, 105, 108, 101]), .lit (.string [117, 110, 116, 105, 108]), .lit (.string [102, 111, 114]), .lit (.string [123]), .lit (.string [125]), .lit (.string [33]), .lit (.string [105, 110])]

/-- 'conchlaw34.BuildFits': WHATEVER THE INPUT: true; the input reads as it did. -/
def buildFitsSpec : ChangeSpec := { name := "buildFits", fn := fun _ => fun
  | [d1, d2] => { results := [.lit (.bool true)], args := [d1, d2] }
  | _ => none }
def buildFitsRow : OpenClaim := { program := "ytiljpamcmmeflaagreatdoor", sum := "9a4abdd99d452995134f3f0f11fd2e044fcc7e1bb2c0f93a9d1edb13b10a5181", func := "conch/conchlaw34.BuildFits", spec := "buildFits", inPlace := ["internal/bytealg.IndexByteString", "internal/bytealg.IndexString", "internal/abi.NoEscape", "slices.overlaps[conch/api.Part]"], unfollowed := true, recurses := true, named := ["internal/bytealg.MaxLen", "conch/oper.texts", "conch/posix.reserved"], loops := true, plainKeys := false, apart := false, laid := [("conch/oper.texts", laid_conch_oper_texts), ("conch/posix.reserved", laid_conch_posix_reserved)] }
def BuildFitsSaid : Prop := buildFitsRow.holds Tryz.pinned (OpenSpec.ofChange buildFitsSpec)

/-- ITS FALSE NEIGHBOUR: 'it returns false'. Refute it at one input. -/
def buildFitsWrong : ChangeSpec := { name := "buildFits", fn := fun _ => fun
  | [d1, d2] => { results := [.lit (.bool false)], args := [d1, d2] }
  | _ => none }
def BuildFitsWrongFalsely : Prop := buildFitsRow.holds Tryz.pinned (OpenSpec.ofChange buildFitsWrong)

/-- 'conchlaw34.BuildOther': WHATEVER THE INPUT: true; the input reads as it did. -/
def buildOtherSpec : ChangeSpec := { name := "buildOther", fn := fun _ => fun
  | [d1, d2, d3] => { results := [.lit (.bool true)], args := [d1, d2, d3] }
  | _ => none }
def buildOtherRow : OpenClaim := { program := "ytiljpamcmmeflaagreatdoor", sum := "9a4abdd99d452995134f3f0f11fd2e044fcc7e1bb2c0f93a9d1edb13b10a5181", func := "conch/conchlaw34.BuildOther", spec := "buildOther", inPlace := ["internal/bytealg.IndexByteString", "internal/bytealg.IndexString", "internal/abi.NoEscape", "slices.overlaps[conch/api.Part]"], unfollowed := true, recurses := true, named := ["internal/bytealg.MaxLen", "conch/oper.texts", "conch/posix.reserved"], plainKeys := false, apart := false, laid := [("conch/oper.texts", laid_conch_oper_texts), ("conch/posix.reserved", laid_conch_posix_reserved)] }
def BuildOtherSaid : Prop := buildOtherRow.holds Tryz.pinned (OpenSpec.ofChange buildOtherSpec)

/-- ITS FALSE NEIGHBOUR: 'it returns false'. Refute it at one input. -/
def buildOtherWrong : ChangeSpec := { name := "buildOther", fn := fun _ => fun
  | [d1, d2, d3] => { results := [.lit (.bool false)], args := [d1, d2, d3] }
  | _ => none }
def BuildOtherWrongFalsely : Prop := buildOtherRow.holds Tryz.pinned (OpenSpec.ofChange buildOtherWrong)

/- THE SECOND FORM. 'bulk': how many values and letters a reading holds, each counted each time it is reached (what is shared counts as often as it is met; a slice's spare places count too). A statement '..UptoSaid' is the law's where the arguments, and the package variables that the reading takes, are together of bulk at most 1048576: NARROWER than '..Said'. Prove '..Said' where nothing that the law and all that it calls make is longer than what came in: it says more and counts as full. Else prove '..UptoSaid'. A law counts once. -/
mutual
def uptoBulk {H : Type} : DataW H → Nat
  | .lit (.string bytes) => bytes.length + 1
  | .lit _ => 1
  | .nil => 1
  | .ptr d => uptoBulk d + 1
  | .slice elems spare => uptoBulkAll elems + uptoBulkAll spare + 1
  | .agg parts => uptoBulkAll parts + 1
  | .iface _ d => uptoBulk d + 1
  | .map entries => uptoBulkEntries entries + 1
  | .held _ => 1
def uptoBulkAll {H : Type} : List (DataW H) → Nat
  | [] => 0
  | d :: r => uptoBulk d + uptoBulkAll r
def uptoBulkEntries {H : Type} : List (Lit × DataW H) → Nat
  | [] => 0
  | x :: r => uptoBulkEntry x + uptoBulkEntries r
def uptoBulkEntry {H : Type} : Lit × DataW H → Nat
  | (.string bytes, d) => bytes.length + uptoBulk d + 1
  | (_, d) => uptoBulk d + 1
 end
def uptoSmall : (H : Type) → List (DataW H) → Bool := fun _ ds => decide (uptoBulkAll ds ≤ 1048576)
def OpenSpec.upto (s : _root_.Go.ChangeSpec) : _root_.Go.OpenSpec := { _root_.Go.OpenSpec.ofChange s with cond := some uptoSmall }

/-- 'conchlaw34.BuildFits', WHERE WHAT IT READS IS OF BULK AT MOST 1048576: true; the input reads as it did. -/
def buildFitsUptoRow : OpenClaim := { program := "ytiljpamcmmeflaagreatdoor", sum := "9a4abdd99d452995134f3f0f11fd2e044fcc7e1bb2c0f93a9d1edb13b10a5181", func := "conch/conchlaw34.BuildFits", spec := "buildFits", inPlace := ["internal/bytealg.IndexByteString", "internal/bytealg.IndexString", "internal/abi.NoEscape", "slices.overlaps[conch/api.Part]"], unfollowed := true, recurses := true, named := ["internal/bytealg.MaxLen", "conch/oper.texts", "conch/posix.reserved"], loops := true, plainKeys := false, apart := false, laid := [("conch/oper.texts", laid_conch_oper_texts), ("conch/posix.reserved", laid_conch_posix_reserved)], narrowed := true }
def BuildFitsUptoSaid : Prop := buildFitsUptoRow.holds Tryz.pinned (OpenSpec.upto buildFitsSpec)

/-- 'conchlaw34.BuildOther', WHERE WHAT IT READS IS OF BULK AT MOST 1048576: true; the input reads as it did. -/
def buildOtherUptoRow : OpenClaim := { program := "ytiljpamcmmeflaagreatdoor", sum := "9a4abdd99d452995134f3f0f11fd2e044fcc7e1bb2c0f93a9d1edb13b10a5181", func := "conch/conchlaw34.BuildOther", spec := "buildOther", inPlace := ["internal/bytealg.IndexByteString", "internal/bytealg.IndexString", "internal/abi.NoEscape", "slices.overlaps[conch/api.Part]"], unfollowed := true, recurses := true, named := ["internal/bytealg.MaxLen", "conch/oper.texts", "conch/posix.reserved"], plainKeys := false, apart := false, laid := [("conch/oper.texts", laid_conch_oper_texts), ("conch/posix.reserved", laid_conch_posix_reserved)], narrowed := true }
def BuildOtherUptoSaid : Prop := buildOtherUptoRow.holds Tryz.pinned (OpenSpec.upto buildOtherSpec)

end Rows
end Go.Proofs.YtiljpamcmmeflaaGreatDoor
