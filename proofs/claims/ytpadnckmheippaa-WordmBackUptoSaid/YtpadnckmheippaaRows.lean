/-
  NARROWER THAN 'FOR EVERY INPUT', by the rows' own cells (each row's printed sentence says how): WordmBack: loops.
  DERIVED. THE GIVEN ROWS OF THIS SEAT. 5 by the template 'for every input the law returns true; each argument reads behind the call as it read before'; 0 by the template 'total and deterministic' (their statements: YtpadnckmheippaaTotals.lean).
  GIVEN WITH THE SEED: the statements are not yours to turn. If you find one false, say at which input.
  Laid BY PROGRAM, IN A SANDBOX (cutbox-rows.mjs): the forced cells as the released guide's own fill.sh prints them over the translation 01b40307d467c9e5… (all of the seat's roots in one cut). By AI agents, Wed Nov 11 2026. No macro, syntax, notation, axiom, sorry.
-/
import Derived.Test.YtpadnckmheippaaChecked
import GoSem.Claim
import GoSem.ClaimJoined
import GoSem.ClaimMapViews
import Derived.JoinedTies
import Derived.KernelRfl
namespace Go.Proofs.Ytpadnckmheippaa
/- THE CELL 'sum', in the pinned program and in every row, IS THE sha256 OF THE DUMP (.gsa) THAT YtpadnckmheippaaProg.lean LOADS. Nothing in Lean hashes anything: it is a label: what it is worth is what the hold of that sum in a sandbox is worth. -/
noncomputable def Try.pinned : Pinned := { name := "ytpadnckmheippaa", sum := "01b40307d467c9e59e3fab59168166c24891df36abe75f5e285ab4757d0d8d94", checked := Try.checked }
namespace Rows
def none {H : Type} : Left H := { results := [], args := [] }

/-- 'conchlaw26.WordmBack': WHATEVER THE INPUT: true; the input reads as it did. -/
def wordmBackSpec : ChangeSpec := { name := "wordmBack", fn := fun _ => fun
  | [d] => { results := [.lit (.bool true)], args := [d] }
  | _ => none }
def wordmBackRow : OpenClaim := { program := "ytpadnckmheippaa", sum := "01b40307d467c9e59e3fab59168166c24891df36abe75f5e285ab4757d0d8d94", func := "conch/conchlaw26.WordmBack", spec := "wordmBack", inPlace := ["internal/bytealg.IndexByteString", "internal/abi.NoEscape", "internal/bytealg.MakeNoZero"], unfollowed := true, recurses := true, loops := true, apart := false }
def WordmBackSaid : Prop := wordmBackRow.holds Try.pinned (OpenSpec.ofChange wordmBackSpec)

/-- ITS FALSE NEIGHBOUR: 'it returns false'. Refute it at one input. -/
def wordmBackWrong : ChangeSpec := { name := "wordmBack", fn := fun _ => fun
  | [d] => { results := [.lit (.bool false)], args := [d] }
  | _ => none }
def WordmBackWrongFalsely : Prop := wordmBackRow.holds Try.pinned (OpenSpec.ofChange wordmBackWrong)

/-- 'conchlaw26.WordmRight': WHATEVER THE INPUT: true; the input reads as it did. -/
def wordmRightSpec : ChangeSpec := { name := "wordmRight", fn := fun _ => fun
  | [d] => { results := [.lit (.bool true)], args := [d] }
  | _ => none }
def wordmRightRow : OpenClaim := { program := "ytpadnckmheippaa", sum := "01b40307d467c9e59e3fab59168166c24891df36abe75f5e285ab4757d0d8d94", func := "conch/conchlaw26.WordmRight", spec := "wordmRight", inPlace := ["internal/bytealg.IndexByteString", "internal/abi.NoEscape", "internal/bytealg.MakeNoZero"], unfollowed := true, recurses := true, apart := false }
def WordmRightSaid : Prop := wordmRightRow.holds Try.pinned (OpenSpec.ofChange wordmRightSpec)

/-- ITS FALSE NEIGHBOUR: 'it returns false'. Refute it at one input. -/
def wordmRightWrong : ChangeSpec := { name := "wordmRight", fn := fun _ => fun
  | [d] => { results := [.lit (.bool false)], args := [d] }
  | _ => none }
def WordmRightWrongFalsely : Prop := wordmRightRow.holds Try.pinned (OpenSpec.ofChange wordmRightWrong)

/-- 'conchlaw26.WordmRest': WHATEVER THE INPUT: true; the input reads as it did. -/
def wordmRestSpec : ChangeSpec := { name := "wordmRest", fn := fun _ => fun
  | [d] => { results := [.lit (.bool true)], args := [d] }
  | _ => none }
def wordmRestRow : OpenClaim := { program := "ytpadnckmheippaa", sum := "01b40307d467c9e59e3fab59168166c24891df36abe75f5e285ab4757d0d8d94", func := "conch/conchlaw26.WordmRest", spec := "wordmRest", inPlace := ["internal/bytealg.IndexByteString", "internal/abi.NoEscape", "internal/bytealg.MakeNoZero"], unfollowed := true, recurses := true, apart := false }
def WordmRestSaid : Prop := wordmRestRow.holds Try.pinned (OpenSpec.ofChange wordmRestSpec)

/-- ITS FALSE NEIGHBOUR: 'it returns false'. Refute it at one input. -/
def wordmRestWrong : ChangeSpec := { name := "wordmRest", fn := fun _ => fun
  | [d] => { results := [.lit (.bool false)], args := [d] }
  | _ => none }
def WordmRestWrongFalsely : Prop := wordmRestRow.holds Try.pinned (OpenSpec.ofChange wordmRestWrong)

/-- 'conchlaw26.WordmCmds': WHATEVER THE INPUT: true; the input reads as it did. -/
def wordmCmdsSpec : ChangeSpec := { name := "wordmCmds", fn := fun _ => fun
  | [d1, d2, d3] => { results := [.lit (.bool true)], args := [d1, d2, d3] }
  | _ => none }
def wordmCmdsRow : OpenClaim := { program := "ytpadnckmheippaa", sum := "01b40307d467c9e59e3fab59168166c24891df36abe75f5e285ab4757d0d8d94", func := "conch/conchlaw26.WordmCmds", spec := "wordmCmds", inPlace := ["internal/bytealg.IndexByteString", "internal/abi.NoEscape", "internal/bytealg.MakeNoZero"], unfollowed := true, recurses := true, apart := false }
def WordmCmdsSaid : Prop := wordmCmdsRow.holds Try.pinned (OpenSpec.ofChange wordmCmdsSpec)

/-- ITS FALSE NEIGHBOUR: 'it returns false'. Refute it at one input. -/
def wordmCmdsWrong : ChangeSpec := { name := "wordmCmds", fn := fun _ => fun
  | [d1, d2, d3] => { results := [.lit (.bool false)], args := [d1, d2, d3] }
  | _ => none }
def WordmCmdsWrongFalsely : Prop := wordmCmdsRow.holds Try.pinned (OpenSpec.ofChange wordmCmdsWrong)

/-- 'conchlaw26.WordmNone': WHATEVER THE INPUT: true; the input reads as it did. -/
def wordmNoneSpec : ChangeSpec := { name := "wordmNone", fn := fun _ => fun
  | [d] => { results := [.lit (.bool true)], args := [d] }
  | _ => none }
def wordmNoneRow : OpenClaim := { program := "ytpadnckmheippaa", sum := "01b40307d467c9e59e3fab59168166c24891df36abe75f5e285ab4757d0d8d94", func := "conch/conchlaw26.WordmNone", spec := "wordmNone", inPlace := ["internal/bytealg.IndexByteString", "internal/abi.NoEscape", "internal/bytealg.MakeNoZero"], unfollowed := true, recurses := true, apart := false }
def WordmNoneSaid : Prop := wordmNoneRow.holds Try.pinned (OpenSpec.ofChange wordmNoneSpec)

/-- ITS FALSE NEIGHBOUR: 'it returns false'. Refute it at one input. -/
def wordmNoneWrong : ChangeSpec := { name := "wordmNone", fn := fun _ => fun
  | [d] => { results := [.lit (.bool false)], args := [d] }
  | _ => none }
def WordmNoneWrongFalsely : Prop := wordmNoneRow.holds Try.pinned (OpenSpec.ofChange wordmNoneWrong)

/- THE SECOND FORM. 'bulk': how many values and letters a reading holds, each counted each time it is reached (what is shared counts as often as it is met; a slice's spare places count too). A statement '..UptoSaid' is the law's where the arguments, and the package variables that the reading takes, are together of bulk at most 1048576: NARROWER than '..Said'. Prove '..Said' where nothing that the law and all that it calls make is longer than what came in: it says more and counts as full. Else prove '..UptoSaid'. A law counts once. -/
mutual
def uptoBulk {H : Type} : DataW H → Nat
  | .lit (.string bytes) => bytes.length + 1
  | .lit _ => 1
  | .nil => 1
  | .ptr d => uptoBulk d + 1
  | .slice elems spare => uptoBulkAll elems + uptoBulkAll spare + 1
  | .agg parts => uptoBulkAll parts + 1
  | .iface _ d => uptoBulk d + 1
  | .map entries => uptoBulkEntries entries + 1
  | .held _ => 1
def uptoBulkAll {H : Type} : List (DataW H) → Nat
  | [] => 0
  | d :: r => uptoBulk d + uptoBulkAll r
def uptoBulkEntries {H : Type} : List (Lit × DataW H) → Nat
  | [] => 0
  | x :: r => uptoBulkEntry x + uptoBulkEntries r
def uptoBulkEntry {H : Type} : Lit × DataW H → Nat
  | (.string bytes, d) => bytes.length + uptoBulk d + 1
  | (_, d) => uptoBulk d + 1
 end
def uptoSmall : (H : Type) → List (DataW H) → Bool := fun _ ds => decide (uptoBulkAll ds ≤ 1048576)
def OpenSpec.upto (s : _root_.Go.ChangeSpec) : _root_.Go.OpenSpec := { _root_.Go.OpenSpec.ofChange s with cond := some uptoSmall }

/-- 'conchlaw26.WordmBack', WHERE WHAT IT READS IS OF BULK AT MOST 1048576: true; the input reads as it did. -/
def wordmBackUptoRow : OpenClaim := { program := "ytpadnckmheippaa", sum := "01b40307d467c9e59e3fab59168166c24891df36abe75f5e285ab4757d0d8d94", func := "conch/conchlaw26.WordmBack", spec := "wordmBack", inPlace := ["internal/bytealg.IndexByteString", "internal/abi.NoEscape", "internal/bytealg.MakeNoZero"], unfollowed := true, recurses := true, loops := true, apart := false, narrowed := true }
def WordmBackUptoSaid : Prop := wordmBackUptoRow.holds Try.pinned (OpenSpec.upto wordmBackSpec)

/-- 'conchlaw26.WordmRight', WHERE WHAT IT READS IS OF BULK AT MOST 1048576: true; the input reads as it did. -/
def wordmRightUptoRow : OpenClaim := { program := "ytpadnckmheippaa", sum := "01b40307d467c9e59e3fab59168166c24891df36abe75f5e285ab4757d0d8d94", func := "conch/conchlaw26.WordmRight", spec := "wordmRight", inPlace := ["internal/bytealg.IndexByteString", "internal/abi.NoEscape", "internal/bytealg.MakeNoZero"], unfollowed := true, recurses := true, apart := false, narrowed := true }
def WordmRightUptoSaid : Prop := wordmRightUptoRow.holds Try.pinned (OpenSpec.upto wordmRightSpec)

/-- 'conchlaw26.WordmRest', WHERE WHAT IT READS IS OF BULK AT MOST 1048576: true; the input reads as it did. -/
def wordmRestUptoRow : OpenClaim := { program := "ytpadnckmheippaa", sum := "01b40307d467c9e59e3fab59168166c24891df36abe75f5e285ab4757d0d8d94", func := "conch/conchlaw26.WordmRest", spec := "wordmRest", inPlace := ["internal/bytealg.IndexByteString", "internal/abi.NoEscape", "internal/bytealg.MakeNoZero"], unfollowed := true, recurses := true, apart := false, narrowed := true }
def WordmRestUptoSaid : Prop := wordmRestUptoRow.holds Try.pinned (OpenSpec.upto wordmRestSpec)

/-- 'conchlaw26.WordmCmds', WHERE WHAT IT READS IS OF BULK AT MOST 1048576: true; the input reads as it did. -/
def wordmCmdsUptoRow : OpenClaim := { program := "ytpadnckmheippaa", sum := "01b40307d467c9e59e3fab59168166c24891df36abe75f5e285ab4757d0d8d94", func := "conch/conchlaw26.WordmCmds", spec := "wordmCmds", inPlace := ["internal/bytealg.IndexByteString", "internal/abi.NoEscape", "internal/bytealg.MakeNoZero"], unfollowed := true, recurses := true, apart := false, narrowed := true }
def WordmCmdsUptoSaid : Prop := wordmCmdsUptoRow.holds Try.pinned (OpenSpec.upto wordmCmdsSpec)

/-- 'conchlaw26.WordmNone', WHERE WHAT IT READS IS OF BULK AT MOST 1048576: true; the input reads as it did. -/
def wordmNoneUptoRow : OpenClaim := { program := "ytpadnckmheippaa", sum := "01b40307d467c9e59e3fab59168166c24891df36abe75f5e285ab4757d0d8d94", func := "conch/conchlaw26.WordmNone", spec := "wordmNone", inPlace := ["internal/bytealg.IndexByteString", "internal/abi.NoEscape", "internal/bytealg.MakeNoZero"], unfollowed := true, recurses := true, apart := false, narrowed := true }
def WordmNoneUptoSaid : Prop := wordmNoneUptoRow.holds Try.pinned (OpenSpec.upto wordmNoneSpec)

end Rows
end Go.Proofs.Ytpadnckmheippaa
