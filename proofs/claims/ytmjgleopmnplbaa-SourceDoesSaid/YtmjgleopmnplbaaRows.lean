/-
  No cell of these rows narrows 'for every input' (looked for: loops, veiled, ifaces, maps, wideKeys, modest, calm, conditions, laid).
  DERIVED. THE GIVEN ROWS OF THIS SEAT. 3 by the template 'for every input the law returns true; each argument reads behind the call as it read before'; 0 by the template 'total and deterministic' (their statements: YtmjgleopmnplbaaTotals.lean).
  GIVEN WITH THE SEED: the statements are not yours to turn. If you find one false, say at which input.
  Laid BY PROGRAM, IN A SANDBOX (cutbox-rows.mjs): the forced cells as the released guide's own fill.sh prints them over the translation 68254eee9f9120ff… (all of the seat's roots in one cut). By AI agents, Wed Nov 11 2026. No macro, syntax, notation, axiom, sorry.
-/
import Derived.Test.YtmjgleopmnplbaaChecked
import GoSem.Claim
import GoSem.ClaimJoined
import GoSem.ClaimMapViews
import Derived.JoinedTies
import Derived.KernelRfl
namespace Go.Proofs.Ytmjgleopmnplbaa
/- THE CELL 'sum', in the pinned program and in every row, IS THE sha256 OF THE DUMP (.gsa) THAT YtmjgleopmnplbaaProg.lean LOADS. Nothing in Lean hashes anything: it is a label: what it is worth is what the hold of that sum in a sandbox is worth. -/
noncomputable def Try.pinned : Pinned := { name := "ytmjgleopmnplbaa", sum := "68254eee9f9120ffeefcf7d0b9b605bc094cd6ee070a886a258c3aa4ef949c95", checked := Try.checked }
namespace Rows
def none {H : Type} : Left H := { results := [], args := [] }

/-- 'conchlaw37.SourceReads': WHATEVER THE INPUT: true; the input reads as it did. -/
def sourceReadsSpec : ChangeSpec := { name := "sourceReads", fn := fun _ => fun
  | [d1, d2, d3] => { results := [.lit (.bool true)], args := [d1, d2, d3] }
  | _ => none }
def sourceReadsRow : OpenClaim := { program := "ytmjgleopmnplbaa", sum := "68254eee9f9120ffeefcf7d0b9b605bc094cd6ee070a886a258c3aa4ef949c95", func := "conch/conchlaw37.SourceReads", spec := "sourceReads", apart := false }
def SourceReadsSaid : Prop := sourceReadsRow.holds Try.pinned (OpenSpec.ofChange sourceReadsSpec)

/-- ITS FALSE NEIGHBOUR: 'it returns false'. Refute it at one input. -/
def sourceReadsWrong : ChangeSpec := { name := "sourceReads", fn := fun _ => fun
  | [d1, d2, d3] => { results := [.lit (.bool false)], args := [d1, d2, d3] }
  | _ => none }
def SourceReadsWrongFalsely : Prop := sourceReadsRow.holds Try.pinned (OpenSpec.ofChange sourceReadsWrong)

/-- 'conchlaw37.SourceDoes': WHATEVER THE INPUT: true; the input reads as it did. -/
def sourceDoesSpec : ChangeSpec := { name := "sourceDoes", fn := fun _ => fun
  | [d] => { results := [.lit (.bool true)], args := [d] }
  | _ => none }
def sourceDoesRow : OpenClaim := { program := "ytmjgleopmnplbaa", sum := "68254eee9f9120ffeefcf7d0b9b605bc094cd6ee070a886a258c3aa4ef949c95", func := "conch/conchlaw37.SourceDoes", spec := "sourceDoes", apart := false }
def SourceDoesSaid : Prop := sourceDoesRow.holds Try.pinned (OpenSpec.ofChange sourceDoesSpec)

/-- ITS FALSE NEIGHBOUR: 'it returns false'. Refute it at one input. -/
def sourceDoesWrong : ChangeSpec := { name := "sourceDoes", fn := fun _ => fun
  | [d] => { results := [.lit (.bool false)], args := [d] }
  | _ => none }
def SourceDoesWrongFalsely : Prop := sourceDoesRow.holds Try.pinned (OpenSpec.ofChange sourceDoesWrong)

/-- 'conchlaw37.SourceNone': WHATEVER THE INPUT: true; the input reads as it did. -/
def sourceNoneSpec : ChangeSpec := { name := "sourceNone", fn := fun _ => fun
  | [d1, d2] => { results := [.lit (.bool true)], args := [d1, d2] }
  | _ => none }
def sourceNoneRow : OpenClaim := { program := "ytmjgleopmnplbaa", sum := "68254eee9f9120ffeefcf7d0b9b605bc094cd6ee070a886a258c3aa4ef949c95", func := "conch/conchlaw37.SourceNone", spec := "sourceNone", apart := false }
def SourceNoneSaid : Prop := sourceNoneRow.holds Try.pinned (OpenSpec.ofChange sourceNoneSpec)

/-- ITS FALSE NEIGHBOUR: 'it returns false'. Refute it at one input. -/
def sourceNoneWrong : ChangeSpec := { name := "sourceNone", fn := fun _ => fun
  | [d1, d2] => { results := [.lit (.bool false)], args := [d1, d2] }
  | _ => none }
def SourceNoneWrongFalsely : Prop := sourceNoneRow.holds Try.pinned (OpenSpec.ofChange sourceNoneWrong)

/- THE SECOND FORM. 'bulk': how many values and letters a reading holds, each counted each time it is reached (what is shared counts as often as it is met; a slice's spare places count too). A statement '..UptoSaid' is the law's where the arguments, and the package variables that the reading takes, are together of bulk at most 1048576: NARROWER than '..Said'. Prove '..Said' where nothing that the law and all that it calls make is longer than what came in: it says more and counts as full. Else prove '..UptoSaid'. A law counts once. -/
mutual
def uptoBulk {H : Type} : DataW H → Nat
  | .lit (.string bytes) => bytes.length + 1
  | .lit _ => 1
  | .nil => 1
  | .ptr d => uptoBulk d + 1
  | .slice elems spare => uptoBulkAll elems + uptoBulkAll spare + 1
  | .agg parts => uptoBulkAll parts + 1
  | .iface _ d => uptoBulk d + 1
  | .map entries => uptoBulkEntries entries + 1
  | .held _ => 1
def uptoBulkAll {H : Type} : List (DataW H) → Nat
  | [] => 0
  | d :: r => uptoBulk d + uptoBulkAll r
def uptoBulkEntries {H : Type} : List (Lit × DataW H) → Nat
  | [] => 0
  | x :: r => uptoBulkEntry x + uptoBulkEntries r
def uptoBulkEntry {H : Type} : Lit × DataW H → Nat
  | (.string bytes, d) => bytes.length + uptoBulk d + 1
  | (_, d) => uptoBulk d + 1
 end
def uptoSmall : (H : Type) → List (DataW H) → Bool := fun _ ds => decide (uptoBulkAll ds ≤ 1048576)
def OpenSpec.upto (s : _root_.Go.ChangeSpec) : _root_.Go.OpenSpec := { _root_.Go.OpenSpec.ofChange s with cond := some uptoSmall }

/-- 'conchlaw37.SourceReads', WHERE WHAT IT READS IS OF BULK AT MOST 1048576: true; the input reads as it did. -/
def sourceReadsUptoRow : OpenClaim := { program := "ytmjgleopmnplbaa", sum := "68254eee9f9120ffeefcf7d0b9b605bc094cd6ee070a886a258c3aa4ef949c95", func := "conch/conchlaw37.SourceReads", spec := "sourceReads", apart := false, narrowed := true }
def SourceReadsUptoSaid : Prop := sourceReadsUptoRow.holds Try.pinned (OpenSpec.upto sourceReadsSpec)

/-- 'conchlaw37.SourceDoes', WHERE WHAT IT READS IS OF BULK AT MOST 1048576: true; the input reads as it did. -/
def sourceDoesUptoRow : OpenClaim := { program := "ytmjgleopmnplbaa", sum := "68254eee9f9120ffeefcf7d0b9b605bc094cd6ee070a886a258c3aa4ef949c95", func := "conch/conchlaw37.SourceDoes", spec := "sourceDoes", apart := false, narrowed := true }
def SourceDoesUptoSaid : Prop := sourceDoesUptoRow.holds Try.pinned (OpenSpec.upto sourceDoesSpec)

/-- 'conchlaw37.SourceNone', WHERE WHAT IT READS IS OF BULK AT MOST 1048576: true; the input reads as it did. -/
def sourceNoneUptoRow : OpenClaim := { program := "ytmjgleopmnplbaa", sum := "68254eee9f9120ffeefcf7d0b9b605bc094cd6ee070a886a258c3aa4ef949c95", func := "conch/conchlaw37.SourceNone", spec := "sourceNone", apart := false, narrowed := true }
def SourceNoneUptoSaid : Prop := sourceNoneUptoRow.holds Try.pinned (OpenSpec.upto sourceNoneSpec)

end Rows
end Go.Proofs.Ytmjgleopmnplbaa
