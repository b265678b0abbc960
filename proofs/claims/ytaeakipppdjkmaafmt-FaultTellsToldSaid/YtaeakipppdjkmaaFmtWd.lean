/- A region that draws its order, whose operations yield one value in every world of a class of the prover's own: walked once. -/
import Derived.Deep.Quiet
import Derived.Deep.QuietTactic
import Derived.BigQuiet
import Derived.WalkKit
namespace Go.Proofs.YtaeakipppdjkmaaFmt
open Go.RowKit

/-- A world in which I holds. -/
structure Wd (I : World → Prop) where
  w : World
  ok : I w

/-- The callee's contract, at a world of the class. -/
theorem wd_call {P : Program} {f : FuncId} {args : Array Value} {I : World → Prop} {w : World} {v : Value} (h : Calls P f args w fun e w' => e = .returned v ∧ I w') :
    Calls P f args w fun e w' => e = .returned v ∧ ∃ y : Wd I, w' = y.w := h.mono fun _ _ ⟨he, hi⟩ => ⟨he, ⟨_, hi⟩, rfl⟩

theorem wp_region_wd (I : World → Prop) {P : Program} {id : Nat} {Q : Exit → Act → World → Prop} {a : Act} {w : World} {l : List Oper} (hm : P.follows .mixedOrders = true) (hB : Region.lexB .any l.toArray = true)
    (h0 : I w.drew) (h : wpQuiet P l.toArray (fun w' => ∃ y : Wd I, w' = y.w) (fun a' => ∀ w', (∃ y : Wd I, w' = y.w) → Q .normal a' w') l a) : (Code.region id l.toArray true).wp P Q a w :=
  wp_region_quiet (C := fun w' => ∃ y : Wd I, w' = y.w) hm hB ⟨⟨w.drew, h0⟩, rfl⟩ (by simpa using h)
end Go.Proofs.YtaeakipppdjkmaaFmt
