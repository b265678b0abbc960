/- Contracts of the word machine: turn, goes, wrong, top. -/
import Derived.Test.YtpadnckmheippaaRows
import Derived.Test.YtpadnckmheippaaMRep
import Derived.WalkSpells
import Derived.WalkLawsBesides
import Derived.BigQuiet
import Derived.Deep.QuietTactic
import Derived.Laws.EntriesVeiled
namespace Go.Proofs.Ytpadnckmheippaa
open Go.RowKit
set_option linter.unusedVariables false

theorem ret_int {k : IntKind} {a b : Int} (h : a = b) : Ending.returned (.int k a) = .returned (.int k b) := by rw [h]
theorem ret_bool {a b : Bool} (h : a = b) : Ending.returned (.bool a) = .returned (.bool b) := by rw [h]

theorem MRep.turned {w : World} {B : Bs} {g : Nat} {nx : Value} {x : MR} (h : MRep w B g nx x) (k : Nat) (nx' : Value) :
    MRep ((w.setCell ⟨g, 2, none⟩ (.int .i64 k)).setCell ⟨g, 1, none⟩ nx') B g nx' { x with kind := k } ∧
    Step (x.foot g) w (x.foot g) ((w.setCell ⟨g, 2, none⟩ (.int .i64 k)).setCell ⟨g, 1, none⟩ nx') := by
  obtain ⟨h1, s1⟩ := h.field (x' := { x with kind := k }) (nx' := nx) 2 (.int .i64 k) (by simp [MR.cells]) rfl rfl
  obtain ⟨h2, s2⟩ := h1.field (x' := { x with kind := k }) (nx' := nx') 1 nx' (by simp [MR.cells]) rfl rfl
  exact ⟨h2, s1.trans s2⟩

set_option maxRecDepth 100000 in
set_option maxHeartbeats 4000000 in
theorem turn_any {w : World} {B : Bs} {g : Nat} {nx : Value} {x : MR} (h : MRep w B g nx x) (k : Nat) (hk : k ≤ 17) :
    Calls Try.prog 29 #[.pointer (some ⟨g, 0, none⟩), .int .i64 k] w fun e w' => e = .returned (.pointer (some ⟨g, 0, none⟩)) ∧ MRep w' B g (nextVal k g) { x with kind := k } ∧ Step (x.foot g) w (x.foot g) w' := by
  have h1 := h.blk.cell 1
  have h2 := h.blk.cell 2
  have f1 := h.blk.frozen 1
  have f2 := h.blk.frozen 2
  simp only [MR.cells, List.getElem?_toArray, List.getElem?_cons_zero, List.getElem?_cons_succ] at h1 h2
  have HT := Lib.hid (h.turned k (nextVal k g))
  clear h
  have hc : k = 0 ∨ k = 1 ∨ k = 2 ∨ k = 3 ∨ k = 4 ∨ k = 5 ∨ k = 6 ∨ k = 7 ∨ k = 8 ∨ k = 9 ∨ k = 10 ∨ k = 11 ∨ k = 12 ∨ k = 13 ∨ k = 14 ∨ k = 15 ∨ k = 16 ∨ k = 17 := by omega
  clear hk
  rcases hc with rfl | rfl | rfl | rfl | rfl | rfl | rfl | rfl | rfl | rfl | rfl | rfl | rfl | rfl | rfl | rfl | rfl | rfl
  all_goals
    go_enter Try.func29, Try.ntmps29
    go_wp2
    go_ret
    exact ⟨rfl, HT.out⟩
end Go.Proofs.Ytpadnckmheippaa
