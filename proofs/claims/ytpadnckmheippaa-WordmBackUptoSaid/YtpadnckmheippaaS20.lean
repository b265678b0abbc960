/- A new word machine. -/
import Derived.Test.YtpadnckmheippaaS19
namespace Go.Proofs.Ytpadnckmheippaa
open Go.RowKit
set_option linter.unusedVariables false
/-- The machine to which nothing came, its levels at block b. -/
def newMR (b : Nat) : MR := { lv := .slice (some ⟨b, 0, none⟩) 1 1 }
theorem newMR_ms (b : Nat) : (newMR b).ms = {} := rfl
theorem newMR_foot (b g : Nat) : (newMR b).foot g = [g, b] := rfl
theorem new_rep (w : World) (B : Bs) (hB : B.n ≤ w.heap.size) (hav : ∀ b ∈ B.av, b < w.heap.size) (nx : Value) :
    MRep ((w.alloc (.cells #[.int .i64 0, .slice none 0 0, .slice none 0 0, .string ⟨#[]⟩, .string ⟨#[]⟩] 59)).alloc (.cells ((newMR w.heap.size).cells nx) 57)) B (w.heap.size + 1) nx (newMR w.heap.size) := by
  have hsz : (w.alloc (.cells #[.int .i64 0, .slice none 0 0, .slice none 0 0, .string ⟨#[]⟩, .string ⟨#[]⟩] 59)).heap.size = w.heap.size + 1 := by simp
  have hb1 := Blk.new w 59 #[.int .i64 0, .slice none 0 0, .slice none 0 0, .string ⟨#[]⟩, .string ⟨#[]⟩]
  have hb2 := Blk.new (w.alloc (.cells #[.int .i64 0, .slice none 0 0, .slice none 0 0, .string ⟨#[]⟩, .string ⟨#[]⟩] 59)) 57 ((newMR w.heap.size).cells nx)
  rw [hsz] at hb2
  refine ⟨hb2, by show B.n ≤ w.heap.size + 1; omega, ⟨fun r hr => ?_, ?_⟩, fun l hl p hp => ?_, fun b hb => ?_⟩
  · simp only [MR.rows, newMR, List.flatMap_nil, List.nil_append, List.mem_cons, List.not_mem_nil, or_false] at hr
    rcases hr with rfl | rfl | rfl | rfl | rfl | rfl
    · refine ⟨rfl, .inr ⟨w.heap.size, 1, _, rfl, hB, hb1.alloc _, Nat.le_refl _, by decide, rfl, rfl⟩⟩
    all_goals exact ⟨rfl, .inl ⟨rfl, rfl⟩⟩
  · show [w.heap.size].Nodup
    simp
  · have : l = {} := by simpa [MR.levels, newMR] using hl
    subst this
    cases hp
  · have := hav b hb
    refine ⟨by simp; omega, ?_⟩
    rw [newMR_foot]
    simp
    omega
set_option maxRecDepth 100000 in
set_option maxHeartbeats 800000 in
theorem new_any (w : World) (B : Bs) (hB : B.n ≤ w.heap.size) (hav : ∀ b ∈ B.av, b < w.heap.size) :
    Calls Try.prog 25 #[] w fun e w' => e = .returned (.pointer (some ⟨w.heap.size + 1, 0, none⟩)) ∧ MRep w' B (w.heap.size + 1) (nextVal 0 (w.heap.size + 1)) (newMR w.heap.size) ∧ Below w.heap.size w w' := by
  have HN := Lib.hid (new_rep w B hB hav)
  have hmk : ∀ y : World, (Instr.makeSlice 54 (.int .i64 1) (.int .i64 1)).run Try.prog y = .ok (.slice (some ⟨y.heap.size, 0, none⟩) 1 1) (y.alloc (.cells #[.int .i64 0, .slice none 0 0, .slice none 0 0, .string ⟨#[]⟩, .string ⟨#[]⟩] 59)) := fun _ => by kernel_rfl
  go_enter Try.func25, Try.ntmps25
  go_wp2_with fail
  refine (turn_any (B := B) (x := newMR w.heap.size) (HN.out _) 0 (by omega)).mono ?_
  rintro e w' ⟨rfl, h1, s1⟩
  have HF : Hid (MRep w' B (w.heap.size + 1) (nextVal 0 (w.heap.size + 1)) (newMR w.heap.size) ∧ Below w.heap.size w w') := Lib.hid ⟨h1, by
    refine (((Below.refl w.heap.size w).alloc (Nat.le_refl _) _).alloc (by simp) _).trans (s1.keep.below (fun b hb => ?_) (by simp; omega))
    rw [newMR_foot] at hb
    simp at hb
    omega⟩
  clear h1 s1
  go_wp2
  go_ret
  exact ⟨rfl, HF.out⟩
end Go.Proofs.Ytpadnckmheippaa
