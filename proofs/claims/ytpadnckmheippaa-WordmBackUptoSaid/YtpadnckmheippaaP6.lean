/- A byte that can't come makes the word machine dead: plain. What two alike ones tell is the same. -/
import Derived.Test.YtpadnckmheippaaP5
namespace Go.Proofs.Ytpadnckmheippaa
open Go
set_option linter.unusedVariables false
theorem text_wrong (m : MS) (c : UInt8) (h : (m.text c).2 = 3) : (m.text c).1.kind = 17 := by
  revert h
  unfold MS.text
  simp only
  repeat' split
  all_goals first | (intro _; rfl) | (intro h; cases h)
theorem next_wrong (m : MS) (c : UInt8) (hk : m.kind ≤ 14) (h : (m.next c).2 = 3) : (m.next c).1.kind = 17 := by
  revert h
  have hb : ∀ y : MS, (y.behind c).2 = 3 → (y.behind c).1.kind = 17 := fun y => by unfold MS.behind; repeat' split
                                                                                   all_goals first | (intro _; rfl) | (intro h; cases h)
  have hp : ∀ y : MS, (y.parameter c).2 = 3 → (y.parameter c).1.kind = 17 := fun y => by unfold MS.parameter; simp only; repeat' split
                                                                                         all_goals first | (intro _; rfl) | (intro h; cases h)
  unfold MS.next
  split
  · exact text_wrong m c
  · unfold MS.escaped; repeat' split
    all_goals first | (intro _; rfl) | (intro h; cases h)
  · unfold MS.dollar; simp only
    split
    · intro h; cases h
    split
    · intro h; cases h
    split
    · intro h; cases h
    split
    · intro h; cases h
    · exact text_wrong _ c
  · unfold MS.opened; split
    all_goals (intro h; cases h)
  · unfold MS.bare; simp only
    split
    · intro h; cases h
    · exact text_wrong _ c
  · unfold MS.head; split
    · intro h; cases h
    · exact hp _
  · unfold MS.hash; split
    · intro h; cases h
    · exact hp _
  · unfold MS.named; simp only; split
    · intro h; cases h
    · exact hb _
  · unfold MS.named; simp only; split
    · intro h; cases h
    · exact hb _
  · exact hb _
  · unfold MS.colon; split
    all_goals first | (intro _; rfl) | (intro h; cases h)
  · unfold MS.double; split
    · intro h; cases h
    · exact text_wrong _ c
  · unfold MS.single; repeat' split
    all_goals first | (intro _; rfl) | (intro h; cases h)
  · unfold MS.arith; repeat' split
    all_goals first | (intro _; rfl) | (intro h; cases h)
  · unfold MS.arithEnd; split
    all_goals first | (intro _; rfl) | (intro h; cases h)
  · rename_i e; omega
  · rename_i e0 e1 e2 e3 e4 e5 e6 e7 e8 e9 e10 e11 e12 e13 e14 e15
    exfalso
    have : m.kind = 0 ∨ m.kind = 1 ∨ m.kind = 2 ∨ m.kind = 3 ∨ m.kind = 4 ∨ m.kind = 5 ∨ m.kind = 6 ∨ m.kind = 7 ∨ m.kind = 8 ∨ m.kind = 9 ∨ m.kind = 10 ∨ m.kind = 11 ∨ m.kind = 12 ∨ m.kind = 13 ∨ m.kind = 14 := by omega
    simp_all
theorem feed_wrong {m : MS} (hk : m.kind ≤ 14) (c : UInt8) (h : (m.feed c).2 = 3) : (m.feed c).1.kind = 17 := by
  rw [feed_sig] at h
  have h2 := next_wrong m c hk h
  rw [MS.feed_no m c (by rw [h]; decide)]
  exact h2
/-- Behind any byte: it goes on, or is over, or waits, or is dead. -/
theorem feed_ways {m : MS} (h : m.ok) (hk : m.kind ≤ 14) (c : UInt8) : ((m.feed c).2 = 0 ∧ (m.feed c).1.kind ≤ 14) ∨ ((m.feed c).2 = 1 ∧ (m.feed c).1.kind = 16 ∧ (m.feed c).1.lower = []) ∨ (m.feed c).2 = 2 ∨ ((m.feed c).2 = 3 ∧ (m.feed c).1.kind = 17) := by
  have hs : (m.feed c).2 ≤ 3 := by rw [feed_sig]; exact (next_fine m h (by omega) c).sig
  have hc : (m.feed c).2 = 0 ∨ (m.feed c).2 = 1 ∨ (m.feed c).2 = 2 ∨ (m.feed c).2 = 3 := by omega
  rcases hc with e | e | e | e
  · exact .inl ⟨e, feed_live h (by omega) c e⟩
  · exact .inr (.inl ⟨e, feed_end0 h hk c e⟩)
  · exact .inr (.inr (.inl e))
  · exact .inr (.inr (.inr ⟨e, feed_wrong hk c e⟩))
theorem Twin.raw_eq {m x : MS} (h : Twin m x) : (x.kind == 1 || x.kind == 12 || x.kind == 13 || x.kind == 14) = (m.kind == 1 || m.kind == 12 || m.kind == 13 || m.kind == 14) := by rw [h.kind]
theorem Twin.deep_eq {m x : MS} (h : Twin m x) : x.lower.length = m.lower.length := by
  have := congrArg List.length h.lower
  simpa using this
theorem Twin.parts_eq {m x : MS} (h : Twin m x) : x.top.parts.length = m.top.parts.length := congrArg (fun p => p.2.2) h.top
/-- Alike over many bytes. -/
theorem run_alike {m x : MS} {n : Nat} (h : Twin m x) (hg : Good n m) (l : List UInt8) : Twin (m.run l) (x.run l) := by
  induction l generalizing m x n with
  | nil => exact h
  | cons c l ih => exact ih (feed_alike h hg.kind c).2 (hg.feed c)
theorem goes_alike {m x : MS} {n : Nat} (h : Twin m x) (hg : Good n m) (l : List UInt8) (hl : m.goes l) : x.goes l := by
  induction l generalizing m x n with
  | nil => trivial
  | cons c l ih =>
    obtain ⟨a, b⟩ := feed_alike h hg.kind c
    exact ⟨a.trans hl.1, ih b (hg.feed c) hl.2⟩
end Go.Proofs.Ytpadnckmheippaa
