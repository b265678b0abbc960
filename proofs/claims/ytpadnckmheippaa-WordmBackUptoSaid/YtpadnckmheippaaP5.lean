/- A word machine that waits for commands, and one with arithmetic in their place, are alike: plain. -/
import Derived.Test.YtpadnckmheippaaP4
namespace Go.Proofs.Ytpadnckmheippaa
open Go
set_option linter.unusedVariables false
theorem lower_of0 {m : MS} (h : m.ok) (h0 : m.top.place = 0) : m.lower = [] := by
  obtain ⟨ps, h1, h2⟩ := h
  rcases List.eq_nil_or_concat ps with e | ⟨qs, t, e⟩
  · rw [e] at h1; exact lower_nil h1
  · rw [List.concat_eq_append] at e
    rw [e, ← List.cons_append] at h1
    have := top_place h1
    have := h2 t (by rw [e]; simp)
    omega
theorem text_end0 (m : MS) (c : UInt8) (h : (m.text c).2 = 1) : (m.text c).1.top.place = 0 := by
  revert h
  unfold MS.text
  by_cases c1 : c = 0 ∨ c = 96
  · rw [if_pos c1]; intro h; cases h
  rw [if_neg c1]
  by_cases c2 : m.top.place = 0 ∧ (classOf c = 1 ∨ classOf c = 2 ∨ classOf c = 5)
  · rw [if_pos c2]; intro _; exact (flush_place _).trans c2.1
  rw [if_neg c2]
  repeat' split
  all_goals (intro h; cases h)
theorem next_end0 (m : MS) (c : UInt8) (hk : m.kind ≤ 14) (h : (m.next c).2 = 1) : (m.next c).1.top.place = 0 := by
  revert h
  have hb : ∀ y : MS, ¬ (y.behind c).2 = 1 := fun y => by unfold MS.behind; repeat' split
                                                          all_goals (intro h; cases h)
  have hp : ∀ y : MS, ¬ (y.parameter c).2 = 1 := fun y => by unfold MS.parameter; simp only; repeat' split
                                                             all_goals (intro h; cases h)
  unfold MS.next
  split
  · exact text_end0 m c
  · unfold MS.escaped; repeat' split
    all_goals (intro h; cases h)
  · unfold MS.dollar; simp only
    split
    · intro h; cases h
    split
    · intro h; cases h
    split
    · intro h; cases h
    split
    · intro h; cases h
    · exact text_end0 _ c
  · unfold MS.opened; split
    all_goals (intro h; cases h)
  · unfold MS.bare; simp only
    split
    · intro h; cases h
    · exact text_end0 _ c
  · unfold MS.head; split
    · intro h; cases h
    · exact fun h => absurd h (hp _)
  · unfold MS.hash; split
    · intro h; cases h
    · exact fun h => absurd h (hp _)
  · unfold MS.named; simp only; split
    · intro h; cases h
    · exact fun h => absurd h (hb _)
  · unfold MS.named; simp only; split
    · intro h; cases h
    · exact fun h => absurd h (hb _)
  · exact fun h => absurd h (hb _)
  · unfold MS.colon; split
    all_goals (intro h; cases h)
  · unfold MS.double; split
    · intro h; cases h
    · exact text_end0 _ c
  · unfold MS.single; repeat' split
    all_goals (intro h; cases h)
  · unfold MS.arith; repeat' split
    all_goals (intro h; cases h)
  · unfold MS.arithEnd; split
    all_goals (intro h; cases h)
  · rename_i e; omega
  · intro h; cases h
theorem feed_end0 {m : MS} (h : m.ok) (hk : m.kind ≤ 14) (c : UInt8) (h1 : (m.feed c).2 = 1) : (m.feed c).1.kind = 16 ∧ (m.feed c).1.lower = [] := by
  refine ⟨feed_ends h (by omega) c h1, lower_of0 (Good.feed (n := m.sz) ⟨h, by omega, Nat.le_refl _⟩ c).ok ?_⟩
  rw [feed_sig] at h1
  have h2 := next_end0 m c hk h1
  have : m.feed c = m.next c := MS.feed_no m c (by rw [h1]; decide)
  rw [this]; exact h2
/-- Where what is missing begins with a (, a ( would be the next byte. -/
theorem rest_head (m : MS) (hk : m.kind ≤ 14) (h : m.rest.head? = some 40) : m.kind = 3 := by
  have hcl : ∀ l : List Nat, (l.map cl).head? ≠ some 40 := fun l => by
    cases l with
    | nil => simp
    | cons a l => simp only [List.map_cons, List.head?_cons, ne_eq, Option.some.injEq]; unfold cl; split <;> decide
  unfold MS.rest at h
  rw [if_neg (by omega)] at h
  unfold MS.missing at h
  by_cases e3 : m.kind = 3
  · exact e3
  exfalso
  by_cases e1 : m.kind = 1
  · simp [e1] at h
  by_cases e12 : m.kind = 12
  · simp [e12] at h
  by_cases e13 : m.kind = 13
  · simp only [e13] at h
    cases hd : m.deep with
    | zero => simp [hd] at h
    | succ n => simp [hd, List.replicate_succ] at h
  by_cases e14 : m.kind = 14
  · simp [e14] at h
  by_cases e5 : m.kind = 5
  · simp [e5] at h
  by_cases e10 : m.kind = 10
  · simp [e10] at h
  by_cases e6 : m.kind = 6 ∨ m.kind = 7 ∨ m.kind = 8 ∨ m.kind = 9 ∨ m.kind = 11
  · simp [e1, e3, e12, e13, e14, e5, e10, e6] at h
  simp only [e1, e3, e12, e13, e14, e5, e10, e6, if_false, List.nil_append] at h
  exact hcl _ h
theorem wait_again (m : MS) : (m.turn 15).feed 97 = (m.turn 15, 3) := by
  have h1 : (m.turn 15).next 97 = (m.turn 15, 3) := next_d _ _ (.inl rfl)
  rw [MS.feed_no _ 97 (by rw [h1]; exact Nat.succ_ne_zero 2), h1]
section
variable {m : MS} (h3 : m.kind = 3)
include h3
theorem wait_feed : m.feed 97 = (m.turn 15, 2) := by
  have h1 : m.next 97 = (m.turn 15, 2) := by
    rw [next_3 m 97 h3]
    unfold MS.opened
    exact if_neg (by decide)
  rw [MS.feed_no m 97 (by rw [h1]; exact Nat.succ_ne_zero 1), h1]
theorem wait_rest : m.rest = [40, 48, 41, 41] ++ (m.turn 15).rest := by
  have h1 : m.missing = [40, 48, 41, 41] := by unfold MS.missing; simp [h3]
  have h2 : (m.turn 15).missing = [] := by
    have : (m.turn 15).kind = 15 := rfl
    unfold MS.missing
    simp [this]
  have hk : (m.turn 15).kind = 15 := rfl
  unfold MS.rest
  rw [if_neg (by omega), if_neg (by rw [hk]; decide), h1, h2]
  rfl
/-- The commands closed; arithmetic in their place. -/
theorem wait_twin (cv : Value) (hg : m.goes []) : m.goes [40, 48, 41, 41] ∧ Twin (((m.turn 15).add (.mk 6 [] [] [] cv)).turn 0) (m.run [40, 48, 41, 41]) := by
  have n1 : m.next 40 = (({ m with buf := [], deep := 0 } : MS).turn 13, 0) := by
    rw [next_3 m 40 h3]
    unfold MS.opened
    exact if_pos rfl
  have e1 := feed_of n1
  generalize hy : ({ ({ m with buf := [], deep := 0 } : MS).turn 13 with plain := (({ m with buf := [], deep := 0 } : MS).turn 13).plain ++ [40] } : MS) = y at e1
  have yk : y.kind = 13 := by rw [← hy]; rfl
  have yd : y.deep = 0 := by rw [← hy]; rfl
  have yl : Lev m y := by rw [← hy]; exact ⟨rfl, rfl⟩
  clear hy
  have n2 : y.next 48 = ({ y with buf := y.buf ++ [48] }, 0) := by
    rw [next_13 y 48 yk]
    unfold MS.arith
    rw [if_neg (by decide), if_neg (by rintro ⟨e, _⟩; revert e; decide), if_neg (by decide), if_neg (by decide)]
  have e2 := feed_of n2
  generalize hz : ({ ({ y with buf := y.buf ++ [48] } : MS) with plain := ({ y with buf := y.buf ++ [48] } : MS).plain ++ [48] } : MS) = z at e2
  have zk : z.kind = 13 := by rw [← hz]; exact yk
  have zd : z.deep = 0 := by rw [← hz]; exact yd
  have zl : Lev m z := by rw [← hz]; exact ⟨yl.lower, yl.top⟩
  clear hz
  have n3 : z.next 41 = (z.turn 14, 0) := by
    rw [next_13 z 41 zk]
    unfold MS.arith
    rw [if_neg (by decide), if_pos ⟨rfl, zd⟩]
  have e3 := feed_of n3
  generalize hu : ({ z.turn 14 with plain := (z.turn 14).plain ++ [41] } : MS) = u at e3
  have uk : u.kind = 14 := by rw [← hu]; rfl
  have ul : Lev m u := by rw [← hu]; exact ⟨zl.lower, zl.top⟩
  clear hu
  have n4 : u.next 41 = ((u.add (.leaf 7 u.buf)).turn 0, 0) := by
    rw [next_14 u 41 uk]
    unfold MS.arithEnd
    exact if_neg (by decide)
  have e4 := feed_of n4
  have hrun : m.run [40, 48, 41, 41] = (u.feed 41).1 := by simp only [MS.run, e1, e2, e3]
  refine ⟨⟨by rw [e1], ?_⟩, ?_⟩
  · rw [e1]; refine ⟨by rw [e2], ?_⟩; rw [e2]; refine ⟨by rw [e3], ?_⟩; rw [e3]; exact ⟨by rw [e4], trivial⟩
  · rw [hrun, e4]
    have hl : Lev (((m.turn 15).add (.mk 6 [] [] [] cv)).turn 0) ((u.add (.leaf 7 u.buf)).turn 0) := (Lev.add (m := m.turn 15) ⟨ul.lower, ul.top⟩ _ _).turn 0 0
    exact Twin.easy ⟨hl.lower, hl.top⟩ rfl plain0
end
theorem wait_cmds (m : MS) (cv : Value) (h0 : m.cmdsOf = []) : (((m.turn 15).add (.mk 6 [] [] [] cv)).turn 0).cmdsOf = [cv] := by
  rw [turn_cmds, add_cmds, turn_cmds, h0]
  simp [PT.cmdsOf, cmdsOfL]
theorem Good.closed {n : Nat} {m : MS} (h : Good n m) (cv : Value) : Good (n + 2) (((m.turn 15).add (.mk 6 [] [] [] cv)).turn 0) := by
  have h1 := add_sz (m.turn 15) (.mk 6 [] [] [] cv)
  have h2 := h.sz
  refine ⟨ok_same h.ok (by rw [turn_places, add_places, turn_places]), Nat.zero_le 17, ?_⟩
  rw [turn_sz]
  rw [turn_sz] at h1
  omega
end Go.Proofs.Ytpadnckmheippaa
