/- The word machine over many bytes, plain. -/
import Derived.Test.YtpadnckmheippaaP1
namespace Go.Proofs.Ytpadnckmheippaa
open Go
set_option linter.unusedVariables false
/-- It is as it should be, and no greater than n. -/
structure Good (n : Nat) (m : MS) : Prop where
  ok : m.ok
  kind : m.kind ≤ 17
  sz : m.sz ≤ n
theorem Good.new : Good 0 ({} : MS) := ⟨⟨[], rfl, fun p hp => by cases hp⟩, by decide, by decide⟩
theorem Good.mono {n k : Nat} {m : MS} (h : Good n m) (hk : n ≤ k) : Good k m := ⟨h.ok, h.kind, by have := h.sz; omega⟩
theorem plain_sz (m : MS) (c : UInt8) : ({ m with plain := m.plain ++ [c] } : MS).sz = m.sz + 1 := by
  simp only [MS.sz, List.length_append, List.length_cons, List.length_nil]; omega
theorem Good.feed {n : Nat} {m : MS} (h : Good n m) (c : UInt8) : Good (n + 10) (m.feed c).1 := by
  have f := next_fine m h.ok h.kind c
  have hz := h.sz
  have fz := f.sz
  unfold MS.feed
  simp only
  split
  · exact ⟨ok_same (ok_of h.ok f.opens) rfl, f.k17, by rw [plain_sz]; omega⟩
  · exact ⟨ok_of h.ok f.opens, f.k17, by omega⟩
theorem feed_sig (m : MS) (c : UInt8) : (m.feed c).2 = (m.next c).2 := by
  unfold MS.feed
  simp only
  split
  · rename_i h; exact h.symm
  · rfl
theorem feed_live {m : MS} (h : m.ok) (hk : m.kind ≤ 17) (c : UInt8) (h0 : (m.feed c).2 = 0) : (m.feed c).1.kind ≤ 14 := by
  have f := next_fine m h hk c
  rw [feed_sig] at h0
  unfold MS.feed
  simp only [h0, if_true]
  exact f.live h0
theorem feed_ends {m : MS} (h : m.ok) (hk : m.kind ≤ 17) (c : UInt8) (h0 : (m.feed c).2 = 1) : (m.feed c).1.kind = 16 := by
  have f := next_fine m h hk c
  rw [feed_sig] at h0
  unfold MS.feed
  simp only [h0, show ¬ (1 = 0) by decide, if_false]
  exact f.ends h0
theorem feed_cut {m : MS} (h : m.ok) (hk : m.kind ≤ 17) (c : UInt8) : (m.feed c).1.kind = 11 → (m.feed c).1.cut = 37 ∨ (m.feed c).1.cut = 35 := by
  have f := next_fine m h hk c
  unfold MS.feed
  simp only
  split
  · exact f.cutk
  · exact f.cutk
/-- It takes all of these. -/
def MS.run (m : MS) : List UInt8 → MS
  | [] => m
  | c :: s => (m.feed c).1.run s
def MS.goes (m : MS) : List UInt8 → Prop
  | [] => True
  | c :: s => (m.feed c).2 = 0 ∧ (m.feed c).1.goes s
theorem mrun_app (m : MS) (a b : List UInt8) : m.run (a ++ b) = (m.run a).run b := by
  induction a generalizing m with
  | nil => rfl
  | cons c a ih => exact ih _
theorem goes_app (m : MS) (a b : List UInt8) : m.goes (a ++ b) ↔ m.goes a ∧ (m.run a).goes b := by
  induction a generalizing m with
  | nil => simp [MS.goes, MS.run]
  | cons c a ih => simp only [List.cons_append, MS.goes, MS.run, ih, and_assoc]
theorem Good.run {n : Nat} {m : MS} (h : Good n m) (l : List UInt8) : Good (n + 10 * l.length) (m.run l) := by
  induction l generalizing n m with
  | nil => exact h
  | cons c l ih => exact (ih (h.feed c)).mono (by simp; omega)
theorem goes_live {m : MS} (h : m.ok) (hk : m.kind ≤ 14) (l : List UInt8) (hg : m.goes l) : (m.run l).kind ≤ 14 := by
  induction l generalizing m with
  | nil => exact hk
  | cons c l ih =>
    have h1 := (Good.feed (n := m.sz) ⟨h, by omega, Nat.le_refl _⟩ c).ok
    exact ih h1 (feed_live h (by omega) c hg.1) hg.2
theorem run_cut {m : MS} (h : m.ok) (hk : m.kind ≤ 17) (h0 : m.kind ≠ 11) (l : List UInt8) : (m.run l).kind = 11 → (m.run l).cut = 37 ∨ (m.run l).cut = 35 := by
  rcases List.eq_nil_or_concat l with e | ⟨a, c, e⟩
  · subst e
    exact fun e => absurd e h0
  · rw [List.concat_eq_append] at e
    subst e
    rw [mrun_app]
    have g := Good.run (n := m.sz) ⟨h, hk, Nat.le_refl _⟩ a
    exact feed_cut g.ok g.kind c
/-- Up to the first other signal: how many are taken, and the signal. -/
def MS.fed (m : MS) : List UInt8 → MS × Nat × Nat
  | [] => (m, 0, 0)
  | c :: s => if (m.feed c).2 = 0 then ((m.feed c).1.fed s |>.1, ((m.feed c).1.fed s).2.1 + 1, ((m.feed c).1.fed s).2.2) else ((m.feed c).1, 0, (m.feed c).2)
theorem fed_goes (m : MS) (a b : List UInt8) (h : m.goes a) : m.fed (a ++ b) = (((m.run a).fed b).1, a.length + ((m.run a).fed b).2.1, ((m.run a).fed b).2.2) := by
  induction a generalizing m with
  | nil => simp [MS.run]
  | cons c a ih =>
    simp only [List.cons_append, MS.fed, h.1, if_true, MS.run, ih _ h.2, List.length_cons]
    congr 2
    omega
theorem fed_stop (m : MS) (c : UInt8) (b : List UInt8) (h : (m.feed c).2 ≠ 0) : m.fed (c :: b) = ((m.feed c).1, 0, (m.feed c).2) := by
  simp only [MS.fed, h, if_false]
theorem fed_all (m : MS) (a : List UInt8) (h : m.goes a) : m.fed a = (m.run a, a.length, 0) := by
  have := fed_goes m a [] h
  simpa [MS.fed] using this
/-- What was fed went, if the signal says so. -/
theorem goes_of_fed (m : MS) (a : List UInt8) (h : (m.fed a).2.2 = 0) : m.goes a := by
  induction a generalizing m with
  | nil => trivial
  | cons c a ih =>
    by_cases h0 : (m.feed c).2 = 0
    · refine ⟨h0, ih _ ?_⟩
      simpa only [MS.fed, h0, if_true] using h
    · exfalso
      simp only [MS.fed, h0, if_false] at h
end Go.Proofs.Ytpadnckmheippaa
