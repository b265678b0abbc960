/- Symbols of a grammar, and what is known of a rule. -/
import Derived.Test.YtdbmeocpjopdhaaG4
namespace Go.Proofs.Ytdbmeocpjopdhaa
open Go.RowKit
set_option linter.unusedVariables false
/-- What is to be known of a grammar's value. -/
theorem GrR.open_ {w : World} {v : Value} {g : Gm} (h : GrR w v g) : ∃ AT cT AN cN AR cR, v = .agg #[.slice AT g.T.length cT, .slice AN g.N.length cN, .slice AR g.R.length cR, .int .i64 g.s] ∧
    Arr StrV w (.slice AT g.T.length cT) g.T ∧ Arr StrV w (.slice AN g.N.length cN) g.N ∧ Rul w (.slice AR g.R.length cR) g.R := by
  obtain ⟨⟨vT, vN, vR, hv, h1, h2, h3⟩, hs⟩ := h
  obtain ⟨⟨AT, cT, rfl, hT⟩, sT⟩ := id h1
  obtain ⟨⟨AN, cN, rfl, hN⟩, sN⟩ := id h2
  obtain ⟨⟨AR, cR, rfl, hR⟩, sR⟩ := id h3
  exact ⟨AT, cT, AN, cN, AR, cR, hv, h1, h2, h3⟩
section
variable {w : World} {v : Value} {g : Gm}
theorem top_any (h : GrR w v g) : Calls Try.prog 33 #[v] w fun e w' => e = .returned (.int .i64 ((g.T.length : Int) + (g.N.length : Int))) ∧ Below w.heap.size w w' := by
  obtain ⟨AT, cT, AN, cN, AR, cR, rfl, hT, hN, hR⟩ := h.open_
  have h1 := h.small.2.2.1
  have h2 := h.small.2.2.2.1
  clear h hT hN hR
  go_enter Try.func33, Try.ntmps33
  go_wp2
  go_ret
  exact ⟨rfl, below_alloc _ _⟩
theorem term_any (h : GrR w v g) (s : Int) : Calls Try.prog 48 #[v, .int .i64 s] w (Says w (g.term s)) := by
  obtain ⟨AT, cT, AN, cN, AR, cR, rfl, hT, hN, hR⟩ := h.open_
  clear h hT hN hR
  unfold Gm.term
  generalize g.T.length = n
  generalize g.N.length = m
  go_enter Try.func48, Try.ntmps48
  go_wp2
  all_goals go_ret
  all_goals exact ⟨ret_bool (by rw [Bool.eq_iff_iff]; simp [*] <;> omega), below_alloc _ _⟩
theorem non_any (h : GrR w v g) (s : Int) : Calls Try.prog 28 #[v, .int .i64 s] w (Says w (g.non s)) := by
  have HT := Lib.hid (fun y (hy : Below w.heap.size w y) => top_any (h.later hy))
  obtain ⟨AT, cT, AN, cN, AR, cR, rfl, hT, hN, hR⟩ := h.open_
  clear h hT hN hR
  unfold Gm.non
  generalize g.T.length = n at *
  generalize g.N.length = m at *
  generalize g.R.length = r at *
  generalize g.s = gs at *
  by_cases hs : (n : Int) < s
  · rw [decide_eq_true hs, Bool.true_and]
    go_enter Try.func28, Try.ntmps28
    go_wp2_with (go_at_call 33; refine (HT.out _ (below_alloc _ _)).mono ?_; rintro e w' ⟨rfl, hb'⟩; have HB' := Lib.hid (below_alloc_trans hb'); clear hb')
    go_ret
    exact ⟨rfl, HB'.out⟩
  · rw [decide_eq_false hs, Bool.false_and]
    go_enter Try.func28, Try.ntmps28
    go_wp2
    go_ret
    exact ⟨rfl, below_alloc _ _⟩
end
/-- A grammar's own box. -/
structure GBox (y : World) (B : Nat) (v : Value) : Prop where
  lt : B < y.heap.size
  cell : ∀ j, j < 4 → y.cell? ⟨B, j, none⟩ = v.cells[j]?
theorem GBox.later {y y' : World} {B : Nat} {v : Value} (h : GBox y B v) (hb : Below y.heap.size y y') : GBox y' B v :=
  ⟨Nat.lt_of_lt_of_le h.lt hb.size, fun j hj => (hb.cell (p := ⟨B, j, none⟩) h.lt).trans (h.cell j hj)⟩
theorem GBox.new (w : World) (t : TypeId) (v : Value) : GBox (w.alloc (.cells v.cells t)) w.heap.size v := ⟨by simp, fun j _ => (Blk.new w t _).cell j⟩
theorem GBox.four {y : World} {B : Nat} {a b c d : Value} (h : GBox y B (.agg #[a, b, c, d])) : y.cell? ⟨B, 0, none⟩ = some a ∧ y.cell? ⟨B, 1, none⟩ = some b ∧ y.cell? ⟨B, 2, none⟩ = some c ∧ y.cell? ⟨B, 3, none⟩ = some d :=
  ⟨h.cell 0 (by omega), h.cell 1 (by omega), h.cell 2 (by omega), h.cell 3 (by omega)⟩
theorem knownq_any {w y : World} {B : Nat} {v : Value} {g : Gm} (h : GrR w v g) (s : Int) (hb : Below w.heap.size w y) (hc : GBox y B v) : Calls Try.prog 57 #[.int .i64 s, .pointer (some ⟨B, 0, none⟩)] y (Says y (g.sym s)) := by
  have HT := Lib.hid (fun z (hz : Below w.heap.size w z) => term_any (h.later hz) s)
  have HN := Lib.hid (fun z (hz : Below w.heap.size w z) => non_any (h.later hz) s)
  obtain ⟨AT, cT, AN, cN, AR, cR, rfl, hT, hN, hR⟩ := h.open_
  have HB := Lib.hid hb
  have HG := Lib.hid hc
  have hBy := hc.lt
  obtain ⟨c0, c1, c2, c3⟩ := hc.four
  clear h hT hN hR hb hc
  unfold Gm.sym
  generalize g.term s = a at *
  generalize g.non s = b at *
  go_enter Try.func57, Try.ntmps57
  go_wp2_with fail
  refine (HT.out _ HB.out).mono ?_
  rintro e w1 ⟨rfl, hb1⟩
  have HB1 := Lib.hid hb1
  cases a with
  | true =>
    clear hb1
    go_wp2
    go_ret
    exact ⟨rfl, HB1.out⟩
  | false =>
    obtain ⟨d0, d1, d2, d3⟩ := (HG.out.later hb1).four
    clear hb1 c0 c1 c2 c3
    go_wp2_with fail
    refine (HN.out _ (HB.out.trans (HB1.out.mono HB.out.size))).mono ?_
    rintro e w2 ⟨rfl, hb2⟩
    have HB2 := Lib.hid (HB1.out.trans (hb2.mono HB1.out.size))
    clear hb2
    go_wp2
    go_ret
    exact ⟨rfl, HB2.out⟩
theorem known_any {w : World} {v u : Value} {g : Gm} {r : Ru} (h : GrR w v g) (hr : RuR w u r) : Calls Try.prog 30 #[v, u] w (Says w (g.knownR r)) := by
  have HN := Lib.hid (fun z (hz : Below w.heap.size w z) => non_any (h.later hz) r.left)
  have HG := Lib.hid (GBox.new w 25 v)
  have HA : Hid (∀ z, Below w.heap.size w z → GBox z w.heap.size v → Calls Try.prog 56 #[r.v, .func (.func 57) #[] #[.pointer (some ⟨w.heap.size, 0, none⟩)]] z (Says z (r.right.all g.sym))) := Lib.hid (by
    intro z hz hgb
    exact allI_any (hr.right.later hz) g.sym 57 #[.pointer (some ⟨w.heap.size, 0, none⟩)] (fun _ _ => by kernel_rfl) (fun x hx y hy => knownq_any h x (hz.trans (hy.mono hz.size)) (hgb.later hy)))
  obtain ⟨AT, cT, AN, cN, AR, cR, rfl, hT, hN, hR⟩ := h.open_
  obtain ⟨rfl, hrr⟩ := hr
  unfold Gm.knownR RuV
  clear h hT hN hR hrr
  generalize r.right.all g.sym = b at *
  generalize r.left = rl at *
  generalize r.v = rv at *
  generalize g.non rl = a at *
  go_enter Try.func30, Try.ntmps30
  go_wp2_with fail
  refine (HN.out _ ((below_alloc w _).trans ((below_alloc _ _).mono (by simp)))).mono ?_
  rintro e w1 ⟨rfl, hb1⟩
  have HB1 := Lib.hid ((below_alloc w _).trans (((below_alloc _ _).trans (hb1.mono (by simp))).mono (by simp)))
  cases a with
  | false =>
    clear hb1
    go_wp2
    go_ret
    exact ⟨rfl, HB1.out⟩
  | true =>
    have HG1 := Lib.hid ((HG.out.later (below_alloc _ _)).later hb1)
    have e1 := (hb1.cell (p := ⟨w.heap.size + 1, 1, none⟩) (by simp)).trans (World.cell?_alloc_at _ _ _ _ (by simp))
    clear hb1
    go_wp2_with fail
    refine (HA.out _ HB1.out HG1.out).mono ?_
    rintro e w2 ⟨rfl, hb2⟩
    have HB2 := Lib.hid (HB1.out.trans (hb2.mono HB1.out.size))
    clear hb2
    go_wp2
    go_ret
    exact ⟨rfl, HB2.out⟩
end Go.Proofs.Ytdbmeocpjopdhaa
