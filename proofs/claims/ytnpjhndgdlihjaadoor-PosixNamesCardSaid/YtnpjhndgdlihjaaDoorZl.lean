/- IndexFunc, ContainsFunc, all: of rows of texts, numbers, rules. Symbols of a grammar, and what is known of a rule. What Check asks of each name and each rule. No two rules are the same: the program's. A symbol's name: the program's. Symbols and rules: the document's. -/
import Derived.Test.YtnpjhndgdlihjaaDoorZb
import Derived.Shelf.Abstract
import Derived.Deep.RegionWith
import Derived.BigQuiet
import Derived.Deep.QuietTactic
import Derived.Deep.RegionHeld3
namespace Go.Proofs.YtnpjhndgdlihjaaDoor
open Go.RowKit
set_option linter.unusedVariables false
theorem not_so {α : Type} {p : α → Bool} {l : List α} {k : Nat} {x : α} (hx : l[k]? = some x) (hp : p x = false) (hA : ∀ j y, j < k → l[j]? = some y → p y = false) : ∀ j y, j < k + 1 → l[j]? = some y → p y = false := by
  intro j y hj hy
  by_cases e : j = k
  · subst e
    rw [hx] at hy
    cases hy
    exact hp
  · exact hA j y (by omega) hy
theorem says_bool {w w' : World} {a b : Bool} {e : Ending} (h : Says w a e w') (hab : a = b) : Says w b e w' := hab ▸ h
end Go.Proofs.YtnpjhndgdlihjaaDoor

namespace Go.Proofs.YtnpjhndgdlihjaaDoor
open Go.RowKit
set_option linter.unusedVariables false
/-- What is to be known of a grammar's value. -/
theorem GrR.open_ {w : World} {v : Value} {g : Gm} (h : GrR w v g) : ∃ AT cT AN cN AR cR, v = .agg #[.slice AT g.T.length cT, .slice AN g.N.length cN, .slice AR g.R.length cR, .int .i64 g.s] ∧
    Arr StrV w (.slice AT g.T.length cT) g.T ∧ Arr StrV w (.slice AN g.N.length cN) g.N ∧ Rul w (.slice AR g.R.length cR) g.R := by
  obtain ⟨⟨vT, vN, vR, hv, h1, h2, h3⟩, hs⟩ := h
  obtain ⟨⟨AT, cT, rfl, hT⟩, sT⟩ := id h1
  obtain ⟨⟨AN, cN, rfl, hN⟩, sN⟩ := id h2
  obtain ⟨⟨AR, cR, rfl, hR⟩, sR⟩ := id h3
  exact ⟨AT, cT, AN, cN, AR, cR, hv, h1, h2, h3⟩
section
variable {w : World} {v : Value} {g : Gm}
theorem top_any (h : GrR w v g) : Calls Tryd.prog 48 #[v] w fun e w' => e = .returned (.int .i64 ((g.T.length : Int) + (g.N.length : Int))) ∧ Below w.heap.size w w' := by
  obtain ⟨AT, cT, AN, cN, AR, cR, rfl, hT, hN, hR⟩ := h.open_
  have h1 := h.small.2.2.1
  have h2 := h.small.2.2.2.1
  clear h hT hN hR
  go_enter Tryd.func48, Tryd.ntmps48
  go_wp2
  go_ret
  exact ⟨rfl, below_alloc _ _⟩
theorem term_any (h : GrR w v g) (s : Int) : Calls Tryd.prog 32 #[v, .int .i64 s] w (Says w (g.term s)) := by
  obtain ⟨AT, cT, AN, cN, AR, cR, rfl, hT, hN, hR⟩ := h.open_
  clear h hT hN hR
  unfold Gm.term
  generalize g.T.length = n
  generalize g.N.length = m
  go_enter Tryd.func32, Tryd.ntmps32
  go_wp2
  all_goals go_ret
  all_goals exact ⟨ret_bool (by rw [Bool.eq_iff_iff]; simp [*] <;> omega), below_alloc _ _⟩
theorem non_any (h : GrR w v g) (s : Int) : Calls Tryd.prog 33 #[v, .int .i64 s] w (Says w (g.non s)) := by
  have HT := Lib.hid (fun y (hy : Below w.heap.size w y) => top_any (h.later hy))
  obtain ⟨AT, cT, AN, cN, AR, cR, rfl, hT, hN, hR⟩ := h.open_
  clear h hT hN hR
  unfold Gm.non
  generalize g.T.length = n at *
  generalize g.N.length = m at *
  generalize g.R.length = r at *
  generalize g.s = gs at *
  by_cases hs : (n : Int) < s
  · rw [decide_eq_true hs, Bool.true_and]
    go_enter Tryd.func33, Tryd.ntmps33
    go_wp2_with (go_at_call 48; refine (HT.out _ (below_alloc _ _)).mono ?_; rintro e w' ⟨rfl, hb'⟩; have HB' := Lib.hid (below_alloc_trans hb'); clear hb')
    go_ret
    exact ⟨rfl, HB'.out⟩
  · rw [decide_eq_false hs, Bool.false_and]
    go_enter Tryd.func33, Tryd.ntmps33
    go_wp2
    go_ret
    exact ⟨rfl, below_alloc _ _⟩
end
/-- A grammar's own box. -/
structure GBox (y : World) (B : Nat) (v : Value) : Prop where
  lt : B < y.heap.size
  cell : ∀ j, j < 4 → y.cell? ⟨B, j, none⟩ = v.cells[j]?
theorem GBox.later {y y' : World} {B : Nat} {v : Value} (h : GBox y B v) (hb : Below y.heap.size y y') : GBox y' B v :=
  ⟨Nat.lt_of_lt_of_le h.lt hb.size, fun j hj => (hb.cell (p := ⟨B, j, none⟩) h.lt).trans (h.cell j hj)⟩
theorem GBox.new (w : World) (t : TypeId) (v : Value) : GBox (w.alloc (.cells v.cells t)) w.heap.size v := ⟨by simp, fun j _ => (Blk.new w t _).cell j⟩
theorem GBox.four {y : World} {B : Nat} {a b c d : Value} (h : GBox y B (.agg #[a, b, c, d])) : y.cell? ⟨B, 0, none⟩ = some a ∧ y.cell? ⟨B, 1, none⟩ = some b ∧ y.cell? ⟨B, 2, none⟩ = some c ∧ y.cell? ⟨B, 3, none⟩ = some d :=
  ⟨h.cell 0 (by omega), h.cell 1 (by omega), h.cell 2 (by omega), h.cell 3 (by omega)⟩
end Go.Proofs.YtnpjhndgdlihjaaDoor

namespace Go.Proofs.YtnpjhndgdlihjaaDoor
open Go.RowKit
set_option linter.unusedVariables false
theorem below_draws {B : Nat} {w w' : World} (h : Below B w w') (n : Nat) : Below B w (w'.drewN n) := ⟨h.os, h.tape, h.output, h.size, h.block⟩
/-- Two lists are one up to k. -/
def EqTo (a b : List Int) (k : Nat) : Prop := ∀ j x y, j < k → a[j]? = some x → b[j]? = some y → x = y
theorem EqTo.next {a b : List Int} {k : Nat} {x y : Int} (h : EqTo a b k) (hx : a[k]? = some x) (hy : b[k]? = some y) (he : x = y) : EqTo a b (k + 1) := by
  intro j x' y' hj h1 h2
  by_cases e : j = k
  · subst e
    rw [hx] at h1; rw [hy] at h2; cases h1; cases h2; exact he
  · exact h j x' y' (by omega) h1 h2
theorem EqTo.all {a b : List Int} (hl : a.length = b.length) (h : EqTo a b a.length) : (a == b) = true := by
  rw [beq_iff_eq]
  apply List.ext_getElem? 
  intro j
  by_cases hj : j < a.length
  · rw [List.getElem?_eq_getElem hj, List.getElem?_eq_getElem (by omega)]
    rw [h j _ _ hj (List.getElem?_eq_getElem hj) (List.getElem?_eq_getElem (by omega))]
  · rw [List.getElem?_eq_none (by omega), List.getElem?_eq_none (by omega)]
theorem ne_at {a b : List Int} {k : Nat} {x y : Int} (hx : a[k]? = some x) (hy : b[k]? = some y) (hn : ¬ x = y) : (a == b) = false := by
  rw [beq_eq_false_iff_ne]
  rintro rfl
  rw [hx] at hy
  cases hy
  exact hn rfl
end Go.Proofs.YtnpjhndgdlihjaaDoor

namespace Go.Proofs.YtnpjhndgdlihjaaDoor
open Go.RowKit
set_option linter.unusedVariables false
theorem below_drew {B : Nat} {w w' : World} (h : Below B w w') : Below B w w'.drew := ⟨h.os, h.tape, h.output, h.size, h.block⟩
end Go.Proofs.YtnpjhndgdlihjaaDoor

namespace Go.Proofs.YtnpjhndgdlihjaaDoor
open Go.RowKit
set_option linter.unusedVariables false
def Text (w : World) (s : ByteArray) (e : Ending) (w' : World) : Prop := e = .returned (.string s) ∧ Below w.heap.size w w'
theorem name_term {g : Gm} {s : Int} (h : g.term s = true) : 1 ≤ s ∧ ∃ k : Nat, s = (k : Int) + 1 ∧ k < g.T.length ∧ ∃ x, g.T[k]? = some x ∧ g.name s = x := by
  unfold Gm.term at h
  rw [Bool.and_eq_true, decide_eq_true_eq, decide_eq_true_eq] at h
  refine ⟨h.1, (s - 1).toNat, by omega, by omega, g.T[(s - 1).toNat]'(by omega), List.getElem?_eq_getElem _, ?_⟩
  unfold Gm.name
  rw [if_neg (by omega), if_neg (by omega), List.getD_eq_getElem?_getD, List.getElem?_append_left (by omega), List.getElem?_eq_getElem (by omega)]
  rfl
theorem name_non {g : Gm} {s : Int} (h : g.non s = true) : ∃ k : Nat, s = (g.T.length : Int) + k + 1 ∧ k < g.N.length ∧ ∃ x, g.N[k]? = some x ∧ g.name s = x := by
  unfold Gm.non at h
  rw [Bool.and_eq_true, decide_eq_true_eq, decide_eq_true_eq] at h
  refine ⟨(s - 1 - g.T.length).toNat, by omega, by omega, g.N[(s - 1 - g.T.length).toNat]'(by omega), List.getElem?_eq_getElem _, ?_⟩
  unfold Gm.name
  have e : (s - 1).toNat = g.T.length + (s - 1 - g.T.length).toNat := by omega
  rw [if_neg (by omega), if_neg (by omega), List.getD_eq_getElem?_getD, List.getElem?_append_right (by omega), e, Nat.add_sub_cancel_left, List.getElem?_eq_getElem (by omega)]
  rfl
theorem name_else {g : Gm} {s : Int} (h0 : s ≠ 0) (h1 : g.term s = false) (h2 : g.non s = false) : g.name s = ⟨#[]⟩ := by
  unfold Gm.term at h1
  unfold Gm.non at h2
  rw [Bool.and_eq_false_iff, decide_eq_false_iff_not, decide_eq_false_iff_not] at h1 h2
  unfold Gm.name
  rw [if_neg h0, if_pos (by omega)]
theorem name_zero (g : Gm) : g.name 0 = ⟨#[36]⟩ := by unfold Gm.name; rw [if_pos rfl]
set_option maxRecDepth 100000 in
set_option maxHeartbeats 1600000 in
theorem gname_any {w : World} {v : Value} {g : Gm} (h : GrR w v g) (s : Int) (hs : -9223372036854775808 ≤ s) : Calls Tryd.prog 19 #[v, .int .i64 s] w (Text w (g.name s)) := by
  have hT20 := h.small.2.2.1
  have hN20 := h.small.2.2.2.1
  have HTM := Lib.hid (fun y (hy : Below w.heap.size w y) => term_any (h.later hy) s)
  have HNM := Lib.hid (fun y (hy : Below w.heap.size w y) => non_any (h.later hy) s)
  have HG := Lib.hid (GBox.new w 30 v)
  obtain ⟨AT, cT, AN, cN, AR, cR, rfl, hT, hN, hR⟩ := h.open_
  obtain ⟨⟨A1, c1, e1, hc1⟩, _⟩ := hT
  cases e1
  obtain ⟨⟨A2, c2, e2, hc2⟩, _⟩ := hN
  cases e2
  have HC1 := Lib.hid hc1
  have HC2 := Lib.hid hc2
  have HN1 := Lib.hid (@name_term g s)
  have HN2 := Lib.hid (@name_non g s)
  have HN3 := Lib.hid (@name_else g s)
  clear h hR hc1 hc2
  by_cases h0 : s = 0
  · subst h0
    rw [name_zero]
    clear HN1 HN2 HN3 HTM HNM
    generalize g.T.length = nT at *
    generalize g.N.length = nN at *
    go_enter Tryd.func19, Tryd.ntmps19
    go_wp2
    go_ret
    exact ⟨rfl, below_alloc _ _⟩
  have hs0 : (s == 0) = false := by simpa using h0
  cases ht : g.term s with
  | true =>
    rw [ht] at HTM
    obtain ⟨hp, k, hk, hlt, x, hx, hnm⟩ := HN1.out ht
    rw [hnm]
    obtain ⟨b, off, hA, hlt0, hcell⟩ := HC1.out k x hx
    subst hA
    simp only [StrV] at hcell
    clear HN1 HN2 HN3 HNM ht hx hnm
    generalize g.T.length = nT at *
    generalize g.N.length = nN at *
    generalize g.R.length = nR at *
    have hsub : s - 1 = (k : Int) := by omega
    clear hk hp
    go_enter Tryd.func19, Tryd.ntmps19
    go_wp2_with fail
    refine (HTM.out _ (below_alloc w _)).mono ?_
    rintro e w1 ⟨rfl, hb1⟩
    have HB1 := Lib.hid (below_alloc_trans hb1)
    obtain ⟨d0, d1, d2, d3⟩ := (HG.out.later hb1).four
    have e1 := (HB1.out.cell (p := ⟨b, off + k, none⟩) hlt0).trans hcell
    clear hb1 hcell
    go_wp2
    go_ret
    exact ⟨rfl, HB1.out⟩
  | false =>
    rw [ht] at HTM
    cases hn : g.non s with
    | true =>
      rw [hn] at HNM
      obtain ⟨k, hk, hlt, x, hx, hnm⟩ := HN2.out hn
      rw [hnm]
      obtain ⟨b, off, hA, hlt0, hcell⟩ := HC2.out k x hx
      subst hA
      simp only [StrV] at hcell
      clear HN1 HN2 HN3 ht hn hx hnm
      generalize g.T.length = nT at *
      generalize g.N.length = nN at *
      generalize g.R.length = nR at *
      have hsub : s - 1 - (nT : Int) = (k : Int) := by omega
      clear hk
      go_enter Tryd.func19, Tryd.ntmps19
      go_wp2_with fail
      refine (HTM.out _ (below_alloc w _)).mono ?_
      rintro e w1 ⟨rfl, hb1⟩
      have HB1 := Lib.hid (below_alloc_trans hb1)
      have HG1 := Lib.hid (HG.out.later hb1)
      obtain ⟨d0, d1, d2, d3⟩ := HG1.out.four
      clear hb1
      go_wp2_with fail
      refine (HNM.out _ HB1.out).mono ?_
      rintro e w2 ⟨rfl, hb2⟩
      have HB2 := Lib.hid (HB1.out.trans (hb2.mono HB1.out.size))
      clear d0 d1 d2 d3
      obtain ⟨d0, d1, d2, d3⟩ := (HG1.out.later hb2).four
      have e1 := (HB2.out.cell (p := ⟨b, off + k, none⟩) hlt0).trans hcell
      clear hb2 hcell
      go_wp2
      go_ret
      exact ⟨rfl, HB2.out⟩
    | false =>
      rw [hn] at HNM
      rw [HN3.out h0 ht hn]
      clear HN1 HN2 HN3 ht hn
      generalize g.T.length = nT at *
      generalize g.N.length = nN at *
      generalize g.R.length = nR at *
      go_enter Tryd.func19, Tryd.ntmps19
      go_wp2_with fail
      refine (HTM.out _ (below_alloc w _)).mono ?_
      rintro e w1 ⟨rfl, hb1⟩
      have HB1 := Lib.hid (below_alloc_trans hb1)
      have HG1 := Lib.hid (HG.out.later hb1)
      obtain ⟨d0, d1, d2, d3⟩ := HG1.out.four
      clear hb1
      go_wp2_with fail
      refine (HNM.out _ HB1.out).mono ?_
      rintro e w2 ⟨rfl, hb2⟩
      have HB2 := Lib.hid (HB1.out.trans (hb2.mono HB1.out.size))
      clear d0 d1 d2 d3 hb2
      go_wp2
      go_ret
      exact ⟨rfl, HB2.out⟩
end Go.Proofs.YtnpjhndgdlihjaaDoor

namespace Go.Proofs.YtnpjhndgdlihjaaDoor
open Go.RowKit
set_option linter.unusedVariables false
section
variable {w : World} {v : Value} {g : Gm}
theorem rtop_any (h : GrR w v g) : Calls Tryd.prog 30 #[v] w fun e w' => e = .returned (.int .i64 ((g.T.length : Int) + (g.N.length : Int))) ∧ Below w.heap.size w w' := by
  obtain ⟨AT, cT, AN, cN, AR, cR, rfl, hT, hN, hR⟩ := h.open_
  have h1 := h.small.2.2.1
  have h2 := h.small.2.2.2.1
  clear h hT hN hR
  go_enter Tryd.func30, Tryd.ntmps30
  go_wp2
  go_ret
  exact ⟨rfl, below_alloc _ _⟩
end
set_option maxRecDepth 100000 in
set_option maxHeartbeats 1600000 in
theorem rints_any {w : World} {u v : Value} {a b : List Int} (ha : Arr IntV w u a) (hb : Arr IntV w v b) : Calls Tryd.prog 47 #[u, v] w (Says w (a == b)) := by
  obtain ⟨⟨A, c, rfl, hca⟩, hsa⟩ := ha
  obtain ⟨⟨B, d, rfl, hcb⟩, hsb⟩ := hb
  have HCA := Lib.hid hca
  have HCB := Lib.hid hcb
  clear hca hcb
  by_cases hl : a.length = b.length
  · rw [← hl]
    have HL := Lib.hid hl
    clear hl hsb
    go_enter Tryd.func47, Tryd.ntmps47
    go_wp2
    go_loopw [5] (fun i wr => ∃ k : Nat, k ≤ a.length ∧ i = .int .i64 k ∧ Hid (EqTo a b k) ∧ Hid (∃ q, wr = w.drewN q)) (fun i _ => a.length - (intOf i).toNat)
    case atStart => exact ⟨0, Nat.zero_le _, rfl, Lib.hid (fun j x y hj => absurd hj (Nat.not_lt_zero _)), Lib.hid ⟨0, rfl⟩⟩
    case round =>
      obtain ⟨k, hk, rfl, HE, HD⟩ := hrel
      by_cases hlt : k < a.length
      · have hx := List.getElem?_eq_getElem hlt
        have hy := List.getElem?_eq_getElem (show k < b.length by have := HL.out; omega)
        generalize a[k] = x at hx
        generalize b[k]'(by have := HL.out; omega) = y at hy
        obtain ⟨b1, off1, rfl, hlt1, hcell1⟩ := HCA.out k x hx
        obtain ⟨b2, off2, rfl, hlt2, hcell2⟩ := HCB.out k y hy
        have HX := Lib.hid hx
        have HY := Lib.hid hy
        have e1 : wr.cell? ⟨b1, off1 + k, none⟩ = some (.int .i64 x) := by obtain ⟨q, rfl⟩ := HD.out; exact hcell1
        have e2 : wr.cell? ⟨b2, off2 + k, none⟩ = some (.int .i64 y) := by obtain ⟨q, rfl⟩ := HD.out; exact hcell2
        clear hx hy hcell1 hcell2
        by_cases hxy : x = y
        · have HN := Lib.hid (HE.out.next HX.out HY.out hxy)
          have hb : (x != y) = false := by simp [hxy]
          clear hxy
          go_wp2
          go_quiet (fail)
          have HDD : Hid (∃ q, wr.drewN nq = w.drewN q) := Lib.hid (by
            obtain ⟨q, hq⟩ := HD.out
            exact ⟨q + nq, by rw [hq, World.drewN_drewN]⟩)
          go_wp2
          go_roundw
          case rel => exact ⟨k + 1, by omega, by go_num, HN, HDD⟩
          case measure => simp [intOf]; omega
        · have HN := Lib.hid (ne_at HX.out HY.out hxy)
          have hb : (x != y) = true := by simp [hxy]
          clear hxy
          go_wp2
          go_quiet (fail)
          go_wp2
          go_ret
          refine ⟨ret_bool HN.out.symm, ?_⟩
          obtain ⟨q, rfl⟩ := HD.out
          exact below_draws (below_draws (Below.refl _ w) _) _
      · obtain rfl : k = a.length := by omega
        have HN := Lib.hid (HE.out.all HL.out)
        go_wp2
        go_ret
        refine ⟨ret_bool HN.out.symm, ?_⟩
        obtain ⟨q, rfl⟩ := HD.out
        exact below_draws (Below.refl _ w) _
  · have hb : (a == b) = false := by
      rw [beq_eq_false_iff_ne]; rintro rfl; exact hl rfl
    rw [hb]
    have hl2 : ¬ (a.length : Int) = (b.length : Int) := by omega
    clear hl hb
    go_enter Tryd.func47, Tryd.ntmps47
    go_wp2
    go_ret
    exact ⟨rfl, Below.refl _ w⟩
theorem rsame_any {w : World} {a b : Ru} (ha : Arr IntV w a.v a.right) (hb : Arr IntV w b.v b.right) : Calls Tryd.prog 28 #[RuV a, RuV b] w (Says w (sameR a b)) := by
  have HE := Lib.hid (fun z (hz : Below w.heap.size w z) => rints_any (ha.later hz) (hb.later hz))
  clear ha hb
  unfold sameR RuV
  generalize (a.right == b.right) = q at *
  generalize a.v = av at *
  generalize b.v = bv at *
  generalize a.left = al at *
  generalize b.left = bl at *
  by_cases h : al = bl
  · have h1 : (al == bl) = true := by simp [h]
    rw [h1, Bool.true_and]
    clear h
    go_enter Tryd.func28, Tryd.ntmps28
    go_wp2_with fail
    refine (HE.out _ ((below_alloc w _).trans ((below_alloc _ _).mono (by simp)))).mono ?_
    rintro e w1 ⟨rfl, hb1⟩
    have HB1 := Lib.hid ((below_alloc w _).trans (((below_alloc _ _).trans (hb1.mono (by simp))).mono (by simp)))
    clear hb1
    go_wp2
    go_ret
    exact ⟨rfl, HB1.out⟩
  · have h1 : (al == bl) = false := by simp [h]
    rw [h1, Bool.false_and]
    clear h
    go_enter Tryd.func28, Tryd.ntmps28
    go_wp2
    go_ret
    exact ⟨rfl, ((below_alloc w _).trans ((below_alloc _ _).mono (by simp)))⟩
end Go.Proofs.YtnpjhndgdlihjaaDoor
