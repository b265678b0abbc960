/- A symbol's name: the program's. -/
import Derived.Test.YtdbmeocpjopdhaaG13
namespace Go.Proofs.Ytdbmeocpjopdhaa
open Go.RowKit
set_option linter.unusedVariables false
def Text (w : World) (s : ByteArray) (e : Ending) (w' : World) : Prop := e = .returned (.string s) ∧ Below w.heap.size w w'
theorem name_term {g : Gm} {s : Int} (h : g.term s = true) : 1 ≤ s ∧ ∃ k : Nat, s = (k : Int) + 1 ∧ k < g.T.length ∧ ∃ x, g.T[k]? = some x ∧ g.name s = x := by
  unfold Gm.term at h
  rw [Bool.and_eq_true, decide_eq_true_eq, decide_eq_true_eq] at h
  refine ⟨h.1, (s - 1).toNat, by omega, by omega, g.T[(s - 1).toNat]'(by omega), List.getElem?_eq_getElem _, ?_⟩
  unfold Gm.name
  rw [if_neg (by omega), if_neg (by omega), List.getD_eq_getElem?_getD, List.getElem?_append_left (by omega), List.getElem?_eq_getElem (by omega)]
  rfl
theorem name_non {g : Gm} {s : Int} (h : g.non s = true) : ∃ k : Nat, s = (g.T.length : Int) + k + 1 ∧ k < g.N.length ∧ ∃ x, g.N[k]? = some x ∧ g.name s = x := by
  unfold Gm.non at h
  rw [Bool.and_eq_true, decide_eq_true_eq, decide_eq_true_eq] at h
  refine ⟨(s - 1 - g.T.length).toNat, by omega, by omega, g.N[(s - 1 - g.T.length).toNat]'(by omega), List.getElem?_eq_getElem _, ?_⟩
  unfold Gm.name
  have e : (s - 1).toNat = g.T.length + (s - 1 - g.T.length).toNat := by omega
  rw [if_neg (by omega), if_neg (by omega), List.getD_eq_getElem?_getD, List.getElem?_append_right (by omega), e, Nat.add_sub_cancel_left, List.getElem?_eq_getElem (by omega)]
  rfl
theorem name_else {g : Gm} {s : Int} (h0 : s ≠ 0) (h1 : g.term s = false) (h2 : g.non s = false) : g.name s = ⟨#[]⟩ := by
  unfold Gm.term at h1
  unfold Gm.non at h2
  rw [Bool.and_eq_false_iff, decide_eq_false_iff_not, decide_eq_false_iff_not] at h1 h2
  unfold Gm.name
  rw [if_neg h0, if_pos (by omega)]
theorem name_zero (g : Gm) : g.name 0 = ⟨#[36]⟩ := by unfold Gm.name; rw [if_pos rfl]
set_option maxRecDepth 100000 in
set_option maxHeartbeats 1600000 in
theorem gname_any {w : World} {v : Value} {g : Gm} (h : GrR w v g) (s : Int) (hs : -9223372036854775808 ≤ s) : Calls Try.prog 20 #[v, .int .i64 s] w (Text w (g.name s)) := by
  have hT20 := h.small.2.2.1
  have hN20 := h.small.2.2.2.1
  have HTM := Lib.hid (fun y (hy : Below w.heap.size w y) => term_any (h.later hy) s)
  have HNM := Lib.hid (fun y (hy : Below w.heap.size w y) => non_any (h.later hy) s)
  have HG := Lib.hid (GBox.new w 25 v)
  obtain ⟨AT, cT, AN, cN, AR, cR, rfl, hT, hN, hR⟩ := h.open_
  obtain ⟨⟨A1, c1, e1, hc1⟩, _⟩ := hT
  cases e1
  obtain ⟨⟨A2, c2, e2, hc2⟩, _⟩ := hN
  cases e2
  have HC1 := Lib.hid hc1
  have HC2 := Lib.hid hc2
  have HN1 := Lib.hid (@name_term g s)
  have HN2 := Lib.hid (@name_non g s)
  have HN3 := Lib.hid (@name_else g s)
  clear h hR hc1 hc2
  by_cases h0 : s = 0
  · subst h0
    rw [name_zero]
    clear HN1 HN2 HN3 HTM HNM
    generalize g.T.length = nT at *
    generalize g.N.length = nN at *
    go_enter Try.func20, Try.ntmps20
    go_wp2
    go_ret
    exact ⟨rfl, below_alloc _ _⟩
  have hs0 : (s == 0) = false := by simpa using h0
  cases ht : g.term s with
  | true =>
    rw [ht] at HTM
    obtain ⟨hp, k, hk, hlt, x, hx, hnm⟩ := HN1.out ht
    rw [hnm]
    obtain ⟨b, off, hA, hlt0, hcell⟩ := HC1.out k x hx
    subst hA
    simp only [StrV] at hcell
    clear HN1 HN2 HN3 HNM ht hx hnm
    generalize g.T.length = nT at *
    generalize g.N.length = nN at *
    generalize g.R.length = nR at *
    have hsub : s - 1 = (k : Int) := by omega
    clear hk hp
    go_enter Try.func20, Try.ntmps20
    go_wp2_with fail
    refine (HTM.out _ (below_alloc w _)).mono ?_
    rintro e w1 ⟨rfl, hb1⟩
    have HB1 := Lib.hid (below_alloc_trans hb1)
    obtain ⟨d0, d1, d2, d3⟩ := (HG.out.later hb1).four
    have e1 := (HB1.out.cell (p := ⟨b, off + k, none⟩) hlt0).trans hcell
    clear hb1 hcell
    go_wp2
    go_ret
    exact ⟨rfl, HB1.out⟩
  | false =>
    rw [ht] at HTM
    cases hn : g.non s with
    | true =>
      rw [hn] at HNM
      obtain ⟨k, hk, hlt, x, hx, hnm⟩ := HN2.out hn
      rw [hnm]
      obtain ⟨b, off, hA, hlt0, hcell⟩ := HC2.out k x hx
      subst hA
      simp only [StrV] at hcell
      clear HN1 HN2 HN3 ht hn hx hnm
      generalize g.T.length = nT at *
      generalize g.N.length = nN at *
      generalize g.R.length = nR at *
      have hsub : s - 1 - (nT : Int) = (k : Int) := by omega
      clear hk
      go_enter Try.func20, Try.ntmps20
      go_wp2_with fail
      refine (HTM.out _ (below_alloc w _)).mono ?_
      rintro e w1 ⟨rfl, hb1⟩
      have HB1 := Lib.hid (below_alloc_trans hb1)
      have HG1 := Lib.hid (HG.out.later hb1)
      obtain ⟨d0, d1, d2, d3⟩ := HG1.out.four
      clear hb1
      go_wp2_with fail
      refine (HNM.out _ HB1.out).mono ?_
      rintro e w2 ⟨rfl, hb2⟩
      have HB2 := Lib.hid (HB1.out.trans (hb2.mono HB1.out.size))
      clear d0 d1 d2 d3
      obtain ⟨d0, d1, d2, d3⟩ := (HG1.out.later hb2).four
      have e1 := (HB2.out.cell (p := ⟨b, off + k, none⟩) hlt0).trans hcell
      clear hb2 hcell
      go_wp2
      go_ret
      exact ⟨rfl, HB2.out⟩
    | false =>
      rw [hn] at HNM
      rw [HN3.out h0 ht hn]
      clear HN1 HN2 HN3 ht hn
      generalize g.T.length = nT at *
      generalize g.N.length = nN at *
      generalize g.R.length = nR at *
      go_enter Try.func20, Try.ntmps20
      go_wp2_with fail
      refine (HTM.out _ (below_alloc w _)).mono ?_
      rintro e w1 ⟨rfl, hb1⟩
      have HB1 := Lib.hid (below_alloc_trans hb1)
      have HG1 := Lib.hid (HG.out.later hb1)
      obtain ⟨d0, d1, d2, d3⟩ := HG1.out.four
      clear hb1
      go_wp2_with fail
      refine (HNM.out _ HB1.out).mono ?_
      rintro e w2 ⟨rfl, hb2⟩
      have HB2 := Lib.hid (HB1.out.trans (hb2.mono HB1.out.size))
      clear d0 d1 d2 d3 hb2
      go_wp2
      go_ret
      exact ⟨rfl, HB2.out⟩
end Go.Proofs.Ytdbmeocpjopdhaa
