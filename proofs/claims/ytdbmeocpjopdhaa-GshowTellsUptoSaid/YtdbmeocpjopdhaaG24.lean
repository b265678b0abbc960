/- Check and Ordered: the document's. -/
import Derived.Test.YtdbmeocpjopdhaaG21
import Derived.Test.YtdbmeocpjopdhaaG22
import Derived.Test.YtdbmeocpjopdhaaG23
namespace Go.Proofs.Ytdbmeocpjopdhaa
open Go.RowKit
set_option linter.unusedVariables false
section
variable {w : World} {v : Value} {g : Gm}
theorem rof2 (h : GrR w v g) (k : Nat) (y : World) (hy : Below w.heap.size w y) : Calls Try.prog 46 #[v, .int .i64 ((g.T.length : Int) + 1 + k)] y (fun e w' => ∃ A n c, e = .returned (.slice A n c) ∧ (g.R.any (Gm.left ((g.T.length : Int) + 1 + k)) = true → 0 < n ∧ ∃ b off, A = some ⟨b, off, none⟩ ∧ w'.cell? ⟨b, off, none⟩ = some (.int .i64 (g.first k))) ∧ (g.R.any (Gm.left ((g.T.length : Int) + 1 + k)) = false → n = 0) ∧ Below y.heap.size y w') :=
  (rof_any (h.later hy) _).mono fun e w' ⟨o, he, ho⟩ => by
    have hs := h.small.2.2.2.2.1
    have harr := ho.arr (by have := ofTo_len g.R ((g.T.length : Int) + 1 + k) g.R.length; omega)
    obtain ⟨A, c, rfl, _, hb⟩ := ho
    refine ⟨A, _, c, he, fun hq => ?_, fun hq => by rw [of_none hq]; rfl, below_alloc_trans hb⟩
    obtain ⟨r, hr⟩ := of_some hq
    rw [List.length_map, hr]
    refine ⟨by simp, ?_⟩
    obtain ⟨⟨A', c', e, hc⟩, _⟩ := harr
    simp only [Value.slice.injEq] at e
    obtain ⟨rfl, _, rfl⟩ := e
    obtain ⟨b, off, hA, _, hcell⟩ := hc 0 _ (by rw [hr]; rfl)
    exact ⟨b, off, hA, by rw [Nat.add_zero] at hcell; exact hcell⟩
set_option maxRecDepth 100000 in
set_option maxHeartbeats 6400000 in
theorem rcheck_any (h : GrR w v g) : Calls Try.prog 16 #[v] w (Ends w g.check) := by
  have hT20 := h.small.2.2.1
  have hN20 := h.small.2.2.2.1
  have HG := Lib.hid (GBox.new w 25 v)
  have HE1 := Lib.hid (fun k => @Gm.EachTo.next g k)
  have HE2 := Lib.hid (@Gm.EachTo.all g)
  have HE3 := Lib.hid (fun k => @each_not g k)
  have HCK : Hid (g.check = if g.few then (if g.form then (if g.once then (if g.known then (if g.unlike then (if g.each then 0 else 9) else 8) else 1) else 8) else 10) else 7) := Lib.hid rfl
  have K1 := Lib.hid (fun y (hy : Below w.heap.size w y) => rmany_any (h.later hy))
  have K2 := Lib.hid (fun y (hy : Below w.heap.size w y) => rform_any (h.later hy))
  have K3 := Lib.hid (fun y (hy : Below w.heap.size w y) => rnames_any (h.later hy))
  have K4 : Hid (∀ y o, Arr StrV y o (g.T ++ g.N) → Calls Try.prog 42 #[o] y (Says y g.once)) := Lib.hid (fun y o ho => (ronce_any ho).mono fun e w' ⟨he, d, hd⟩ => ⟨he, by rw [hd]; exact below_draws (Below.refl _ y) d⟩)
  have K5 := Lib.hid (fun y (hy : Below w.heap.size w y) => rknown_any (h.later hy))
  have K6 := Lib.hid (fun y (hy : Below w.heap.size w y) => runlike_any (h.later hy))
  have HOF := Lib.hid (fun k y (hy : Below w.heap.size w y) => rof2 h k y hy)
  obtain ⟨AT, cT, AN, cN, AR, cR, rfl, hT, hN, hR⟩ := h.open_
  clear h hT hN hR
  generalize g.few = a1 at *
  generalize g.form = a2 at *
  generalize g.once = a4 at *
  generalize g.known = a5 at *
  generalize g.unlike = a6 at *
  generalize g.each = a8 at *
  generalize g.check = res at *
  generalize g.T.length = nT at *
  generalize g.N.length = nN at *
  generalize g.R.length = nR at *
  generalize g.s = gs at *
  generalize g.T ++ g.N = L at *
  go_enter Try.func16, Try.ntmps16
  go_wp2_with fail
  refine (K1.out _ (below_alloc w _)).mono ?_
  rintro e w1 ⟨rfl, hb1⟩
  have HB1 := Lib.hid (below_alloc_trans hb1)
  have HG1 := Lib.hid (HG.out.later hb1)
  clear hb1
  cases a1 with
  | false =>
    go_wp2
    go_ret
    exact ⟨by rw [HCK.out]; rfl, HB1.out⟩
  | true =>
  obtain ⟨d0, d1, d2, d3⟩ := HG1.out.four
  go_wp2_with fail
  refine (K2.out _ HB1.out).mono ?_
  rintro e w2 ⟨rfl, hb2⟩
  have HB2 := Lib.hid (HB1.out.trans (hb2.mono HB1.out.size))
  have HG2 := Lib.hid (HG1.out.later hb2)
  clear hb2 d0 d1 d2 d3
  cases a2 with
  | false =>
    go_wp2
    go_ret
    exact ⟨by rw [HCK.out]; rfl, HB2.out⟩
  | true =>
  obtain ⟨d0, d1, d2, d3⟩ := HG2.out.four
  go_wp2_with fail
  refine (K3.out _ HB2.out).mono ?_
  rintro e w3 ⟨o, rfl, ho, hb3⟩
  have HO := Lib.hid ho
  clear ho
  have HB3 := Lib.hid (HB2.out.trans (hb3.mono HB2.out.size))
  have HG3 := Lib.hid (HG2.out.later hb3)
  clear hb3 d0 d1 d2 d3
  obtain ⟨d0, d1, d2, d3⟩ := HG3.out.four
  go_wp2_with fail
  refine (K4.out _ _ HO.out).mono ?_
  rintro e w4 ⟨rfl, hb4⟩
  have HB4 := Lib.hid (HB3.out.trans (hb4.mono HB3.out.size))
  have HG4 := Lib.hid (HG3.out.later hb4)
  clear hb4 d0 d1 d2 d3
  cases a4 with
  | false =>
    go_wp2
    go_ret
    exact ⟨by rw [HCK.out]; rfl, HB4.out⟩
  | true =>
  obtain ⟨d0, d1, d2, d3⟩ := HG4.out.four
  go_wp2_with fail
  refine (K5.out _ HB4.out).mono ?_
  rintro e w5 ⟨rfl, hb5⟩
  have HB5 := Lib.hid (HB4.out.trans (hb5.mono HB4.out.size))
  have HG5 := Lib.hid (HG4.out.later hb5)
  clear hb5 d0 d1 d2 d3
  cases a5 with
  | false =>
    go_wp2
    go_ret
    exact ⟨by rw [HCK.out]; rfl, HB5.out⟩
  | true =>
  obtain ⟨d0, d1, d2, d3⟩ := HG5.out.four
  go_wp2_with fail
  refine (K6.out _ HB5.out).mono ?_
  rintro e w6 ⟨rfl, hb6⟩
  have HB6 := Lib.hid (HB5.out.trans (hb6.mono HB5.out.size))
  have HG6 := Lib.hid (HG5.out.later hb6)
  clear hb6 d0 d1 d2 d3
  cases a6 with
  | false =>
    go_wp2
    go_ret
    exact ⟨by rw [HCK.out]; rfl, HB6.out⟩
  | true =>
  go_wp2
  go_loopw [3] (fun i wr => ∃ k : Nat, k ≤ nN ∧ i = .int .i64 k ∧ Hid (g.EachTo k) ∧ Hid (Below w.heap.size w wr) ∧ Hid (GBox wr w.heap.size (.agg #[.slice AT nT cT, .slice AN nN cN, .slice AR nR cR, .int .i64 gs]))) (fun i _ => nN - (intOf i).toNat)
  case atStart => exact ⟨0, Nat.zero_le _, rfl, Lib.hid (fun j hj => absurd hj (Nat.not_lt_zero _)), HB6, HG6⟩
  case round =>
    obtain ⟨k, hk, rfl, HE, HBR, HGR⟩ := hrel
    obtain ⟨d0, d1, d2, d3⟩ := HGR.out.four
    by_cases hlt : k < nN
    · have HO2 := Lib.hid (HOF.out k)
      have HX := Lib.hid (HE1.out k HE.out)
      have HY := Lib.hid (HE3.out k hlt)
      go_wp2_with fail
      refine (HO2.out _ HBR.out).mono ?_
      rintro e w9 ⟨A, n, c, rfl, hn1, hn2, hb9⟩
      have HB9 := Lib.hid (HBR.out.trans (hb9.mono HBR.out.size))
      have HG9 := Lib.hid (HGR.out.later hb9)
      clear d0 d1 d2 d3 hb9
      cases hq : g.R.any (Gm.left ((nT : Int) + 1 + k)) with
      | true =>
        have hn : ((n : Int) == 0) = false := by have := (hn1 hq).1; rw [beq_eq_false_iff_ne]; omega
        have HN := Lib.hid (HX.out hq)
        clear hn1 hn2 hq
        go_wp2
        go_roundw
        case rel => exact ⟨k + 1, by omega, by go_num, HN, HB9, HG9⟩
        case measure => simp [intOf]; omega
      | false =>
        have hn := hn2 hq
        have HN := Lib.hid (HY.out hq)
        subst hn
        clear hn1 hn2 hq
        go_wp2
        go_ret
        exact ⟨by rw [HCK.out, HN.out]; rfl, HB9.out⟩
    · obtain rfl : k = nN := by omega
      have HN := Lib.hid (HE2.out HE.out)
      go_wp2
      go_ret
      exact ⟨by rw [HCK.out, HN.out]; rfl, HBR.out⟩
/-- So far ascending: the last one is q. -/
def AscTo (l : List Int) (k : Nat) (q : Int) : Prop := (∀ (i : Nat) (x y : Int), i + 1 < k → l[i]? = some x → l[i + 1]? = some y → x ≤ y) ∧ (k = 0 → q = -1) ∧ ∀ x, 0 < k → l[k - 1]? = some x → q = x
theorem AscTo.next {l : List Int} {k : Nat} {q x : Int} (h : AscTo l k q) (hx : l[k]? = some x) (hq : ¬ x < q) : AscTo l (k + 1) x := by
  refine ⟨fun i a b hi ha hb => ?_, fun h0 => absurd h0 (Nat.succ_ne_zero k), fun y _ hy => ?_⟩
  · by_cases e : i + 1 = k
    · rw [e, hx] at hb
      cases hb
      have := h.2.2 a (by omega) (by rw [show k - 1 = i by omega]; exact ha)
      omega
    · exact h.1 i a b (by omega) ha hb
  · rw [Nat.add_sub_cancel, hx] at hy
    cases hy
    rfl
open Classical in
theorem AscTo.all {l : List Int} {q : Int} (h : AscTo l l.length q) : decide (Asc l) = true := by
  rw [decide_eq_true_eq]
  intro i x y hx hy
  exact h.1 i x y (List.getElem?_eq_some_iff.1 hy).1 hx hy
open Classical in
theorem AscTo.no {l : List Int} {k : Nat} {q x : Int} (h : AscTo l k q) (hx : l[k]? = some x) (hq : x < q) (h0 : 0 ≤ x) : decide (Asc l) = false := by
  rw [decide_eq_false_iff_not]
  intro ha
  by_cases e : k = 0
  · have := h.2.1 e
    omega
  · obtain ⟨hk, _⟩ := List.getElem?_eq_some_iff.1 hx
    have hp := List.getElem?_eq_getElem (show k - 1 < l.length by omega)
    have h1 := h.2.2 _ (by omega) hp
    have h2 := ha (k - 1) _ x hp (by rw [show k - 1 + 1 = k by omega]; exact hx)
    omega
theorem first_none {g : Gm} {k : Nat} (h : g.R.any (Gm.left ((g.T.length : Int) + 1 + k)) = false) : g.first k = g.R.length := by
  unfold Gm.first
  refine List.findIdx_eq_length.2 fun x hx => ?_
  cases hq : Gm.left ((g.T.length : Int) + 1 + k) x with
  | false => rfl
  | true =>
    have : g.R.any (Gm.left ((g.T.length : Int) + 1 + k)) = true := List.any_eq_true.2 ⟨x, hx, hq⟩
    rw [h] at this
    cases this
set_option maxRecDepth 100000 in
set_option maxHeartbeats 6400000 in
open Classical in
theorem rord_any (h : GrR w v g) : Calls Try.prog 17 #[v] w (Says w g.ordered) := by
  have hT20 := h.small.2.2.1
  have hN20 := h.small.2.2.2.1
  have hR20 := h.small.2.2.2.2.1
  have HG := Lib.hid (GBox.new w 25 v)
  have HF : Hid (g.ordered = decide (Asc g.firsts)) := Lib.hid rfl
  have HFL : Hid (g.firsts.length = g.N.length) := Lib.hid (by unfold Gm.firsts; simp)
  have HFG : Hid (∀ k, k < g.N.length → g.firsts[k]? = some (g.first k : Int)) := Lib.hid (fun k hk => by unfold Gm.firsts; simp [hk])
  have HFN := Lib.hid (fun k => @first_none g k)
  have HOF := Lib.hid (fun k y (hy : Below w.heap.size w y) => rof2 h k y hy)
  obtain ⟨AT, cT, AN, cN, AR, cR, rfl, hT, hN, hR⟩ := h.open_
  clear h hT hN hR
  generalize hres : g.ordered = res at *
  clear hres
  generalize g.firsts = l at *
  generalize g.T.length = nT at *
  generalize g.N.length = nN at *
  generalize g.R.length = nR at *
  generalize g.s = gs at *
  go_enter Try.func17, Try.ntmps17
  go_wp2
  go_loopw [3, 4] (fun la i wr => ∃ (k : Nat) (q : Int), k ≤ nN ∧ i = .int .i64 k ∧ la = .int .i64 q ∧ Hid (AscTo l k q) ∧ Hid (Below w.heap.size w wr) ∧ Hid (GBox wr w.heap.size (.agg #[.slice AT nT cT, .slice AN nN cN, .slice AR nR cR, .int .i64 gs]))) (fun _ i _ => nN - (intOf i).toNat)
  case atStart => exact ⟨0, -1, Nat.zero_le _, rfl, rfl, Lib.hid ⟨fun i x y hi => absurd hi (by omega), fun _ => rfl, fun x h0 => absurd h0 (Nat.lt_irrefl 0)⟩, Lib.hid (below_alloc _ _), HG⟩
  case round =>
    obtain ⟨k, q, hk, rfl, rfl, HA, HBR, HGR⟩ := hrel
    obtain ⟨d0, d1, d2, d3⟩ := HGR.out.four
    by_cases hlt : k < nN
    · have HO2 := Lib.hid (HOF.out k)
      have HX := Lib.hid (HFG.out k hlt)
      have HNN := Lib.hid (HFN.out k)
      have HY := Lib.hid (fun hh => HA.out.next HX.out hh)
      have HZ := Lib.hid (fun hh => HA.out.no HX.out hh (by omega))
      go_wp2_with fail
      refine (HO2.out _ HBR.out).mono ?_
      rintro e w9 ⟨A, n, c, rfl, hn1, hn2, hb9⟩
      have HB9 := Lib.hid (HBR.out.trans (hb9.mono HBR.out.size))
      have HG9 := Lib.hid (HGR.out.later hb9)
      clear d0 d1 d2 d3 hb9
      obtain ⟨d0, d1, d2, d3⟩ := HG9.out.four
      generalize g.first k = f at *
      cases hq : g.R.any (Gm.left ((nT : Int) + 1 + k)) with
      | true =>
        obtain ⟨hn, b, off, rfl, hcell⟩ := hn1 hq
        clear hn1 hn2 hq
        by_cases hf : (f : Int) < q
        · have HN := Lib.hid (HZ.out hf)
          go_wp2
          go_ret
          exact ⟨ret_bool (by rw [HF.out]; exact HN.out.symm), HB9.out⟩
        · have HN := Lib.hid (HY.out (by omega))
          go_wp2
          go_roundw
          case rel => exact ⟨k + 1, _, by omega, by go_num, rfl, HN, HB9, HG9⟩
          case measure => simp [intOf]; omega
      | false =>
        have hn := hn2 hq
        have hf0 := HNN.out hq
        subst hn
        subst hf0
        clear hn1 hn2 hq
        by_cases hf : (f : Int) < q
        · have HN := Lib.hid (HZ.out hf)
          go_wp2
          go_ret
          exact ⟨ret_bool (by rw [HF.out]; exact HN.out.symm), HB9.out⟩
        · have HN := Lib.hid (HY.out (by omega))
          go_wp2
          go_roundw
          case rel => exact ⟨k + 1, _, by omega, by go_num, rfl, HN, HB9, HG9⟩
          case measure => simp [intOf]; omega
    · obtain rfl : k = nN := by omega
      have HN := Lib.hid (AscTo.all (by rw [HFL.out]; exact HA.out))
      go_wp2
      go_ret
      exact ⟨ret_bool (by rw [HF.out]; exact HN.out.symm), HBR.out⟩
end
end Go.Proofs.Ytdbmeocpjopdhaa
