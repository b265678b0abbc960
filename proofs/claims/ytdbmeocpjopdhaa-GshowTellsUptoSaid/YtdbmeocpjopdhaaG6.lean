/- What Check asks of each name and each rule. -/
import Derived.Test.YtdbmeocpjopdhaaG5
import Derived.Deep.RegionWith
import Derived.BigQuiet
import Derived.Deep.QuietTactic
namespace Go.Proofs.Ytdbmeocpjopdhaa
open Go.RowKit
set_option linter.unusedVariables false
theorem form2_any (s : ByteArray) (hs : s.size ≤ 4611686018427387904) (w : World) : Calls Try.prog 24 #[.string s] w (Says w (okName s.data.toList || quotedB s.data.toList)) := by
  have HP := Lib.hid (plain_any s (by omega) w)
  have HQ := Lib.hid (isq_any s hs)
  generalize okName s.data.toList = a at *
  generalize quotedB s.data.toList = b at *
  go_enter Try.func24, Try.ntmps24
  go_wp2_with fail
  refine HP.out.mono ?_
  rintro e w1 ⟨rfl, hb⟩
  have HB := Lib.hid hb
  clear hb
  cases a with
  | true =>
    go_wp2
    go_ret
    exact ⟨rfl, HB.out⟩
  | false =>
    go_wp2_with fail
    refine (HQ.out _).mono ?_
    rintro e w2 ⟨rfl, hb⟩
    have HB2 := Lib.hid (HB.out.trans (hb.mono HB.out.size))
    clear hb
    go_wp2
    go_ret
    exact ⟨rfl, HB2.out⟩

theorem short_any (r : Ru) (w : World) (hr : Arr IntV w r.v r.right) : Calls Try.prog 21 #[RuV r] w (Says w (shortR r)) := by
  obtain ⟨⟨A, c, hv, _⟩, hs⟩ := hr
  unfold shortR RuV
  rw [hv]
  clear hv
  generalize r.right.length = n at *
  generalize r.left = rl at *
  go_enter Try.func21, Try.ntmps21
  go_wp2
  go_ret
  exact ⟨ret_bool (by rw [decide_eq_decide]; omega), below_alloc _ _⟩
theorem know3_any {w y : World} {B : Nat} {v : Value} {g : Gm} {r : Ru} (h : GrR w v g) (hr : Arr IntV w r.v r.right) (hb : Below w.heap.size w y) (hc : GBox y B v) : Calls Try.prog 29 #[RuV r, .pointer (some ⟨B, 0, none⟩)] y (Says y (g.knownR r)) := by
  have HK := Lib.hid (fun z (hz : Below w.heap.size w z) => known_any (h.later hz) (⟨rfl, hr.later hz⟩ : RuR z (RuV r) r))
  obtain ⟨AT, cT, AN, cN, AR, cR, rfl, hT, hN, hR⟩ := h.open_
  have HB := Lib.hid hb
  have HG := Lib.hid hc
  have hBy := hc.lt
  obtain ⟨c0, c1, c2, c3⟩ := hc.four
  clear h hT hN hR hb hc hr
  unfold RuV at *
  generalize g.knownR r = a at *
  go_enter Try.func29, Try.ntmps29
  go_wp2_with fail
  refine (HK.out _ (HB.out.trans ((below_alloc _ _).mono HB.out.size))).mono ?_
  rintro e w1 ⟨rfl, hb1⟩
  have HB1 := Lib.hid (below_alloc_trans hb1)
  clear hb1
  go_wp2
  go_ret
  exact ⟨rfl, HB1.out⟩
theorem below_draws {B : Nat} {w w' : World} (h : Below B w w') (n : Nat) : Below B w (w'.drewN n) := ⟨h.os, h.tape, h.output, h.size, h.block⟩
/-- Two lists are one up to k. -/
def EqTo (a b : List Int) (k : Nat) : Prop := ∀ j x y, j < k → a[j]? = some x → b[j]? = some y → x = y
theorem EqTo.next {a b : List Int} {k : Nat} {x y : Int} (h : EqTo a b k) (hx : a[k]? = some x) (hy : b[k]? = some y) (he : x = y) : EqTo a b (k + 1) := by
  intro j x' y' hj h1 h2
  by_cases e : j = k
  · subst e
    rw [hx] at h1; rw [hy] at h2; cases h1; cases h2; exact he
  · exact h j x' y' (by omega) h1 h2
theorem EqTo.all {a b : List Int} (hl : a.length = b.length) (h : EqTo a b a.length) : (a == b) = true := by
  rw [beq_iff_eq]
  apply List.ext_getElem? 
  intro j
  by_cases hj : j < a.length
  · rw [List.getElem?_eq_getElem hj, List.getElem?_eq_getElem (by omega)]
    rw [h j _ _ hj (List.getElem?_eq_getElem hj) (List.getElem?_eq_getElem (by omega))]
  · rw [List.getElem?_eq_none (by omega), List.getElem?_eq_none (by omega)]
theorem ne_at {a b : List Int} {k : Nat} {x y : Int} (hx : a[k]? = some x) (hy : b[k]? = some y) (hn : ¬ x = y) : (a == b) = false := by
  rw [beq_eq_false_iff_ne]
  rintro rfl
  rw [hx] at hy
  cases hy
  exact hn rfl
set_option maxRecDepth 100000 in
set_option maxHeartbeats 1600000 in
theorem equal_any {w : World} {u v : Value} {a b : List Int} (ha : Arr IntV w u a) (hb : Arr IntV w v b) : Calls Try.prog 59 #[u, v] w (Says w (a == b)) := by
  obtain ⟨⟨A, c, rfl, hca⟩, hsa⟩ := ha
  obtain ⟨⟨B, d, rfl, hcb⟩, hsb⟩ := hb
  have HCA := Lib.hid hca
  have HCB := Lib.hid hcb
  clear hca hcb
  by_cases hl : a.length = b.length
  · rw [← hl]
    have HL := Lib.hid hl
    clear hl hsb
    go_enter Try.func59, Try.ntmps59
    go_wp2
    go_loopw [5, 13] (fun _ i wr => ∃ k : Nat, k ≤ a.length ∧ i = .int .i64 k ∧ Hid (EqTo a b k) ∧ Hid (∃ q, wr = w.drewN q)) (fun _ i _ => a.length - (intOf i).toNat)
    case atStart => exact ⟨0, Nat.zero_le _, rfl, Lib.hid (fun j x y hj => absurd hj (Nat.not_lt_zero _)), Lib.hid ⟨0, rfl⟩⟩
    case round =>
      obtain ⟨k, hk, rfl, HE, HD⟩ := hrel
      by_cases hlt : k < a.length
      · have hx := List.getElem?_eq_getElem hlt
        have hy := List.getElem?_eq_getElem (show k < b.length by have := HL.out; omega)
        generalize a[k] = x at hx
        generalize b[k]'(by have := HL.out; omega) = y at hy
        obtain ⟨b1, off1, rfl, hlt1, hcell1⟩ := HCA.out k x hx
        obtain ⟨b2, off2, rfl, hlt2, hcell2⟩ := HCB.out k y hy
        have HX := Lib.hid hx
        have HY := Lib.hid hy
        have e1 : wr.cell? ⟨b1, off1 + k, none⟩ = some (.int .i64 x) := by obtain ⟨q, rfl⟩ := HD.out; exact hcell1
        have e2 : wr.cell? ⟨b2, off2 + k, none⟩ = some (.int .i64 y) := by obtain ⟨q, rfl⟩ := HD.out; exact hcell2
        clear hx hy hcell1 hcell2
        by_cases hxy : x = y
        · have HN := Lib.hid (HE.out.next HX.out HY.out hxy)
          have hb : (x != y) = false := by simp [hxy]
          clear hxy
          go_wp2
          go_quiet (fail)
          have HDD : Hid (∃ q, wr.drewN nq = w.drewN q) := Lib.hid (by
            obtain ⟨q, hq⟩ := HD.out
            exact ⟨q + nq, by rw [hq, World.drewN_drewN]⟩)
          go_wp2
          go_roundw
          case rel => exact ⟨k + 1, by omega, by go_num, HN, HDD⟩
          case measure => simp [intOf]; omega
        · have HN := Lib.hid (ne_at HX.out HY.out hxy)
          have hb : (x != y) = true := by simp [hxy]
          clear hxy
          go_wp2
          go_quiet (fail)
          go_wp2
          go_ret
          refine ⟨ret_bool HN.out.symm, ?_⟩
          obtain ⟨q, rfl⟩ := HD.out
          exact below_draws (below_draws (Below.refl _ w) _) _
      · obtain rfl : k = a.length := by omega
        have HN := Lib.hid (HE.out.all HL.out)
        go_wp2
        go_ret
        refine ⟨ret_bool HN.out.symm, ?_⟩
        obtain ⟨q, rfl⟩ := HD.out
        exact below_draws (Below.refl _ w) _
  · have hb : (a == b) = false := by
      rw [beq_eq_false_iff_ne]; rintro rfl; exact hl rfl
    rw [hb]
    have hl2 : ¬ (a.length : Int) = (b.length : Int) := by omega
    clear hl hb
    go_enter Try.func59, Try.ntmps59
    go_wp2
    go_ret
    exact ⟨rfl, Below.refl _ w⟩
end Go.Proofs.Ytdbmeocpjopdhaa
