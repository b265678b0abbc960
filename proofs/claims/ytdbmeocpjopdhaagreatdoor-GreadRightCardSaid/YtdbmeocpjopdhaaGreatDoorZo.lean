/- Symbols and rules: the document's. -/
import Derived.Test.YtdbmeocpjopdhaaGreatDoorZn
namespace Go.Proofs.YtdbmeocpjopdhaaGreatDoor
open Go.RowKit
set_option linter.unusedVariables false
section
variable {w : World} {v : Value} {g : Gm}
end
set_option maxRecDepth 100000 in
set_option maxHeartbeats 1600000 in
theorem rints_any {w : World} {u v : Value} {a b : List Int} (ha : Arr IntV w u a) (hb : Arr IntV w v b) : Calls Tryz.prog 46 #[u, v] w (Says w (a == b)) := by
  obtain ⟨⟨A, c, rfl, hca⟩, hsa⟩ := ha
  obtain ⟨⟨B, d, rfl, hcb⟩, hsb⟩ := hb
  have HCA := Lib.hid hca
  have HCB := Lib.hid hcb
  clear hca hcb
  by_cases hl : a.length = b.length
  · rw [← hl]
    have HL := Lib.hid hl
    clear hl hsb
    go_enter Tryz.func46, Tryz.ntmps46
    go_wp2
    go_loopw [5] (fun i wr => ∃ k : Nat, k ≤ a.length ∧ i = .int .i64 k ∧ Hid (EqTo a b k) ∧ Hid (∃ q, wr = w.drewN q)) (fun i _ => a.length - (intOf i).toNat)
    case atStart => exact ⟨0, Nat.zero_le _, rfl, Lib.hid (fun j x y hj => absurd hj (Nat.not_lt_zero _)), Lib.hid ⟨0, rfl⟩⟩
    case round =>
      obtain ⟨k, hk, rfl, HE, HD⟩ := hrel
      by_cases hlt : k < a.length
      · have hx := List.getElem?_eq_getElem hlt
        have hy := List.getElem?_eq_getElem (show k < b.length by have := HL.out; omega)
        generalize a[k] = x at hx
        generalize b[k]'(by have := HL.out; omega) = y at hy
        obtain ⟨b1, off1, rfl, hlt1, hcell1⟩ := HCA.out k x hx
        obtain ⟨b2, off2, rfl, hlt2, hcell2⟩ := HCB.out k y hy
        have HX := Lib.hid hx
        have HY := Lib.hid hy
        have e1 : wr.cell? ⟨b1, off1 + k, none⟩ = some (.int .i64 x) := by obtain ⟨q, rfl⟩ := HD.out; exact hcell1
        have e2 : wr.cell? ⟨b2, off2 + k, none⟩ = some (.int .i64 y) := by obtain ⟨q, rfl⟩ := HD.out; exact hcell2
        clear hx hy hcell1 hcell2
        by_cases hxy : x = y
        · have HN := Lib.hid (HE.out.next HX.out HY.out hxy)
          have hb : (x != y) = false := by simp [hxy]
          clear hxy
          go_wp2
          go_quiet (fail)
          have HDD : Hid (∃ q, wr.drewN nq = w.drewN q) := Lib.hid (by
            obtain ⟨q, hq⟩ := HD.out
            exact ⟨q + nq, by rw [hq, World.drewN_drewN]⟩)
          go_wp2
          go_roundw
          case rel => exact ⟨k + 1, by omega, by go_num, HN, HDD⟩
          case measure => simp [intOf]; omega
        · have HN := Lib.hid (ne_at HX.out HY.out hxy)
          have hb : (x != y) = true := by simp [hxy]
          clear hxy
          go_wp2
          go_quiet (fail)
          go_wp2
          go_ret
          refine ⟨ret_bool HN.out.symm, ?_⟩
          obtain ⟨q, rfl⟩ := HD.out
          exact below_draws (below_draws (Below.refl _ w) _) _
      · obtain rfl : k = a.length := by omega
        have HN := Lib.hid (HE.out.all HL.out)
        go_wp2
        go_ret
        refine ⟨ret_bool HN.out.symm, ?_⟩
        obtain ⟨q, rfl⟩ := HD.out
        exact below_draws (Below.refl _ w) _
  · have hb : (a == b) = false := by
      rw [beq_eq_false_iff_ne]; rintro rfl; exact hl rfl
    rw [hb]
    have hl2 : ¬ (a.length : Int) = (b.length : Int) := by omega
    clear hl hb
    go_enter Tryz.func46, Tryz.ntmps46
    go_wp2
    go_ret
    exact ⟨rfl, Below.refl _ w⟩
theorem rsame_any {w : World} {a b : Ru} (ha : Arr IntV w a.v a.right) (hb : Arr IntV w b.v b.right) : Calls Tryz.prog 18 #[RuV a, RuV b] w (Says w (sameR a b)) := by
  have HE := Lib.hid (fun z (hz : Below w.heap.size w z) => rints_any (ha.later hz) (hb.later hz))
  clear ha hb
  unfold sameR RuV
  generalize (a.right == b.right) = q at *
  generalize a.v = av at *
  generalize b.v = bv at *
  generalize a.left = al at *
  generalize b.left = bl at *
  by_cases h : al = bl
  · have h1 : (al == bl) = true := by simp [h]
    rw [h1, Bool.true_and]
    clear h
    go_enter Tryz.func18, Tryz.ntmps18
    go_wp2_with fail
    refine (HE.out _ ((below_alloc w _).trans ((below_alloc _ _).mono (by simp)))).mono ?_
    rintro e w1 ⟨rfl, hb1⟩
    have HB1 := Lib.hid ((below_alloc w _).trans (((below_alloc _ _).trans (hb1.mono (by simp))).mono (by simp)))
    clear hb1
    go_wp2
    go_ret
    exact ⟨rfl, HB1.out⟩
  · have h1 : (al == bl) = false := by simp [h]
    rw [h1, Bool.false_and]
    clear h
    go_enter Tryz.func18, Tryz.ntmps18
    go_wp2
    go_ret
    exact ⟨rfl, ((below_alloc w _).trans ((below_alloc _ _).mono (by simp)))⟩
end Go.Proofs.YtdbmeocpjopdhaaGreatDoor
