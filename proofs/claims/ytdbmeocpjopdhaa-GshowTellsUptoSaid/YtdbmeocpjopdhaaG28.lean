/- Much, and awake. -/
import Derived.Test.YtdbmeocpjopdhaaG18
import Derived.Test.YtdbmeocpjopdhaaWd
import Derived.Deep.CutBlock
import Derived.Deep.DeepCutAuto
namespace Go.Proofs.Ytdbmeocpjopdhaa
open Go.RowKit
set_option linter.unusedVariables false
set_option maxRecDepth 100000 in
set_option maxHeartbeats 12800000 in
theorem much_any {w : World} {v : Value} {g : Gm} (h : GrR w v g) : Calls Try.prog 4 #[v] w fun e w' => ∃ n : Int, e = .returned (.int .i64 n) ∧ Below w.heap.size w w' := by
  have hT20 := h.small.2.2.1
  have hN20 := h.small.2.2.2.1
  have hR20 := h.small.2.2.2.2.1
  have HG := Lib.hid (GBox.new w 25 v)
  obtain ⟨AT, cT, AN, cN, AR, cR, rfl, hT, hN, hR⟩ := h.open_
  obtain ⟨⟨A1, c1, e1, hc1⟩, _⟩ := hT
  cases e1
  obtain ⟨⟨A2, c2, e2, hc2⟩, _⟩ := hN
  cases e2
  obtain ⟨⟨A3, c3, e3, hc3⟩, _⟩ := hR
  cases e3
  have HC1 := Lib.hid hc1
  have HC2 := Lib.hid hc2
  have HC3 := Lib.hid hc3
  clear h hc1 hc2 hc3
  generalize g.T = lT at *
  generalize g.N = lN at *
  generalize g.R = lR at *
  generalize g.s = gs at *
  obtain ⟨d0, d1, d2, d3⟩ := HG.out.four
  have HB := Lib.hid (below_alloc w (.cells #[.slice AT lT.length cT, .slice AN lN.length cN, .slice AR lR.length cR, .int .i64 gs] 25))
  have hlt0 : w.heap.size < (w.alloc (.cells #[.slice AT lT.length cT, .slice AN lN.length cN, .slice AR lR.length cR, .int .i64 gs] 25)).heap.size := by simp
  go_enter Try.func4, Try.ntmps4
  go_upto_block 0 with fail
  go_cut [3] (fun n wx => (∃ m : Int, n = .int .i64 m) ∧ wx = (w.alloc (.cells #[.slice AT lT.length cT, .slice AN lN.length cN, .slice AR lR.length cR, .int .i64 gs] 25)))
  case first =>
    go_wp2_with fail
    go_loop [3, 4] (fun n i => ∃ (k : Nat) (m : Int), k ≤ lT.length ∧ i = .int .i64 k ∧ n = .int .i64 m) (fun _ i => lT.length - (intOf i).toNat)
    case atStart => exact ⟨0, _, Nat.zero_le _, rfl, rfl⟩
    case round =>
      obtain ⟨k, m, hk, rfl, rfl⟩ := hrel
      by_cases hlt : k < lT.length
      · by_cases hl2 : k < 200
        · have hx := List.getElem?_eq_getElem hlt
          generalize lT[k] = s at hx
          obtain ⟨b, off, hA, hb, hcell⟩ := HC1.out k s hx
          subst hA
          have e1 := (HB.out.cell (p := ⟨b, off + k, none⟩) hb).trans hcell
          simp only [StrV] at e1
          clear hx hcell
          generalize s.size = sz at *
          go_wp2
          go_round
          case rel => exact ⟨k + 1, _, by omega, by go_num, rfl⟩
          case measure => simp [intOf]; omega
        · have hq2 : ¬ (k : Int) < 200 := by omega
          go_wp2_with fail
          go_meet
          exact ⟨⟨_, rfl⟩, rfl⟩
      · go_wp2_with fail
        go_meet
        exact ⟨⟨_, rfl⟩, rfl⟩
  case rest =>
    obtain ⟨⟨m, rfl⟩, rfl⟩ := hcut
    go_upto_block 2 with fail
    go_cut [3] (fun n wx => (∃ m : Int, n = .int .i64 m) ∧ wx = (w.alloc (.cells #[.slice AT lT.length cT, .slice AN lN.length cN, .slice AR lR.length cR, .int .i64 gs] 25)))
    case first =>
      go_wp2_with fail
      go_loop [3, 5] (fun n i => ∃ (k : Nat) (m : Int), k ≤ lN.length ∧ i = .int .i64 k ∧ n = .int .i64 m) (fun _ i => lN.length - (intOf i).toNat)
      case atStart => exact ⟨0, _, Nat.zero_le _, rfl, rfl⟩
      case round =>
        obtain ⟨k, m, hk, rfl, rfl⟩ := hrel
        by_cases hlt : k < lN.length
        · by_cases hl2 : k < 200
          · have hx := List.getElem?_eq_getElem hlt
            generalize lN[k] = s at hx
            obtain ⟨b, off, hA, hb, hcell⟩ := HC2.out k s hx
            subst hA
            have e1 := (HB.out.cell (p := ⟨b, off + k, none⟩) hb).trans hcell
            simp only [StrV] at e1
            clear hx hcell
            generalize s.size = sz at *
            go_wp2
            go_round
            case rel => exact ⟨k + 1, _, by omega, by go_num, rfl⟩
            case measure => simp [intOf]; omega
          · have hq2 : ¬ (k : Int) < 200 := by omega
            go_wp2_with fail
            go_meet
            exact ⟨⟨_, rfl⟩, rfl⟩
        · go_wp2_with fail
          go_meet
          exact ⟨⟨_, rfl⟩, rfl⟩
    case rest =>
      obtain ⟨⟨m, rfl⟩, rfl⟩ := hcut
      go_upto_block 4 with fail
      go_cut [3] (fun n wx => (∃ m : Int, n = .int .i64 m) ∧ wx = (w.alloc (.cells #[.slice AT lT.length cT, .slice AN lN.length cN, .slice AR lR.length cR, .int .i64 gs] 25)))
      case first =>
        go_wp2_with fail
        go_loop [3, 6] (fun n i => ∃ (k : Nat) (m : Int), k ≤ lR.length ∧ i = .int .i64 k ∧ n = .int .i64 m) (fun _ i => lR.length - (intOf i).toNat)
        case atStart => exact ⟨0, _, Nat.zero_le _, rfl, rfl⟩
        case round =>
          obtain ⟨k, m, hk, rfl, rfl⟩ := hrel
          by_cases hlt : k < lR.length
          · by_cases hl2 : k < 400
            · have hx := List.getElem?_eq_getElem hlt
              generalize lR[k] = s at hx
              obtain ⟨b, off, hA, hb, _, hcell, ⟨⟨A9, c9, hv, _⟩, _⟩⟩ := HC3.out k s hx
              subst hA
              rw [hv] at hcell
              have e1 := (HB.out.cell (p := ⟨b, off + k * 2 + 1, none⟩) hb).trans hcell
              clear hx hcell hv
              generalize s.right.length = sz at *
              go_wp2
              go_round
              case rel => exact ⟨k + 1, _, by omega, by go_num, rfl⟩
              case measure => simp [intOf]; omega
            · have hq2 : ¬ (k : Int) < 400 := by omega
              go_wp2_with fail
              go_meet
              exact ⟨⟨_, rfl⟩, rfl⟩
          · go_wp2_with fail
            go_meet
            exact ⟨⟨_, rfl⟩, rfl⟩
      case rest =>
        obtain ⟨⟨m, rfl⟩, rfl⟩ := hcut
        go_wp2
        go_ret
        exact ⟨_, rfl, HB.out⟩
end Go.Proofs.Ytdbmeocpjopdhaa
