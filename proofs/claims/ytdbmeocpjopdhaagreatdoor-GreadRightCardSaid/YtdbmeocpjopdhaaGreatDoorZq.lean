/- Much of a grammar that is small: more than nothing. -/
import Derived.Test.YtdbmeocpjopdhaaGreatDoorZn
import Derived.Test.YtdbmeocpjopdhaaGreatDoorZa
import Derived.Deep.CutBlock
import Derived.Deep.DeepCutAuto
namespace Go.Proofs.YtdbmeocpjopdhaaGreatDoor
open Go.RowKit
set_option linter.unusedVariables false
set_option maxRecDepth 100000 in
set_option maxHeartbeats 12800000 in
theorem much_pos {w : World} {v : Value} {g : Gm} (h : GrR w v g) (h1 : 0 < g.T.length + g.N.length + g.R.length) (k1 : g.T.length ≤ 1000) (k2 : g.N.length ≤ 1000) (k3 : g.R.length ≤ 1000) (s1 : ∀ s ∈ g.T, s.size ≤ 10000) (s2 : ∀ s ∈ g.N, s.size ≤ 10000) (s3 : ∀ r ∈ g.R, r.right.length ≤ 9000) : Calls Tryz.prog 9 #[v] w fun e w' => ∃ n : Int, e = .returned (.int .i64 n) ∧ 0 < n ∧ Below w.heap.size w w' := by
  have hT20 := h.small.2.2.1
  have hN20 := h.small.2.2.2.1
  have hR20 := h.small.2.2.2.2.1
  have HG := Lib.hid (GBox.new w 26 v)
  obtain ⟨AT, cT, AN, cN, AR, cR, rfl, hT, hN, hR⟩ := h.open_
  obtain ⟨⟨A1, c1, e1, hc1⟩, _⟩ := hT
  cases e1
  obtain ⟨⟨A2, c2, e2, hc2⟩, _⟩ := hN
  cases e2
  obtain ⟨⟨A3, c3, e3, hc3⟩, _⟩ := hR
  cases e3
  have HC1 := Lib.hid hc1
  have HC2 := Lib.hid hc2
  have HC3 := Lib.hid hc3
  clear h hc1 hc2 hc3
  generalize g.T = lT at *
  generalize g.N = lN at *
  generalize g.R = lR at *
  generalize g.s = gs at *
  have S1 := Lib.hid s1
  have S2 := Lib.hid s2
  have S3 := Lib.hid s3
  clear s1 s2 s3
  obtain ⟨d0, d1, d2, d3⟩ := HG.out.four
  have HB := Lib.hid (below_alloc w (.cells #[.slice AT lT.length cT, .slice AN lN.length cN, .slice AR lR.length cR, .int .i64 gs] 26))
  have hlt0 : w.heap.size < (w.alloc (.cells #[.slice AT lT.length cT, .slice AN lN.length cN, .slice AR lR.length cR, .int .i64 gs] 26)).heap.size := by simp
  go_enter Tryz.func9, Tryz.ntmps9
  go_upto_block 0 with fail
  go_cut [3] (fun n wx => (∃ m : Int, n = .int .i64 m ∧ 0 < m ∧ m ≤ 3000 + 1000 * 1000) ∧ wx = (w.alloc (.cells #[.slice AT lT.length cT, .slice AN lN.length cN, .slice AR lR.length cR, .int .i64 gs] 26)))
  case first =>
    go_wp2_with fail
    go_loop [3, 4] (fun n i => ∃ (k : Nat) (m : Int), k ≤ lT.length ∧ i = .int .i64 k ∧ n = .int .i64 m ∧ 0 < m ∧ m ≤ 3000 + 1000 * (k : Int)) (fun _ i => lT.length - (intOf i).toNat)
    case atStart => exact ⟨0, _, Nat.zero_le _, rfl, rfl, by omega, by omega⟩
    case round =>
      obtain ⟨k, m, hk, rfl, rfl, hm0, hm1⟩ := hrel
      by_cases hlt : k < lT.length
      · by_cases hl2 : k < 200
        · have hx := List.getElem?_eq_getElem hlt
          have hsz := S1.out _ (List.getElem_mem hlt)
          generalize lT[k] = s at hx hsz
          obtain ⟨b, off, hA, hb, hcell⟩ := HC1.out k s hx
          subst hA
          have e1 := (HB.out.cell (p := ⟨b, off + k, none⟩) hb).trans hcell
          simp only [StrV] at e1
          clear hx hcell
          go_wp2
          go_round
          case rel => exact ⟨k + 1, m + ((s.size / 20 : Nat) : Int), by omega, by go_num, by go_num, by omega, by omega⟩
          case measure => simp [intOf]; omega
        · have hq2 : ¬ (k : Int) < 200 := by omega
          go_wp2_with fail
          go_meet
          exact ⟨⟨_, rfl, by omega, by omega⟩, rfl⟩
      · go_wp2_with fail
        go_meet
        exact ⟨⟨_, rfl, by omega, by omega⟩, rfl⟩
  case rest =>
    obtain ⟨⟨m, rfl, hm0, hm1⟩, rfl⟩ := hcut
    go_upto_block 2 with fail
    go_cut [3] (fun n wx => (∃ m : Int, n = .int .i64 m ∧ 0 < m ∧ m ≤ 3000 + 2000 * 1000) ∧ wx = (w.alloc (.cells #[.slice AT lT.length cT, .slice AN lN.length cN, .slice AR lR.length cR, .int .i64 gs] 26)))
    case first =>
      go_wp2_with fail
      go_loop [3, 5] (fun n i => ∃ (k : Nat) (m : Int), k ≤ lN.length ∧ i = .int .i64 k ∧ n = .int .i64 m ∧ 0 < m ∧ m ≤ 3000 + 1000 * 1000 + 1000 * (k : Int)) (fun _ i => lN.length - (intOf i).toNat)
      case atStart => exact ⟨0, _, Nat.zero_le _, rfl, rfl, by omega, by omega⟩
      case round =>
        obtain ⟨k, m, hk, rfl, rfl, hm0, hm1⟩ := hrel
        by_cases hlt : k < lN.length
        · by_cases hl2 : k < 200
          · have hx := List.getElem?_eq_getElem hlt
            have hsz := S2.out _ (List.getElem_mem hlt)
            generalize lN[k] = s at hx hsz
            obtain ⟨b, off, hA, hb, hcell⟩ := HC2.out k s hx
            subst hA
            have e1 := (HB.out.cell (p := ⟨b, off + k, none⟩) hb).trans hcell
            simp only [StrV] at e1
            clear hx hcell
            go_wp2
            go_round
            case rel => exact ⟨k + 1, m + ((s.size / 20 : Nat) : Int), by omega, by go_num, by go_num, by omega, by omega⟩
            case measure => simp [intOf]; omega
          · have hq2 : ¬ (k : Int) < 200 := by omega
            go_wp2_with fail
            go_meet
            exact ⟨⟨_, rfl, by omega, by omega⟩, rfl⟩
        · go_wp2_with fail
          go_meet
          exact ⟨⟨_, rfl, by omega, by omega⟩, rfl⟩
    case rest =>
      obtain ⟨⟨m, rfl, hm0, hm1⟩, rfl⟩ := hcut
      go_upto_block 4 with fail
      go_cut [3] (fun n wx => (∃ m : Int, n = .int .i64 m ∧ 0 < m ∧ m ≤ 3000 + 3000 * 1000) ∧ wx = (w.alloc (.cells #[.slice AT lT.length cT, .slice AN lN.length cN, .slice AR lR.length cR, .int .i64 gs] 26)))
      case first =>
        go_wp2_with fail
        go_loop [3, 6] (fun n i => ∃ (k : Nat) (m : Int), k ≤ lR.length ∧ i = .int .i64 k ∧ n = .int .i64 m ∧ 0 < m ∧ m ≤ 3000 + 2000 * 1000 + 1000 * (k : Int)) (fun _ i => lR.length - (intOf i).toNat)
        case atStart => exact ⟨0, _, Nat.zero_le _, rfl, rfl, by omega, by omega⟩
        case round =>
          obtain ⟨k, m, hk, rfl, rfl, hm0, hm1⟩ := hrel
          by_cases hlt : k < lR.length
          · by_cases hl2 : k < 400
            · have hx := List.getElem?_eq_getElem hlt
              have hsz := S3.out _ (List.getElem_mem hlt)
              generalize lR[k] = s at hx hsz
              obtain ⟨b, off, hA, hb, _, hcell, ⟨⟨A9, c9, hv, _⟩, _⟩⟩ := HC3.out k s hx
              subst hA
              rw [hv] at hcell
              have e1 := (HB.out.cell (p := ⟨b, off + k * 2 + 1, none⟩) hb).trans hcell
              clear hx hcell hv
              generalize s.right.length = sz at *
              go_wp2
              go_round
              case rel => exact ⟨k + 1, m + ((sz / 9 : Nat) : Int), by omega, by go_num, by go_num, by omega, by omega⟩
              case measure => simp [intOf]; omega
            · have hq2 : ¬ (k : Int) < 400 := by omega
              go_wp2_with fail
              go_meet
              exact ⟨⟨_, rfl, by omega, by omega⟩, rfl⟩
          · go_wp2_with fail
            go_meet
            exact ⟨⟨_, rfl, by omega, by omega⟩, rfl⟩
      case rest =>
        obtain ⟨⟨m, rfl, hm0, hm1⟩, rfl⟩ := hcut
        go_wp2
        go_ret
        exact ⟨_, rfl, hm0, HB.out⟩
end Go.Proofs.YtdbmeocpjopdhaaGreatDoor
