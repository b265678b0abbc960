/- What Check asks: the document's, third part: known symbols. -/
import Derived.Test.YtdbmeocpjopdhaaG20
import Derived.Test.YtdbmeocpjopdhaaWd
namespace Go.Proofs.Ytdbmeocpjopdhaa
open Go.RowKit
set_option linter.unusedVariables false
/-- A grammar's box and a rule's two cells, as they lie in a world. -/
def Six (y : World) (B : Nat) (a b c d : Value) (rb : Nat) (ro : Nat) (e f : Value) : Prop :=
  y.cell? ⟨B, 0, none⟩ = some a ∧ y.cell? ⟨B, 1, none⟩ = some b ∧ y.cell? ⟨B, 2, none⟩ = some c ∧ y.cell? ⟨B, 3, none⟩ = some d ∧ y.cell? ⟨rb, ro, none⟩ = some e ∧ y.cell? ⟨rb, ro + 1, none⟩ = some f
set_option maxRecDepth 100000 in
set_option maxHeartbeats 6400000 in
theorem rknown_any {w : World} {v : Value} {g : Gm} (h : GrR w v g) : Calls Try.prog 44 #[v] w (Says w g.known) := by
  have hR20 := h.small.2.2.2.2.1
  have HG := Lib.hid (GBox.new w 25 v)
  have HNM := Lib.hid (fun s y (hy : Below w.heap.size w y) => rnon_any (h.later hy) s)
  have HTM := Lib.hid (fun s y (hy : Below w.heap.size w y) => rterm_any (h.later hy) s)
  have HZ : Hid (g.N.length = 0 → g.non g.s = false) := Lib.hid (fun hz => by
    unfold Gm.non
    rw [Bool.and_eq_false_iff, decide_eq_false_iff_not, decide_eq_false_iff_not]
    omega)
  have HF : Hid (g.known = (g.non g.s && g.R.all g.knownR)) := Lib.hid rfl
  have HKR : Hid (∀ r, g.knownR r = (g.non r.left && r.right.all g.sym)) := Lib.hid (fun _ => rfl)
  have HSY : Hid (∀ s, g.sym s = (g.term s || g.non s)) := Lib.hid (fun _ => rfl)
  obtain ⟨AT, cT, AN, cN, AR, cR, rfl, hT, hN, hR⟩ := h.open_
  obtain ⟨⟨A, c, e, hc⟩, _⟩ := hR
  cases e
  have HC := Lib.hid hc
  clear h hT hN hc
  generalize hres : g.known = res at *
  clear hres
  by_cases h0 : g.N.length = 0
  · have hn := HZ.out h0
    rw [hn, Bool.false_and] at HF
    rw [h0] at HG ⊢
    clear HZ HKR HSY HC HNM HTM hn h0
    generalize g.T.length = nT at *
    generalize g.R.length = nR at *
    generalize g.s = gs at *
    go_enter Try.func44, Try.ntmps44
    go_wp2
    go_ret
    exact ⟨ret_bool HF.out.symm, below_alloc _ _⟩
  have h01 : ((g.N.length : Int) == 0) = false := by rw [beq_eq_false_iff_ne]; omega
  have HNS := Lib.hid (HNM.out g.s)
  clear HZ h0
  cases hn : g.non g.s with
  | false =>
    rw [hn] at HNS HF
    clear HKR HSY HC HNM HTM hn
    generalize g.T.length = nT at *
    generalize g.N.length = nN at *
    generalize g.R.length = nR at *
    generalize g.s = gs at *
    go_enter Try.func44, Try.ntmps44
    go_wp2_with fail
    refine (HNS.out _ (below_alloc w _)).mono ?_
    rintro e w1 ⟨rfl, hb1⟩
    have HB1 := Lib.hid (below_alloc_trans hb1)
    clear hb1
    go_wp2
    go_ret
    exact ⟨ret_bool HF.out.symm, HB1.out⟩
  | true =>
    rw [hn, Bool.true_and] at HF
    rw [hn] at HNS
    clear hn
    generalize g.T.length = nT at *
    generalize g.N.length = nN at *
    generalize g.s = gs at *
    generalize hl : g.R = l at *
    clear hl
    go_enter Try.func44, Try.ntmps44
    go_wp2_with fail
    refine (HNS.out _ (below_alloc w _)).mono ?_
    rintro e w1 ⟨rfl, hb1⟩
    have HB1 := Lib.hid (below_alloc_trans hb1)
    have HG1 := Lib.hid (HG.out.later hb1)
    clear hb1
    go_wp2
    go_loopw [3] (fun i wr => ∃ k : Nat, k ≤ l.length ∧ i = .int .i64 k ∧ Hid (∀ j y, j < k → l[j]? = some y → g.knownR y = true) ∧ Hid (Below w.heap.size w wr) ∧ Hid (GBox wr w.heap.size (.agg #[.slice AT nT cT, .slice AN nN cN, .slice AR l.length cR, .int .i64 gs]))) (fun i _ => l.length - (intOf i).toNat)
    case atStart => exact ⟨0, Nat.zero_le _, rfl, Lib.hid (fun j y hj => absurd hj (Nat.not_lt_zero _)), HB1, HG1⟩
    case round =>
      rename World => w9
      obtain ⟨k, hk, rfl, HA, HB, HGR⟩ := hrel
      obtain ⟨d0, d1, d2, d3⟩ := HGR.out.four
      have lg := HGR.out.lt
      by_cases hlt : k < l.length
      · have hx := List.getElem?_eq_getElem hlt
        generalize l[k] = r at hx
        obtain ⟨b, off, hA, hb, h1, h2, ⟨A2, c2, hv, hin⟩, hsr, _⟩ := HC.out k r hx
        subst hA
        rw [hv] at h2
        have HX := Lib.hid hx
        have HIN := Lib.hid hin
        have HY := Lib.hid (fun (hh : g.knownR r = true) => all_step HA.out hx hh)
        have HNO := Lib.hid (fun (hh : g.knownR r = false) => all_no hx hh)
        have HNL := Lib.hid (HNM.out r.left)
        have HKK := Lib.hid (HKR.out r)
        have e1 := (HB.out.cell (p := ⟨b, off + k * 2, none⟩) hb).trans h1
        have e2 := (HB.out.cell (p := ⟨b, off + k * 2 + 1, none⟩) hb).trans h2
        clear hx h1 h2 hv hin
        generalize g.knownR r = kr at *
        generalize r.left = rl at *
        generalize hrr : r.right = rr at *
        clear hrr
        generalize g.non rl = a at *
        have HSIX : Hid (∀ y, Below w9.heap.size w9 y → y.cell? ⟨w.heap.size, 0, none⟩ = some (.slice AT nT cT) ∧ y.cell? ⟨w.heap.size, 1, none⟩ = some (.slice AN nN cN) ∧ y.cell? ⟨w.heap.size, 2, none⟩ = some (.slice (some ⟨b, off, none⟩) l.length cR) ∧ y.cell? ⟨w.heap.size, 3, none⟩ = some (.int .i64 gs) ∧ y.cell? ⟨b, off + k * 2, none⟩ = some (.int .i64 rl) ∧ y.cell? ⟨b, off + k * 2 + 1, none⟩ = some (.slice A2 rr.length c2)) := Lib.hid (fun y hy => by
          obtain ⟨q0, q1, q2, q3⟩ := (HGR.out.later hy).four
          have hbw := Nat.lt_of_lt_of_le hb HB.out.size
          exact ⟨q0, q1, q2, q3, (hy.cell (p := ⟨b, off + k * 2, none⟩) hbw).trans e1, (hy.cell (p := ⟨b, off + k * 2 + 1, none⟩) hbw).trans e2⟩)
        go_wp2_with fail
        go_region_held3 (fun w' => w'.cell? ⟨w.heap.size, 0, none⟩ = some (.slice AT nT cT) ∧ w'.cell? ⟨w.heap.size, 1, none⟩ = some (.slice AN nN cN) ∧ w'.cell? ⟨w.heap.size, 2, none⟩ = some (.slice (some ⟨b, off, none⟩) l.length cR) ∧ w'.cell? ⟨w.heap.size, 3, none⟩ = some (.int .i64 gs) ∧ w'.cell? ⟨b, off + k * 2, none⟩ = some (.int .i64 rl) ∧ w'.cell? ⟨b, off + k * 2 + 1, none⟩ = some (.slice A2 rr.length c2))
          (first | exact HSIX.out _ HZ2.out | exact HSIX.out _ ⟨rfl, rfl, rfl, Nat.le_refl _, fun _ _ => rfl⟩)
          (first | (go_at_call 66; refine (HNL.out _ (below_drew HB.out)).mono ?_; rintro e w2 ⟨rfl, hb2⟩; have HZ2 := Lib.hid ((below_drew (Below.refl _ _)).trans (hb2.mono (Nat.le_refl _))); clear hb2))
        have HB2 := Lib.hid (HB.out.trans (HZ2.out.mono HB.out.size))
        have HG2 := Lib.hid (HGR.out.later HZ2.out)
        cases a with
        | false =>
          have hk2 : kr = false := HKK.out
          have HN2 := Lib.hid (HNO.out hk2)
          all_goals go_wp2
          all_goals go_ret
          all_goals exact ⟨ret_bool (by rw [HF.out, HN2.out]), HB2.out⟩
        | true =>
          go_wp2
          clear d0 d1 d2 d3 e1 e2
          go_loopw [4] (fun i2 wr => ∃ m : Nat, m ≤ rr.length ∧ i2 = .int .i64 m ∧ Hid (∀ j y, j < m → rr[j]? = some y → g.sym y = true) ∧ Hid (Below w9.heap.size w9 wr)) (fun i2 _ => rr.length - (intOf i2).toNat)
          case atStart => exact ⟨0, Nat.zero_le _, rfl, Lib.hid (fun j y hj => absurd hj (Nat.not_lt_zero _)), HZ2⟩
          case round =>
            obtain ⟨m, hm, rfl, HA2, HBX⟩ := hrel
            have HWX := Lib.hid (HB.out.trans (HBX.out.mono HB.out.size))
            have lgx := Nat.lt_of_lt_of_le lg HBX.out.size
            obtain ⟨d0, d1, d2, d3, d4, d5⟩ := HSIX.out wr HBX.out
            by_cases hlt2 : m < rr.length
            · have hs := List.getElem?_eq_getElem hlt2
              generalize rr[m] = s at hs
              obtain ⟨b3, off3, hA3, hb3, h3⟩ := HIN.out m s hs
              subst hA3
              simp only [IntV] at h3
              have d6 := (HWX.out.cell (p := ⟨b3, off3 + m, none⟩) hb3).trans h3
              have HYS := Lib.hid (fun (hh : g.sym s = true) => all_step HA2.out hs hh)
              have HNS2 := Lib.hid (fun (hh : g.sym s = false) => all_no hs hh)
              have HST := Lib.hid (HTM.out s)
              have HSN := Lib.hid (HNM.out s)
              have HSS := Lib.hid (HSY.out s)
              clear h3 hs
              generalize g.sym s = sy at *
              generalize g.term s = a1 at *
              generalize g.non s = a2 at *
              have HS7 : Hid (∀ y, Below wr.heap.size wr y → y.cell? ⟨w.heap.size, 0, none⟩ = some (.slice AT nT cT) ∧ y.cell? ⟨w.heap.size, 1, none⟩ = some (.slice AN nN cN) ∧ y.cell? ⟨w.heap.size, 2, none⟩ = some (.slice (some ⟨b, off, none⟩) l.length cR) ∧ y.cell? ⟨w.heap.size, 3, none⟩ = some (.int .i64 gs) ∧ y.cell? ⟨b, off + k * 2, none⟩ = some (.int .i64 rl) ∧ y.cell? ⟨b, off + k * 2 + 1, none⟩ = some (.slice (some ⟨b3, off3, none⟩) rr.length c2) ∧ y.cell? ⟨b3, off3 + m, none⟩ = some (.int .i64 s)) := Lib.hid (fun y hy => by
                obtain ⟨q0, q1, q2, q3, q4, q5⟩ := HSIX.out y (HBX.out.trans (hy.mono HBX.out.size))
                exact ⟨q0, q1, q2, q3, q4, q5, (hy.cell (p := ⟨b3, off3 + m, none⟩) (Nat.lt_of_lt_of_le hb3 HWX.out.size)).trans d6⟩)
              obtain ⟨I, hI1, hI2⟩ : ∃ I : World → Prop, (∀ w', I w' → Below wr.heap.size wr w') ∧ (∀ w', Below wr.heap.size wr w' → I w') := ⟨_, fun _ h => h, fun _ h => h⟩
              have hI : I wr.drew := hI2 _ (below_drew (Below.refl _ _))
              have hne : Nonempty (Wd I) := ⟨⟨_, hI⟩⟩
              have XI := Lib.hid (fun x : Wd I => hI1 _ x.ok)
              have XJ := Lib.hid hI2
              clear hI1 hI2
              have g0 := fun y : Wd I => (HS7.out _ (XI.out y)).1
              have g1 := fun y : Wd I => (HS7.out _ (XI.out y)).2.1
              have g2 := fun y : Wd I => (HS7.out _ (XI.out y)).2.2.1
              have g3 := fun y : Wd I => (HS7.out _ (XI.out y)).2.2.2.1
              have g4 := fun y : Wd I => (HS7.out _ (XI.out y)).2.2.2.2.1
              have g5 := fun y : Wd I => (HS7.out _ (XI.out y)).2.2.2.2.2.1
              have g6 := fun y : Wd I => (HS7.out _ (XI.out y)).2.2.2.2.2.2
              have CT := Lib.hid (fun y : Wd I => wd_call (I := I) (v := .bool a1) ((HST.out y.w (HWX.out.trans ((XI.out y).mono HWX.out.size))).mono fun e w' hh => ⟨hh.1, XJ.out _ ((XI.out y).trans (hh.2.mono (XI.out y).size))⟩))
              have CN := Lib.hid (fun y : Wd I => wd_call (I := I) (v := .bool a2) ((HSN.out y.w (HWX.out.trans ((XI.out y).mono HWX.out.size))).mono fun e w' hh => ⟨hh.1, XJ.out _ ((XI.out y).trans (hh.2.mono (XI.out y).size))⟩))
              clear HST HSN HS7
              cases a1 with
              | true =>
                have HYY := Lib.hid (HYS.out HSS.out)
                go_wp2_with fail
                refine wp_region_wd I (by kernel_rfl) (by kernel_rfl) hI ?_
                repeat (go_big_quiet_step ((first | (go_at_call 67; exact CT.out _) | (go_at_call 66; exact CN.out _))))
                refine wpQuiet_nil ?_
                intro _ hw'
                obtain ⟨x, rfl⟩ := hw'
                have HB5 := Lib.hid (HBX.out.trans ((XI.out x).mono HBX.out.size))
                have HW5 := Lib.hid (HWX.out.trans ((XI.out x).mono HWX.out.size))
                clear d0 d1 d2 d3 d4 d5 d6 g0 g1 g2 g3 g4 g5 g6
                go_wp2
                go_roundw
                case rel => exact ⟨m + 1, by omega, by go_num, HYY, HB5⟩
                case measure => simp [intOf]; omega
              | false =>
                cases a2 with
                | true =>
                  have HYY := Lib.hid (HYS.out HSS.out)
                  go_wp2_with fail
                  refine wp_region_wd I (by kernel_rfl) (by kernel_rfl) hI ?_
                  repeat (go_big_quiet_step ((first | (go_at_call 67; exact CT.out _) | (go_at_call 66; exact CN.out _))))
                  refine wpQuiet_nil ?_
                  intro _ hw'
                  obtain ⟨x, rfl⟩ := hw'
                  have HB5 := Lib.hid (HBX.out.trans ((XI.out x).mono HBX.out.size))
                  have HW5 := Lib.hid (HWX.out.trans ((XI.out x).mono HWX.out.size))
                  clear d0 d1 d2 d3 d4 d5 d6 g0 g1 g2 g3 g4 g5 g6
                  go_wp2
                  go_roundw
                  case rel => exact ⟨m + 1, by omega, by go_num, HYY, HB5⟩
                  case measure => simp [intOf]; omega
                | false =>
                  have HN2 := Lib.hid (HNS2.out HSS.out)
                  have HN3 := Lib.hid (HNO.out (by rw [HKK.out, HN2.out]; rfl))
                  go_wp2_with fail
                  refine wp_region_wd I (by kernel_rfl) (by kernel_rfl) hI ?_
                  repeat (go_big_quiet_step ((first | (go_at_call 67; exact CT.out _) | (go_at_call 66; exact CN.out _))))
                  refine wpQuiet_nil ?_
                  intro _ hw'
                  obtain ⟨x, rfl⟩ := hw'
                  have HB5 := Lib.hid (HBX.out.trans ((XI.out x).mono HBX.out.size))
                  have HW5 := Lib.hid (HWX.out.trans ((XI.out x).mono HWX.out.size))
                  clear d0 d1 d2 d3 d4 d5 d6 g0 g1 g2 g3 g4 g5 g6
                  go_wp2
                  go_ret
                  exact ⟨ret_bool (by rw [HF.out, HN3.out]), HW5.out⟩
            · obtain rfl : m = rr.length := by omega
              have HAL := Lib.hid (all_yes HA2.out)
              have HYY := Lib.hid (HY.out (by rw [HKK.out, HAL.out]; rfl))
              have HGX := Lib.hid (HGR.out.later HBX.out)
              go_wp2
              go_roundw
              case rel => exact ⟨k + 1, by omega, by go_num, HYY, HWX, HGX⟩
              case measure => simp [intOf]; omega
      · obtain rfl : k = l.length := by omega
        have HAL := Lib.hid (all_yes HA.out)
        go_wp2
        go_ret
        exact ⟨ret_bool (by rw [HF.out, HAL.out]), HB.out⟩
end Go.Proofs.Ytdbmeocpjopdhaa
