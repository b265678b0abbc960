/- What Check asks: the document's, fourth part: no two rules are the same. -/
import Derived.Test.YtdbmeocpjopdhaaG20
import Derived.Test.YtdbmeocpjopdhaaWd
namespace Go.Proofs.Ytdbmeocpjopdhaa
open Go.RowKit
set_option linter.unusedVariables false
theorem sameR_comm (a b : Ru) : sameR a b = sameR b a := by
  unfold sameR
  rw [Bool.eq_iff_iff, Bool.and_eq_true, Bool.and_eq_true, beq_iff_eq, beq_iff_eq, beq_iff_eq, beq_iff_eq]
  exact ⟨fun h => ⟨h.1.symm, h.2.symm⟩, fun h => ⟨h.1.symm, h.2.symm⟩⟩
/-- The rule at i is like none of the first m. -/
def UnIn (l : List Ru) (i m : Nat) : Prop := ∀ (j : Nat) (x r : Ru), j < m → l[j]? = some x → l[i]? = some r → sameR x r = false
theorem UnIn.next {l : List Ru} {i m : Nat} {x r : Ru} (h : UnIn l i m) (hx : l[m]? = some x) (hr : l[i]? = some r) (hs : sameR r x = false) : UnIn l i (m + 1) := by
  intro j x' r' hj h1 h2
  by_cases e : j = m
  · subst e
    rw [hx] at h1; rw [hr] at h2; cases h1; cases h2
    rw [sameR_comm]; exact hs
  · exact h j x' r' (by omega) h1 h2
theorem UnIn.all {l : List Ru} {i : Nat} (h : UnIn l i i) (k : UnTo l i) : UnTo l (i + 1) := by
  intro i' j x r hi hj hx hr
  by_cases e : i' = i
  · subst e; exact h j x r hj hx hr
  · exact k i' j x r (by omega) hj hx hr
theorem un_no {l : List Ru} {i m : Nat} {x r : Ru} (hm : m < i) (hx : l[m]? = some x) (hr : l[i]? = some r) (hs : sameR r x = true) : ¬ Un l := by
  intro h
  have := h i m x r hm hx hr
  rw [sameR_comm, hs] at this
  cases this
set_option maxRecDepth 100000 in
set_option maxHeartbeats 6400000 in
open Classical in
theorem runlike_any {w : World} {v : Value} {g : Gm} (h : GrR w v g) : Calls Try.prog 45 #[v] w (Says w g.unlike) := by
  have hR20 := h.small.2.2.2.2.1
  have HG := Lib.hid (GBox.new w 25 v)
  have HF : Hid (g.unlike = decide (Un g.R)) := Lib.hid rfl
  obtain ⟨AT, cT, AN, cN, AR, cR, rfl, hT, hN, hR⟩ := h.open_
  obtain ⟨⟨A, c, e, hc⟩, _⟩ := hR
  cases e
  have HC := Lib.hid hc
  clear h hT hN hc
  generalize hres : g.unlike = res at *
  clear hres
  generalize g.T.length = nT at *
  generalize g.N.length = nN at *
  generalize g.s = gs at *
  generalize g.R = l at *
  go_enter Try.func45, Try.ntmps45
  go_wp2
  go_loopw [3] (fun i wr => ∃ k : Nat, k ≤ l.length ∧ i = .int .i64 k ∧ Hid (UnTo l k) ∧ Hid (Below w.heap.size w wr) ∧ Hid (GBox wr w.heap.size (.agg #[.slice AT nT cT, .slice AN nN cN, .slice AR l.length cR, .int .i64 gs]))) (fun i _ => l.length - (intOf i).toNat)
  case atStart => exact ⟨0, Nat.zero_le _, rfl, Lib.hid (fun i j x r hi => absurd hi (Nat.not_lt_zero _)), Lib.hid (below_alloc _ _), HG⟩
  case round =>
    rename World => w9
    obtain ⟨k, hk, rfl, HA, HB, HGR⟩ := hrel
    obtain ⟨d0, d1, d2, d3⟩ := HGR.out.four
    by_cases hlt : k < l.length
    · have hx := List.getElem?_eq_getElem hlt
      generalize l[k] = r at hx
      obtain ⟨b, off, hA, hb, h1, h2, hrr⟩ := HC.out k r hx
      subst hA
      have HX := Lib.hid hx
      have HRR := Lib.hid hrr
      have HR1 := Lib.hid h1
      have HR2 := Lib.hid h2
      clear hx h1 h2 hrr
      go_wp2
      clear d0 d1 d2 d3
      go_loopw [4] (fun i2 wr => ∃ m : Nat, m ≤ k ∧ i2 = .int .i64 m ∧ Hid (UnIn l k m) ∧ Hid (Below w9.heap.size w9 wr)) (fun i2 _ => k - (intOf i2).toNat)
      case atStart => exact ⟨0, Nat.zero_le _, rfl, Lib.hid (fun j x r hj => absurd hj (Nat.not_lt_zero _)), Lib.hid (Below.refl _ _)⟩
      case round =>
        obtain ⟨m, hm, rfl, HA2, HBX⟩ := hrel
        have HWX := Lib.hid (HB.out.trans (HBX.out.mono HB.out.size))
        have HGX := Lib.hid (HGR.out.later HBX.out)
        by_cases hlt2 : m < k
        · have hy := List.getElem?_eq_getElem (show m < l.length by omega)
          generalize l[m]'(by omega) = x at hy
          obtain ⟨b', off', hA', _, h3, h4, hxx⟩ := HC.out m x hy
          cases hA'
          have HYES := Lib.hid (fun hs => HA2.out.next hy HX.out hs)
          have HNO := Lib.hid (fun hs => un_no hlt2 hy HX.out hs)
          obtain ⟨I, hI1, hI2⟩ : ∃ I : World → Prop, (∀ w', I w' → Below wr.heap.size wr w') ∧ (∀ w', Below wr.heap.size wr w' → I w') := ⟨_, fun _ h => h, fun _ h => h⟩
          have hI : I wr.drew := hI2 _ (below_drew (Below.refl _ _))
          have hne : Nonempty (Wd I) := ⟨⟨_, hI⟩⟩
          have XI := Lib.hid (fun x : Wd I => hI1 _ x.ok)
          have XW := Lib.hid (fun x : Wd I => HWX.out.trans ((hI1 _ x.ok).mono HWX.out.size))
          have XJ := Lib.hid hI2
          clear hI1 hI2
          have g0 := fun y : Wd I => ((HGX.out.later (XI.out y)).four).1
          have g1 := fun y : Wd I => ((HGX.out.later (XI.out y)).four).2.1
          have g2 := fun y : Wd I => ((HGX.out.later (XI.out y)).four).2.2.1
          have g3 := fun y : Wd I => ((HGX.out.later (XI.out y)).four).2.2.2
          have g4 := fun y : Wd I => ((XW.out y).cell (p := ⟨b, off + k * 2, none⟩) hb).trans HR1.out
          have g5 := fun y : Wd I => ((XW.out y).cell (p := ⟨b, off + k * 2 + 1, none⟩) hb).trans HR2.out
          have g6 := fun y : Wd I => ((XW.out y).cell (p := ⟨b, off + m * 2, none⟩) hb).trans h3
          have g7 := fun y : Wd I => ((XW.out y).cell (p := ⟨b, off + m * 2 + 1, none⟩) hb).trans h4
          have CS := Lib.hid (fun y : Wd I => wd_call (I := I) (v := .bool (sameR r x)) ((rsame_any (HRR.out.later (XW.out y)) (hxx.later (XW.out y))).mono fun e w' hh => ⟨hh.1, XJ.out _ ((XI.out y).trans (hh.2.mono (XI.out y).size))⟩))
          simp only [RuV] at CS
          obtain ⟨d0, d1, d2, d3⟩ := HGX.out.four
          clear h3 h4 hxx hy
          generalize sameR r x = q at *
          generalize r.left = rl at *
          generalize r.v = rv at *
          generalize x.left = xl at *
          generalize x.v = xv at *
          cases q with
          | true =>
            have HN := Lib.hid (HNO.out rfl)
            go_wp2_with fail
            refine wp_region_wd I (by kernel_rfl) (by kernel_rfl) hI ?_
            repeat (go_big_quiet_step ((first | (go_at_call 68; exact CS.out _))))
            refine wpQuiet_nil ?_
            intro _ hw'
            obtain ⟨x, rfl⟩ := hw'
            have HB5 := Lib.hid (XW.out x)
            clear d0 d1 d2 d3 g0 g1 g2 g3 g4 g5 g6 g7
            go_wp2
            go_ret
            exact ⟨ret_bool (by rw [HF.out]; exact (decide_eq_false HN.out).symm), HB5.out⟩
          | false =>
            have HN := Lib.hid (HYES.out rfl)
            go_wp2_with fail
            refine wp_region_wd I (by kernel_rfl) (by kernel_rfl) hI ?_
            repeat (go_big_quiet_step ((first | (go_at_call 68; exact CS.out _))))
            refine wpQuiet_nil ?_
            intro _ hw'
            obtain ⟨x, rfl⟩ := hw'
            have HB5 := Lib.hid (HBX.out.trans ((XI.out x).mono HBX.out.size))
            clear d0 d1 d2 d3 g0 g1 g2 g3 g4 g5 g6 g7
            go_wp2
            go_roundw
            case rel => exact ⟨m + 1, by omega, by go_num, HN, HB5⟩
            case measure => simp [intOf]; omega
        · obtain rfl : m = k := by omega
          have HN := Lib.hid (HA2.out.all HA.out)
          obtain ⟨d0, d1, d2, d3⟩ := HGX.out.four
          go_wp2
          go_roundw
          case rel => exact ⟨m + 1, by omega, by go_num, HN, HWX, HGX⟩
          case measure => simp [intOf]; omega
    · obtain rfl : k = l.length := by omega
      have HN := Lib.hid HA.out.all
      go_wp2
      go_ret
      exact ⟨ret_bool (by rw [HF.out]; exact HN.out.symm), HB.out⟩
end Go.Proofs.Ytdbmeocpjopdhaa
