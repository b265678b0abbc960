/- What Check asks: the document's, second part. -/
import Derived.Test.YtdbmeocpjopdhaaG20
import Derived.Test.YtdbmeocpjopdhaaG11
namespace Go.Proofs.Ytdbmeocpjopdhaa
open Go.RowKit
set_option linter.unusedVariables false
theorem place_mem (l : List ByteArray) (s : ByteArray) : 0 ≤ placeL l s ↔ s ∈ l := by
  unfold placeL
  constructor
  · intro hn
    have h2 := decide_eq_true hn
    rw [idxL_any] at h2
    obtain ⟨x, hx, he⟩ := List.any_eq_true.1 h2
    exact of_decide_eq_true he ▸ hx
  · intro hx
    refine of_decide_eq_true ?_
    rw [idxL_any]
    exact List.any_eq_true.2 ⟨s, hx, decide_eq_true rfl⟩
theorem nodup_next {l : List ByteArray} {k : Nat} {s : ByteArray} (hs : l[k]? = some s) : (l.take (k + 1)).Nodup ↔ (l.take k).Nodup ∧ ¬ s ∈ l.take k := by
  obtain ⟨hk, rfl⟩ := List.getElem?_eq_some_iff.1 hs
  rw [List.take_succ_eq_append_getElem hk, List.nodup_append]
  constructor
  · rintro ⟨h1, _, h3⟩
    exact ⟨h1, fun hm => h3 _ hm _ (by simp) rfl⟩
  · rintro ⟨h1, h2⟩
    exact ⟨h1, by simp, fun a ha b hb e => h2 (by rw [List.mem_singleton.1 hb] at e; exact e ▸ ha)⟩
theorem nodup_not {l : List ByteArray} {k : Nat} {s : ByteArray} (hs : l[k]? = some s) (hm : s ∈ l.take k) : ¬ l.Nodup := by
  intro h
  have h1 : (l.take (k + 1)).Nodup := (List.take_sublist _ _).nodup h
  exact ((nodup_next hs).1 h1).2 hm
def Drew (w : World) (b : Bool) (e : Ending) (w' : World) : Prop := e = .returned (.bool b) ∧ ∃ d, w' = w.drewN d
set_option maxRecDepth 100000 in
set_option maxHeartbeats 1600000 in
theorem ronce_any {w : World} {v : Value} {l : List ByteArray} (h : Arr StrV w v l) : Calls Try.prog 42 #[v] w (Drew w (decide l.Nodup)) := by
  have hl := h
  obtain ⟨⟨A, c, rfl, hc⟩, hs, hro⟩ := hl
  have hcap := (hro _ _ _ rfl).1
  have HC := Lib.hid hc
  have HP : Hid (∀ k s b off, l[k]? = some s → A = some ⟨b, off, none⟩ → ∀ y, (∃ d, y = w.drewN d) → Calls Try.prog 65 #[.slice A k c, .string s] y fun e w' => e = .returned (.int .i64 (placeL (l.take k) s)) ∧ ∃ d, w' = y.drewN d) := Lib.hid (by
    rintro k s b off hx hA y ⟨d, rfl⟩
    have hk := (List.getElem?_eq_some_iff.1 hx).1
    have h2 : Arr StrV (w.drewN d) (.slice A l.length c) l := h.later (below_draws (Below.refl _ w) d)
    exact (rplace_any (h2.take k (by omega) c ⟨by omega, fun e => by rw [hA] at e; cases e⟩) s).mono fun e w' hh => ⟨hh.1, 0, hh.2⟩)
  clear hc h hro
  go_enter Try.func42, Try.ntmps42
  go_wp2
  go_loopw [3] (fun i wr => ∃ k : Nat, k ≤ l.length ∧ i = .int .i64 k ∧ Hid ((l.take k).Nodup) ∧ Hid (∃ d, wr = w.drewN d)) (fun i _ => l.length - (intOf i).toNat)
  case atStart => exact ⟨0, Nat.zero_le _, rfl, Lib.hid (by simp), Lib.hid ⟨0, rfl⟩⟩
  case round =>
    obtain ⟨k, hk, rfl, HA, HD⟩ := hrel
    by_cases hlt : k < l.length
    · have hx := List.getElem?_eq_getElem hlt
      generalize l[k] = s at hx
      obtain ⟨b, off, hA, hb, hcell⟩ := HC.out k s hx
      have HPL := Lib.hid (fun n => HP.out k s b off hx hA (wr.drewN n) (by obtain ⟨d, rfl⟩ := HD.out; exact ⟨d + n, World.drewN_drewN _ _ _⟩))
      subst hA
      simp only [StrV] at hcell
      have e1 : wr.cell? ⟨b, off + k, none⟩ = some (.string s) := by obtain ⟨d, rfl⟩ := HD.out; exact hcell
      have HX := Lib.hid hx
      have HM := Lib.hid (place_mem (l.take k) s)
      clear hx hcell
      generalize placeL (l.take k) s = n at *
      have hk2 : (k : Int) ≤ (c : Int) := by omega
      by_cases hn : 0 ≤ n
      · have HN := Lib.hid (nodup_not HX.out (HM.out.1 hn))
        go_wp2
        go_quiet ((go_at_call 65; exact Calls.quiet_of (HPL.out _)))
        go_wp2
        go_ret
        refine ⟨ret_bool (decide_eq_false HN.out).symm, ?_⟩
        obtain ⟨d, rfl⟩ := HD.out
        exact ⟨_, World.drewN_drewN _ _ _⟩
      · have HN := Lib.hid ((nodup_next HX.out).2 ⟨HA.out, fun hm => hn (HM.out.2 hm)⟩)
        go_wp2
        go_quiet ((go_at_call 65; exact Calls.quiet_of (HPL.out _)))
        have HDD : Hid (∃ q, wr.drewN nq = w.drewN q) := Lib.hid (by
          obtain ⟨q, hq⟩ := HD.out
          exact ⟨q + nq, by rw [hq, World.drewN_drewN]⟩)
        go_wp2
        go_roundw
        case rel => exact ⟨k + 1, by omega, by go_num, HN, HDD⟩
        case measure => simp [intOf]; omega
    · obtain rfl : k = l.length := by omega
      have HN : Hid l.Nodup := Lib.hid (by have hh := HA.out; rw [List.take_length] at hh; exact hh)
      go_wp2
      go_ret
      exact ⟨ret_bool (decide_eq_true HN.out).symm, HD.out⟩
set_option maxRecDepth 100000 in
set_option maxHeartbeats 3200000 in
theorem rform_any {w : World} {v : Value} {g : Gm} (h : GrR w v g) : Calls Try.prog 41 #[v] w (Says w g.form) := by
  have hT20 := h.small.2.2.1
  have hN20 := h.small.2.2.2.1
  have HSZ1 := Lib.hid h.small.1
  have HSZ2 := Lib.hid h.small.2.1
  have HG := Lib.hid (GBox.new w 25 v)
  obtain ⟨AT, cT, AN, cN, AR, cR, rfl, hT, hN, hR⟩ := h.open_
  obtain ⟨⟨A1, c1, e1, hc1⟩, _, _⟩ := hT
  cases e1
  obtain ⟨⟨A2, c2, e2, hc2⟩, _, _⟩ := hN
  cases e2
  have HC1 := Lib.hid hc1
  have HC2 := Lib.hid hc2
  have HF : Hid (g.form = (g.T.all okT && g.N.all okN)) := Lib.hid rfl
  have HP := Lib.hid (fun s hs y => rplain_any s hs y)
  have HQ := Lib.hid (fun s hs y => risq_any s hs y)
  clear h hR hc1 hc2
  generalize g.form = res at *
  generalize g.T = lT at *
  generalize g.N = lN at *
  generalize g.R.length = nR at *
  generalize g.s = gs at *
  go_enter Try.func41, Try.ntmps41
  go_wp2
  go_loopw [3] (fun i wr => ∃ k : Nat, k ≤ lT.length ∧ i = .int .i64 k ∧ Hid (∀ j y, j < k → lT[j]? = some y → okT y = true) ∧ Hid (Below w.heap.size w wr) ∧ Hid (GBox wr w.heap.size (.agg #[.slice AT lT.length cT, .slice AN lN.length cN, .slice AR nR cR, .int .i64 gs]))) (fun i _ => lT.length - (intOf i).toNat)
  case atStart => exact ⟨0, Nat.zero_le _, rfl, Lib.hid (fun j y hj => absurd hj (Nat.not_lt_zero _)), Lib.hid (below_alloc _ _), HG⟩
  case round =>
    obtain ⟨k, hk, rfl, HA, HB, HGR⟩ := hrel
    obtain ⟨d0, d1, d2, d3⟩ := HGR.out.four
    by_cases hlt : k < lT.length
    · have hx := List.getElem?_eq_getElem hlt
      generalize lT[k] = s at hx
      obtain ⟨b, off, hA, hb, hcell⟩ := HC1.out k s hx
      subst hA
      simp only [StrV] at hcell
      have e1 := (HB.out.cell (p := ⟨b, off + k, none⟩) hb).trans hcell
      have hsz := HSZ1.out s (List.mem_of_getElem? hx)
      have HPS := Lib.hid (HP.out s (by omega))
      have HQS := Lib.hid (HQ.out s (by omega))
      have HY := Lib.hid (fun (hh : okT s = true) => all_step HA.out hx hh)
      have HN := Lib.hid (fun (hh : okT s = false) => all_no hx hh)
      have HOK : Hid (okT s = (okName s.data.toList || quotedB s.data.toList)) := Lib.hid rfl
      clear hx hcell
      generalize okT s = ok at *
      generalize okName s.data.toList = p1 at *
      generalize quotedB s.data.toList = p2 at *
      go_wp2_with fail
      refine (HPS.out _).mono ?_
      rintro e w1 ⟨rfl, rfl⟩
      cases p1 with
      | true =>
        have HY2 := Lib.hid (HY.out HOK.out)
        go_wp2
        go_roundw
        case rel => exact ⟨k + 1, by omega, by go_num, HY2, HB, HGR⟩
        case measure => simp [intOf]; omega
      | false =>
        go_wp2_with fail
        refine (HQS.out _).mono ?_
        rintro e w2 ⟨rfl, hb2⟩
        have HB2 := Lib.hid (HB.out.trans (hb2.mono HB.out.size))
        have HG2 := Lib.hid (HGR.out.later hb2)
        clear hb2 d0 d1 d2 d3
        cases p2 with
        | true =>
          have HY2 := Lib.hid (HY.out HOK.out)
          go_wp2
          go_roundw
          case rel => exact ⟨k + 1, by omega, by go_num, HY2, HB2, HG2⟩
          case measure => simp [intOf]; omega
        | false =>
          have HN2 := Lib.hid (HN.out HOK.out)
          go_wp2
          go_ret
          exact ⟨ret_bool (by rw [HF.out, HN2.out]; rfl), HB2.out⟩
    · obtain rfl : k = lT.length := by omega
      have HAL := Lib.hid (all_yes HA.out)
      rw [HAL.out, Bool.true_and] at HF
      clear HAL HA
      go_wp2
      clear d0 d1 d2 d3
      go_loopw [4] (fun i wr => ∃ k : Nat, k ≤ lN.length ∧ i = .int .i64 k ∧ Hid (∀ j y, j < k → lN[j]? = some y → okN y = true) ∧ Hid (Below w.heap.size w wr) ∧ Hid (GBox wr w.heap.size (.agg #[.slice AT lT.length cT, .slice AN lN.length cN, .slice AR nR cR, .int .i64 gs]))) (fun i _ => lN.length - (intOf i).toNat)
      case atStart => exact ⟨0, Nat.zero_le _, rfl, Lib.hid (fun j y hj => absurd hj (Nat.not_lt_zero _)), HB, HGR⟩
      case round =>
        clear HB HGR
        obtain ⟨k, hk, rfl, HA, HB, HGR⟩ := hrel
        obtain ⟨d0, d1, d2, d3⟩ := HGR.out.four
        by_cases hlt : k < lN.length
        · have hx := List.getElem?_eq_getElem hlt
          generalize lN[k] = s at hx
          obtain ⟨b, off, hA, hb, hcell⟩ := HC2.out k s hx
          subst hA
          simp only [StrV] at hcell
          have e1 := (HB.out.cell (p := ⟨b, off + k, none⟩) hb).trans hcell
          have hsz := HSZ2.out s (List.mem_of_getElem? hx)
          have HPS := Lib.hid (HP.out s (by omega))
          have HY := Lib.hid (fun (hh : okN s = true) => all_step HA.out hx hh)
          have HN := Lib.hid (fun (hh : okN s = false) => all_no hx hh)
          have HOK : Hid (okN s = okName s.data.toList) := Lib.hid rfl
          clear hx hcell
          generalize okN s = ok at *
          generalize okName s.data.toList = p1 at *
          go_wp2_with fail
          refine (HPS.out _).mono ?_
          rintro e w1 ⟨rfl, rfl⟩
          cases p1 with
          | true =>
            have HY2 := Lib.hid (HY.out HOK.out)
            go_wp2
            go_roundw
            case rel => exact ⟨k + 1, by omega, by go_num, HY2, HB, HGR⟩
            case measure => simp [intOf]; omega
          | false =>
            have HN2 := Lib.hid (HN.out HOK.out)
            go_wp2
            go_ret
            exact ⟨ret_bool (by rw [HF.out, HN2.out]), HB.out⟩
        · obtain rfl : k = lN.length := by omega
          have HAL := Lib.hid (all_yes HA.out)
          go_wp2
          go_ret
          exact ⟨ret_bool (by rw [HF.out, HAL.out]), HB.out⟩
set_option maxRecDepth 100000 in
set_option maxHeartbeats 3200000 in
theorem rnames_any {w : World} {v : Value} {g : Gm} (h : GrR w v g) : Calls Try.prog 43 #[v] w fun e w' => ∃ o, e = .returned o ∧ Arr StrV w' o (g.T ++ g.N) ∧ Below w.heap.size w w' := by
  have hT20 := h.small.2.2.1
  have hN20 := h.small.2.2.2.1
  have HG := Lib.hid (GBox.new w 25 v)
  obtain ⟨AT, cT, AN, cN, AR, cR, rfl, hT, hN, hR⟩ := h.open_
  have HSA := Lib.hid (fun y (hy : Below w.heap.size w y) => (hT.later hy).src str_one)
  have HSB := Lib.hid (fun y (hy : Below w.heap.size w y) => (hN.later hy).src str_one)
  have hxl : (g.T.map StrV).length = g.T.length := List.length_map _
  have hyl : (g.N.map StrV).length = g.N.length := List.length_map _
  have HEND : Hid (∀ w1 o y, OutAt 9 w1 (g.T.map StrV ++ g.N.map StrV) o y → Arr StrV y o (g.T ++ g.N)) := Lib.hid (fun w1 o y ho => OutAt.arr (E := StrV) (by rw [List.map_append]; exact ho) (by rw [List.length_append]; omega))
  clear h hT hN hR
  generalize g.T ++ g.N = L at *
  generalize g.T.map StrV = xs at *
  generalize g.N.map StrV = ys at *
  generalize g.T.length = nT at *
  generalize g.N.length = nN at *
  generalize g.R.length = nR at *
  generalize g.s = gs at *
  subst hxl
  subst hyl
  obtain ⟨d0, d1, d2, d3⟩ := HG.out.four
  have hEl := ElStr
  go_enter Try.func43, Try.ntmps43
  go_wp2_with fail
  go_region_law (first
    | (refine step_app ElStr (.tmp 3) (.tmp 5) ?_ ?_ (base := w.heap.size + 1) (n := 0) (m := xs.length) (N := xs.length) (v := .slice (some ⟨w.heap.size + 1, 0, none⟩) 0 0) (src := .slice AT xs.length cT) (xs := []) (news := xs) ?_ ?_ ?_ ?_ ?_ ?_ ?_ ?_ ?_
       · rfl
       · rfl
       · rfl
       · rfl
       · exact own_made (W := w.alloc _) (by simp) (Nat.le_refl _) (by decide) rfl
       · exact HSA.out _ (below_drew (below_more (below_alloc w _) _))
       · omega
       · unfold maxLen; omega
       · omega
       · simp
       intro A2 c2 w2 r1 r2 r3
       have HR1 := Lib.hid r1
       have hbx : Blk w2 w.heap.size 25 #[.slice AT xs.length cT, .slice AN ys.length cN, .slice AR nR cR, .int .i64 gs] := r2.blk ((Blk.new w 25 _).alloc _) (.inl (by omega))
       have f0 := hbx.cell 0
       have f1 := hbx.cell 1
       have f2 := hbx.cell 2
       have f3 := hbx.cell 3
       simp only [List.getElem?_toArray, List.getElem?_cons_zero, List.getElem?_cons_succ] at f0 f1 f2 f3
       have HB2 : Hid (Below (w.heap.size + 1) (w.alloc (.cells #[.slice AT xs.length cT, .slice AN ys.length cN, .slice AR nR cR, .int .i64 gs] 25)) w2) := Lib.hid ((below_drew ((below_alloc (w.alloc (.cells #[.slice AT xs.length cT, .slice AN ys.length cN, .slice AR nR cR, .int .i64 gs] 25)) _).mono (by simp))).trans (r2.below (by simp)))
       have hws := HB2.out.size
       clear r1 r2 r3 hbx)
    | (refine step_app ElStr (.tmp 6) (.tmp 8) ?_ ?_ (base := w.heap.size + 1) (n := xs.length) (m := ys.length) (N := xs.length + ys.length) (v := .slice A2 xs.length c2) (src := .slice AN ys.length cN) (xs := xs) (news := ys) ?_ ?_ ?_ ?_ ?_ ?_ ?_ ?_ ?_
       · rfl
       · rfl
       · rfl
       · rfl
       · exact HR1.out
       · exact HSB.out _ ((below_alloc w _).trans (HB2.out.mono (by omega)))
       · rfl
       · unfold maxLen; omega
       · omega
       · simp at hws ⊢; omega
       intro A4 c4 w4 q1 q2 q3
       have HR4 := Lib.hid q1
       have HB4 := Lib.hid (HB2.out.trans (q2.below (by simp at hws ⊢; omega)))
       clear q1 q2 q3))
  all_goals go_wp2
  all_goals go_ret
  all_goals refine ⟨_, rfl, HEND.out (w.alloc (.cells #[.slice AT xs.length cT, .slice AN ys.length cN, .slice AR nR cR, .int .i64 gs] 25)) _ _ ⟨A4, c4, by rw [List.length_append]; rfl, ?_, ?_⟩, (below_alloc w _).trans (HB4.out.mono (by omega))⟩
  all_goals rw [show (w.alloc (.cells #[.slice AT xs.length cT, .slice AN ys.length cN, .slice AR nR cR, .int .i64 gs] 25)).heap.size = w.heap.size + 1 by simp]
  all_goals first
    | exact HB4.out
    | (rw [List.length_append]; exact HR4.out)
end Go.Proofs.Ytdbmeocpjopdhaa
