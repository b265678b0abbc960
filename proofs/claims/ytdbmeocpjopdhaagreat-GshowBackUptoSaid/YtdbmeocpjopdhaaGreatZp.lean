/- What Check asks: the document's, first part. What Check asks: the document's, second part. What Check asks: the document's, third part: known symbols. What Check asks: the document's, fourth part: no two rules are the same. Check and Ordered: the document's. -/
import Derived.Test.YtdbmeocpjopdhaaGreatZo
import Derived.Deep.RegionLaw
import Derived.Deep.RegionHeld3
import Derived.Test.YtdbmeocpjopdhaaGreatZm
import Derived.Test.YtdbmeocpjopdhaaGreatZa
namespace Go.Proofs.YtdbmeocpjopdhaaGreat
open Go.RowKit
set_option linter.unusedVariables false
theorem all_step {α : Type} {p : α → Bool} {l : List α} {k : Nat} {x : α} (h : ∀ j y, j < k → l[j]? = some y → p y = true) (hx : l[k]? = some x) (hp : p x = true) : ∀ j y, j < k + 1 → l[j]? = some y → p y = true := by
  intro j y hj hy
  by_cases e : j = k
  · subst e
    rw [hx] at hy
    cases hy
    exact hp
  · exact h j y (by omega) hy
theorem all_yes {α : Type} {p : α → Bool} {l : List α} (h : ∀ j y, j < l.length → l[j]? = some y → p y = true) : l.all p = true := by
  rw [List.all_eq_true]
  intro x hx
  obtain ⟨k, hk, he⟩ := List.mem_iff_getElem.1 hx
  exact h k x hk (by rw [← he]; exact List.getElem?_eq_getElem hk)
theorem all_no {α : Type} {p : α → Bool} {l : List α} {k : Nat} {x : α} (hx : l[k]? = some x) (hp : p x = false) : l.all p = false := by
  rw [List.all_eq_false]
  exact ⟨x, List.mem_of_getElem? hx, by rw [hp]; simp⟩
set_option maxRecDepth 100000 in
set_option maxHeartbeats 3200000 in
theorem rmany_any {w : World} {v : Value} {g : Gm} (h : GrR w v g) : Calls Tryz.prog 12 #[v] w (Says w (!g.few)) := by
  have hR20 := h.small.2.2.2.2.1
  have HG := Lib.hid (GBox.new w 25 v)
  obtain ⟨AT, cT, AN, cN, AR, cR, rfl, hT, hN, hR⟩ := h.open_
  obtain ⟨⟨A, c, e, hc⟩, _⟩ := hR
  cases e
  have HC := Lib.hid hc
  have HF : Hid (g.few = ((decide (g.T.length ≤ 120) && decide (g.N.length ≤ 120)) && (decide (g.R.length ≤ 300) && g.R.all shortR))) := Lib.hid rfl
  clear h hT hN hc
  generalize g.few = few at *
  generalize g.R = l at *
  generalize g.T.length = nT at *
  generalize g.N.length = nN at *
  generalize g.s = gs at *
  obtain ⟨d0, d1, d2, d3⟩ := HG.out.four
  have hlt0 : w.heap.size < (w.alloc (.cells #[.slice AT nT cT, .slice AN nN cN, .slice AR l.length cR, .int .i64 gs] 25)).heap.size := by simp
  go_enter Tryz.func12, Tryz.ntmps12
  go_wp2
  go_loop [3] (fun i => ∃ k : Nat, k ≤ l.length ∧ i = .int .i64 k ∧ Hid (∀ j y, j < k → l[j]? = some y → shortR y = true)) (fun i => l.length - (intOf i).toNat)
  case atStart => exact ⟨0, Nat.zero_le _, rfl, Lib.hid (fun j y hj => absurd hj (Nat.not_lt_zero _))⟩
  case round =>
    obtain ⟨k, hk, rfl, HA⟩ := hrel
    by_cases hlt : k < l.length
    · have hx := List.getElem?_eq_getElem hlt
      generalize l[k] = r at hx
      obtain ⟨b, off, hA, hb, h1, h2, ⟨A2, c2, hv, _⟩, _⟩ := HC.out k r hx
      subst hA
      rw [hv] at h2
      have e2 := ((below_alloc w (.cells #[.slice AT nT cT, .slice AN nN cN, .slice (some ⟨b, off, none⟩) l.length cR, .int .i64 gs] 25)).cell (p := ⟨b, off + k * 2 + 1, none⟩) hb).trans h2
      have HX := Lib.hid hx
      clear h1 h2 hv hx
      by_cases hs : r.right.length ≤ 8
      · have HN := Lib.hid (all_step HA.out HX.out (show shortR r = true from decide_eq_true hs))
        generalize r.right.length = rn at *
        go_wp2
        go_round
        case rel => exact ⟨k + 1, by omega, by go_num, HN⟩
        case measure => simp [intOf]; omega
      · have HN := Lib.hid (all_no HX.out (show shortR r = false from decide_eq_false hs))
        generalize r.right.length = rn at *
        have hs2 : ¬ (rn : Int) ≤ 8 := by omega
        clear hs
        go_wp2
        go_ret
        exact ⟨ret_bool (by rw [HF.out, HN.out]; simp), below_alloc _ _⟩
    · obtain rfl : k = l.length := by omega
      have HN := Lib.hid (all_yes HA.out)
      rw [HN.out] at HF
      clear HN HA HC
      generalize l.length = nR at *
      go_wp2
      all_goals go_ret
      all_goals exact ⟨ret_bool (by rw [HF.out, Bool.eq_iff_iff]; simp [*] <;> omega), below_alloc _ _⟩
theorem texts_eq {a b : ByteArray} (h : a = b) : (a.toList == b.toList) = true := by rw [h]; simp
theorem texts_ne {a b : ByteArray} (h : ¬ a = b) : (a.toList == b.toList) = false := by
  rw [beq_eq_false_iff_ne, bytes_list, bytes_list]
  exact fun e => h (ByteArray.ext (Array.ext' e))
open Classical in
/-- The first place of a text. -/
noncomputable def placeL (l : List ByteArray) (s : ByteArray) : Int := idxL (fun x => decide (x = s)) l
set_option maxRecDepth 100000 in
set_option maxHeartbeats 1600000 in
open Classical in
theorem rplace_any {w : World} {v : Value} {l : List ByteArray} (h : Arr StrV w v l) (s : ByteArray) : Calls Tryz.prog 35 #[v, .string s] w fun e w' => e = .returned (.int .i64 (placeL l s)) ∧ w' = w := by
  obtain ⟨⟨A, c, rfl, hc⟩, hs, _⟩ := h
  have HC := Lib.hid hc
  clear hc
  unfold placeL
  go_enter Tryz.func35, Tryz.ntmps35
  go_wp2
  go_loop [5] (fun i => ∃ k : Nat, k ≤ l.length ∧ i = .int .i64 k ∧ Hid (∀ j y, j < k → l[j]? = some y → decide (y = s) = false)) (fun i => l.length - (intOf i).toNat)
  case atStart => exact ⟨0, Nat.zero_le _, rfl, Lib.hid (fun j y hj => absurd hj (Nat.not_lt_zero _))⟩
  case round =>
    obtain ⟨k, hk, rfl, HA⟩ := hrel
    by_cases hlt : k < l.length
    · have hx := List.getElem?_eq_getElem hlt
      generalize l[k] = x at hx
      obtain ⟨b, off, hA, hb, hcell⟩ := HC.out k x hx
      subst hA
      simp only [StrV] at hcell
      have HX := Lib.hid hx
      clear hx
      by_cases hq : x = s
      · have HI := Lib.hid (idxL_hit HX.out (decide_eq_true hq) HA.out)
        have hq1 := texts_eq hq
        clear hq
        go_wp2
        go_ret
        exact ⟨by rw [HI.out]; rfl, rfl⟩
      · have HN := Lib.hid (not_so HX.out (decide_eq_false hq) HA.out)
        have hq1 := texts_ne hq
        clear hq
        go_wp2
        go_round
        case rel => exact ⟨k + 1, by omega, by go_num, HN⟩
        case measure => simp [intOf]; omega
    · obtain rfl : k = l.length := by omega
      have HI := Lib.hid (idxL_miss HA.out)
      go_wp2
      go_ret
      exact ⟨by rw [HI.out]; rfl, rfl⟩
end Go.Proofs.YtdbmeocpjopdhaaGreat

namespace Go.Proofs.YtdbmeocpjopdhaaGreat
open Go.RowKit
set_option linter.unusedVariables false
theorem place_mem (l : List ByteArray) (s : ByteArray) : 0 ≤ placeL l s ↔ s ∈ l := by
  unfold placeL
  constructor
  · intro hn
    have h2 := decide_eq_true hn
    rw [idxL_any] at h2
    obtain ⟨x, hx, he⟩ := List.any_eq_true.1 h2
    exact of_decide_eq_true he ▸ hx
  · intro hx
    refine of_decide_eq_true ?_
    rw [idxL_any]
    exact List.any_eq_true.2 ⟨s, hx, decide_eq_true rfl⟩
theorem nodup_next {l : List ByteArray} {k : Nat} {s : ByteArray} (hs : l[k]? = some s) : (l.take (k + 1)).Nodup ↔ (l.take k).Nodup ∧ ¬ s ∈ l.take k := by
  obtain ⟨hk, rfl⟩ := List.getElem?_eq_some_iff.1 hs
  rw [List.take_succ_eq_append_getElem hk, List.nodup_append]
  constructor
  · rintro ⟨h1, _, h3⟩
    exact ⟨h1, fun hm => h3 _ hm _ (by simp) rfl⟩
  · rintro ⟨h1, h2⟩
    exact ⟨h1, by simp, fun a ha b hb e => h2 (by rw [List.mem_singleton.1 hb] at e; exact e ▸ ha)⟩
theorem nodup_not {l : List ByteArray} {k : Nat} {s : ByteArray} (hs : l[k]? = some s) (hm : s ∈ l.take k) : ¬ l.Nodup := by
  intro h
  have h1 : (l.take (k + 1)).Nodup := (List.take_sublist _ _).nodup h
  exact ((nodup_next hs).1 h1).2 hm
def Drew (w : World) (b : Bool) (e : Ending) (w' : World) : Prop := e = .returned (.bool b) ∧ ∃ d, w' = w.drewN d
set_option maxRecDepth 100000 in
set_option maxHeartbeats 1600000 in
theorem ronce_any {w : World} {v : Value} {l : List ByteArray} (h : Arr StrV w v l) : Calls Tryz.prog 14 #[v] w (Drew w (decide l.Nodup)) := by
  have hl := h
  obtain ⟨⟨A, c, rfl, hc⟩, hs, hro⟩ := hl
  have hcap := (hro _ _ _ rfl).1
  have HC := Lib.hid hc
  have HP : Hid (∀ k s b off, l[k]? = some s → A = some ⟨b, off, none⟩ → ∀ y, (∃ d, y = w.drewN d) → Calls Tryz.prog 35 #[.slice A k c, .string s] y fun e w' => e = .returned (.int .i64 (placeL (l.take k) s)) ∧ ∃ d, w' = y.drewN d) := Lib.hid (by
    rintro k s b off hx hA y ⟨d, rfl⟩
    have hk := (List.getElem?_eq_some_iff.1 hx).1
    have h2 : Arr StrV (w.drewN d) (.slice A l.length c) l := h.later (below_draws (Below.refl _ w) d)
    exact (rplace_any (h2.take k (by omega) c ⟨by omega, fun e => by rw [hA] at e; cases e⟩) s).mono fun e w' hh => ⟨hh.1, 0, hh.2⟩)
  clear hc h hro
  go_enter Tryz.func14, Tryz.ntmps14
  go_wp2
  go_loopw [3] (fun i wr => ∃ k : Nat, k ≤ l.length ∧ i = .int .i64 k ∧ Hid ((l.take k).Nodup) ∧ Hid (∃ d, wr = w.drewN d)) (fun i _ => l.length - (intOf i).toNat)
  case atStart => exact ⟨0, Nat.zero_le _, rfl, Lib.hid (by simp), Lib.hid ⟨0, rfl⟩⟩
  case round =>
    obtain ⟨k, hk, rfl, HA, HD⟩ := hrel
    by_cases hlt : k < l.length
    · have hx := List.getElem?_eq_getElem hlt
      generalize l[k] = s at hx
      obtain ⟨b, off, hA, hb, hcell⟩ := HC.out k s hx
      have HPL := Lib.hid (fun n => HP.out k s b off hx hA (wr.drewN n) (by obtain ⟨d, rfl⟩ := HD.out; exact ⟨d + n, World.drewN_drewN _ _ _⟩))
      subst hA
      simp only [StrV] at hcell
      have e1 : wr.cell? ⟨b, off + k, none⟩ = some (.string s) := by obtain ⟨d, rfl⟩ := HD.out; exact hcell
      have HX := Lib.hid hx
      have HM := Lib.hid (place_mem (l.take k) s)
      clear hx hcell
      generalize placeL (l.take k) s = n at *
      have hk2 : (k : Int) ≤ (c : Int) := by omega
      by_cases hn : 0 ≤ n
      · have HN := Lib.hid (nodup_not HX.out (HM.out.1 hn))
        go_wp2
        go_quiet ((go_at_call 35; exact Calls.quiet_of (HPL.out _)))
        go_wp2
        go_ret
        refine ⟨ret_bool (decide_eq_false HN.out).symm, ?_⟩
        obtain ⟨d, rfl⟩ := HD.out
        exact ⟨_, World.drewN_drewN _ _ _⟩
      · have HN := Lib.hid ((nodup_next HX.out).2 ⟨HA.out, fun hm => hn (HM.out.2 hm)⟩)
        go_wp2
        go_quiet ((go_at_call 35; exact Calls.quiet_of (HPL.out _)))
        have HDD : Hid (∃ q, wr.drewN nq = w.drewN q) := Lib.hid (by
          obtain ⟨q, hq⟩ := HD.out
          exact ⟨q + nq, by rw [hq, World.drewN_drewN]⟩)
        go_wp2
        go_roundw
        case rel => exact ⟨k + 1, by omega, by go_num, HN, HDD⟩
        case measure => simp [intOf]; omega
    · obtain rfl : k = l.length := by omega
      have HN : Hid l.Nodup := Lib.hid (by have hh := HA.out; rw [List.take_length] at hh; exact hh)
      go_wp2
      go_ret
      exact ⟨ret_bool (decide_eq_true HN.out).symm, HD.out⟩
set_option maxRecDepth 100000 in
set_option maxHeartbeats 3200000 in
theorem rform_any {w : World} {v : Value} {g : Gm} (h : GrR w v g) : Calls Tryz.prog 13 #[v] w (Says w g.form) := by
  have hT20 := h.small.2.2.1
  have hN20 := h.small.2.2.2.1
  have HSZ1 := Lib.hid h.small.1
  have HSZ2 := Lib.hid h.small.2.1
  have HG := Lib.hid (GBox.new w 25 v)
  obtain ⟨AT, cT, AN, cN, AR, cR, rfl, hT, hN, hR⟩ := h.open_
  obtain ⟨⟨A1, c1, e1, hc1⟩, _, _⟩ := hT
  cases e1
  obtain ⟨⟨A2, c2, e2, hc2⟩, _, _⟩ := hN
  cases e2
  have HC1 := Lib.hid hc1
  have HC2 := Lib.hid hc2
  have HF : Hid (g.form = (g.T.all okT && g.N.all okN)) := Lib.hid rfl
  have HP := Lib.hid (fun s hs y => rplain_any s hs y)
  have HQ := Lib.hid (fun s hs y => risq_any s hs y)
  clear h hR hc1 hc2
  generalize g.form = res at *
  generalize g.T = lT at *
  generalize g.N = lN at *
  generalize g.R.length = nR at *
  generalize g.s = gs at *
  go_enter Tryz.func13, Tryz.ntmps13
  go_wp2
  go_loopw [3] (fun i wr => ∃ k : Nat, k ≤ lT.length ∧ i = .int .i64 k ∧ Hid (∀ j y, j < k → lT[j]? = some y → okT y = true) ∧ Hid (Below w.heap.size w wr) ∧ Hid (GBox wr w.heap.size (.agg #[.slice AT lT.length cT, .slice AN lN.length cN, .slice AR nR cR, .int .i64 gs]))) (fun i _ => lT.length - (intOf i).toNat)
  case atStart => exact ⟨0, Nat.zero_le _, rfl, Lib.hid (fun j y hj => absurd hj (Nat.not_lt_zero _)), Lib.hid (below_alloc _ _), HG⟩
  case round =>
    obtain ⟨k, hk, rfl, HA, HB, HGR⟩ := hrel
    obtain ⟨d0, d1, d2, d3⟩ := HGR.out.four
    by_cases hlt : k < lT.length
    · have hx := List.getElem?_eq_getElem hlt
      generalize lT[k] = s at hx
      obtain ⟨b, off, hA, hb, hcell⟩ := HC1.out k s hx
      subst hA
      simp only [StrV] at hcell
      have e1 := (HB.out.cell (p := ⟨b, off + k, none⟩) hb).trans hcell
      have hsz := HSZ1.out s (List.mem_of_getElem? hx)
      have HPS := Lib.hid (HP.out s (by omega))
      have HQS := Lib.hid (HQ.out s (by omega))
      have HY := Lib.hid (fun (hh : okT s = true) => all_step HA.out hx hh)
      have HN := Lib.hid (fun (hh : okT s = false) => all_no hx hh)
      have HOK : Hid (okT s = (okName s.data.toList || quotedB s.data.toList)) := Lib.hid rfl
      clear hx hcell
      generalize okT s = ok at *
      generalize okName s.data.toList = p1 at *
      generalize quotedB s.data.toList = p2 at *
      go_wp2_with fail
      refine (HPS.out _).mono ?_
      rintro e w1 ⟨rfl, rfl⟩
      cases p1 with
      | true =>
        have HY2 := Lib.hid (HY.out HOK.out)
        go_wp2
        go_roundw
        case rel => exact ⟨k + 1, by omega, by go_num, HY2, HB, HGR⟩
        case measure => simp [intOf]; omega
      | false =>
        go_wp2_with fail
        refine (HQS.out _).mono ?_
        rintro e w2 ⟨rfl, hb2⟩
        have HB2 := Lib.hid (HB.out.trans (hb2.mono HB.out.size))
        have HG2 := Lib.hid (HGR.out.later hb2)
        clear hb2 d0 d1 d2 d3
        cases p2 with
        | true =>
          have HY2 := Lib.hid (HY.out HOK.out)
          go_wp2
          go_roundw
          case rel => exact ⟨k + 1, by omega, by go_num, HY2, HB2, HG2⟩
          case measure => simp [intOf]; omega
        | false =>
          have HN2 := Lib.hid (HN.out HOK.out)
          go_wp2
          go_ret
          exact ⟨ret_bool (by rw [HF.out, HN2.out]; rfl), HB2.out⟩
    · obtain rfl : k = lT.length := by omega
      have HAL := Lib.hid (all_yes HA.out)
      rw [HAL.out, Bool.true_and] at HF
      clear HAL HA
      go_wp2
      clear d0 d1 d2 d3
      go_loopw [4] (fun i wr => ∃ k : Nat, k ≤ lN.length ∧ i = .int .i64 k ∧ Hid (∀ j y, j < k → lN[j]? = some y → okN y = true) ∧ Hid (Below w.heap.size w wr) ∧ Hid (GBox wr w.heap.size (.agg #[.slice AT lT.length cT, .slice AN lN.length cN, .slice AR nR cR, .int .i64 gs]))) (fun i _ => lN.length - (intOf i).toNat)
      case atStart => exact ⟨0, Nat.zero_le _, rfl, Lib.hid (fun j y hj => absurd hj (Nat.not_lt_zero _)), HB, HGR⟩
      case round =>
        clear HB HGR
        obtain ⟨k, hk, rfl, HA, HB, HGR⟩ := hrel
        obtain ⟨d0, d1, d2, d3⟩ := HGR.out.four
        by_cases hlt : k < lN.length
        · have hx := List.getElem?_eq_getElem hlt
          generalize lN[k] = s at hx
          obtain ⟨b, off, hA, hb, hcell⟩ := HC2.out k s hx
          subst hA
          simp only [StrV] at hcell
          have e1 := (HB.out.cell (p := ⟨b, off + k, none⟩) hb).trans hcell
          have hsz := HSZ2.out s (List.mem_of_getElem? hx)
          have HPS := Lib.hid (HP.out s (by omega))
          have HY := Lib.hid (fun (hh : okN s = true) => all_step HA.out hx hh)
          have HN := Lib.hid (fun (hh : okN s = false) => all_no hx hh)
          have HOK : Hid (okN s = okName s.data.toList) := Lib.hid rfl
          clear hx hcell
          generalize okN s = ok at *
          generalize okName s.data.toList = p1 at *
          go_wp2_with fail
          refine (HPS.out _).mono ?_
          rintro e w1 ⟨rfl, rfl⟩
          cases p1 with
          | true =>
            have HY2 := Lib.hid (HY.out HOK.out)
            go_wp2
            go_roundw
            case rel => exact ⟨k + 1, by omega, by go_num, HY2, HB, HGR⟩
            case measure => simp [intOf]; omega
          | false =>
            have HN2 := Lib.hid (HN.out HOK.out)
            go_wp2
            go_ret
            exact ⟨ret_bool (by rw [HF.out, HN2.out]), HB.out⟩
        · obtain rfl : k = lN.length := by omega
          have HAL := Lib.hid (all_yes HA.out)
          go_wp2
          go_ret
          exact ⟨ret_bool (by rw [HF.out, HAL.out]), HB.out⟩
set_option maxRecDepth 100000 in
set_option maxHeartbeats 3200000 in
theorem rnames_any {w : World} {v : Value} {g : Gm} (h : GrR w v g) : Calls Tryz.prog 15 #[v] w fun e w' => ∃ o, e = .returned o ∧ Arr StrV w' o (g.T ++ g.N) ∧ Below w.heap.size w w' := by
  have hT20 := h.small.2.2.1
  have hN20 := h.small.2.2.2.1
  have HG := Lib.hid (GBox.new w 25 v)
  obtain ⟨AT, cT, AN, cN, AR, cR, rfl, hT, hN, hR⟩ := h.open_
  have HSA := Lib.hid (fun y (hy : Below w.heap.size w y) => (hT.later hy).src str_one)
  have HSB := Lib.hid (fun y (hy : Below w.heap.size w y) => (hN.later hy).src str_one)
  have hxl : (g.T.map StrV).length = g.T.length := List.length_map _
  have hyl : (g.N.map StrV).length = g.N.length := List.length_map _
  have HEND : Hid (∀ w1 o y, OutAt 9 w1 (g.T.map StrV ++ g.N.map StrV) o y → Arr StrV y o (g.T ++ g.N)) := Lib.hid (fun w1 o y ho => OutAt.arr (E := StrV) (by rw [List.map_append]; exact ho) (by rw [List.length_append]; omega))
  clear h hT hN hR
  generalize g.T ++ g.N = L at *
  generalize g.T.map StrV = xs at *
  generalize g.N.map StrV = ys at *
  generalize g.T.length = nT at *
  generalize g.N.length = nN at *
  generalize g.R.length = nR at *
  generalize g.s = gs at *
  subst hxl
  subst hyl
  obtain ⟨d0, d1, d2, d3⟩ := HG.out.four
  have hEl := ElStr
  go_enter Tryz.func15, Tryz.ntmps15
  go_wp2_with fail
  go_region_law (first
    | (refine step_app ElStr (.tmp 3) (.tmp 5) ?_ ?_ (base := w.heap.size + 1) (n := 0) (m := xs.length) (N := xs.length) (v := .slice (some ⟨w.heap.size + 1, 0, none⟩) 0 0) (src := .slice AT xs.length cT) (xs := []) (news := xs) ?_ ?_ ?_ ?_ ?_ ?_ ?_ ?_ ?_
       · rfl
       · rfl
       · rfl
       · rfl
       · exact own_made (W := w.alloc _) (by simp) (Nat.le_refl _) (by decide) rfl
       · exact HSA.out _ (below_drew (below_more (below_alloc w _) _))
       · omega
       · unfold maxLen; omega
       · omega
       · simp
       intro A2 c2 w2 r1 r2 r3
       have HR1 := Lib.hid r1
       have hbx : Blk w2 w.heap.size 25 #[.slice AT xs.length cT, .slice AN ys.length cN, .slice AR nR cR, .int .i64 gs] := r2.blk ((Blk.new w 25 _).alloc _) (.inl (by omega))
       have f0 := hbx.cell 0
       have f1 := hbx.cell 1
       have f2 := hbx.cell 2
       have f3 := hbx.cell 3
       simp only [List.getElem?_toArray, List.getElem?_cons_zero, List.getElem?_cons_succ] at f0 f1 f2 f3
       have HB2 : Hid (Below (w.heap.size + 1) (w.alloc (.cells #[.slice AT xs.length cT, .slice AN ys.length cN, .slice AR nR cR, .int .i64 gs] 25)) w2) := Lib.hid ((below_drew ((below_alloc (w.alloc (.cells #[.slice AT xs.length cT, .slice AN ys.length cN, .slice AR nR cR, .int .i64 gs] 25)) _).mono (by simp))).trans (r2.below (by simp)))
       have hws := HB2.out.size
       clear r1 r2 r3 hbx)
    | (refine step_app ElStr (.tmp 6) (.tmp 8) ?_ ?_ (base := w.heap.size + 1) (n := xs.length) (m := ys.length) (N := xs.length + ys.length) (v := .slice A2 xs.length c2) (src := .slice AN ys.length cN) (xs := xs) (news := ys) ?_ ?_ ?_ ?_ ?_ ?_ ?_ ?_ ?_
       · rfl
       · rfl
       · rfl
       · rfl
       · exact HR1.out
       · exact HSB.out _ ((below_alloc w _).trans (HB2.out.mono (by omega)))
       · rfl
       · unfold maxLen; omega
       · omega
       · simp at hws ⊢; omega
       intro A4 c4 w4 q1 q2 q3
       have HR4 := Lib.hid q1
       have HB4 := Lib.hid (HB2.out.trans (q2.below (by simp at hws ⊢; omega)))
       clear q1 q2 q3))
  all_goals go_wp2
  all_goals go_ret
  all_goals refine ⟨_, rfl, HEND.out (w.alloc (.cells #[.slice AT xs.length cT, .slice AN ys.length cN, .slice AR nR cR, .int .i64 gs] 25)) _ _ ⟨A4, c4, by rw [List.length_append]; rfl, ?_, ?_⟩, (below_alloc w _).trans (HB4.out.mono (by omega))⟩
  all_goals rw [show (w.alloc (.cells #[.slice AT xs.length cT, .slice AN ys.length cN, .slice AR nR cR, .int .i64 gs] 25)).heap.size = w.heap.size + 1 by simp]
  all_goals first
    | exact HB4.out
    | (rw [List.length_append]; exact HR4.out)
end Go.Proofs.YtdbmeocpjopdhaaGreat

namespace Go.Proofs.YtdbmeocpjopdhaaGreat
open Go.RowKit
set_option linter.unusedVariables false
/-- A grammar's box and a rule's two cells, as they lie in a world. -/
def Six (y : World) (B : Nat) (a b c d : Value) (rb : Nat) (ro : Nat) (e f : Value) : Prop :=
  y.cell? ⟨B, 0, none⟩ = some a ∧ y.cell? ⟨B, 1, none⟩ = some b ∧ y.cell? ⟨B, 2, none⟩ = some c ∧ y.cell? ⟨B, 3, none⟩ = some d ∧ y.cell? ⟨rb, ro, none⟩ = some e ∧ y.cell? ⟨rb, ro + 1, none⟩ = some f
set_option maxRecDepth 100000 in
set_option maxHeartbeats 6400000 in
theorem rknown_any {w : World} {v : Value} {g : Gm} (h : GrR w v g) : Calls Tryz.prog 16 #[v] w (Says w g.known) := by
  have hR20 := h.small.2.2.2.2.1
  have HG := Lib.hid (GBox.new w 25 v)
  have HNM := Lib.hid (fun s y (hy : Below w.heap.size w y) => rnon_any (h.later hy) s)
  have HTM := Lib.hid (fun s y (hy : Below w.heap.size w y) => rterm_any (h.later hy) s)
  have HZ : Hid (g.N.length = 0 → g.non g.s = false) := Lib.hid (fun hz => by
    unfold Gm.non
    rw [Bool.and_eq_false_iff, decide_eq_false_iff_not, decide_eq_false_iff_not]
    omega)
  have HF : Hid (g.known = (g.non g.s && g.R.all g.knownR)) := Lib.hid rfl
  have HKR : Hid (∀ r, g.knownR r = (g.non r.left && r.right.all g.sym)) := Lib.hid (fun _ => rfl)
  have HSY : Hid (∀ s, g.sym s = (g.term s || g.non s)) := Lib.hid (fun _ => rfl)
  obtain ⟨AT, cT, AN, cN, AR, cR, rfl, hT, hN, hR⟩ := h.open_
  obtain ⟨⟨A, c, e, hc⟩, _⟩ := hR
  cases e
  have HC := Lib.hid hc
  clear h hT hN hc
  generalize hres : g.known = res at *
  clear hres
  by_cases h0 : g.N.length = 0
  · have hn := HZ.out h0
    rw [hn, Bool.false_and] at HF
    rw [h0] at HG ⊢
    clear HZ HKR HSY HC HNM HTM hn h0
    generalize g.T.length = nT at *
    generalize g.R.length = nR at *
    generalize g.s = gs at *
    go_enter Tryz.func16, Tryz.ntmps16
    go_wp2
    go_ret
    exact ⟨ret_bool HF.out.symm, below_alloc _ _⟩
  have h01 : ((g.N.length : Int) == 0) = false := by rw [beq_eq_false_iff_ne]; omega
  have HNS := Lib.hid (HNM.out g.s)
  clear HZ h0
  cases hn : g.non g.s with
  | false =>
    rw [hn] at HNS HF
    clear HKR HSY HC HNM HTM hn
    generalize g.T.length = nT at *
    generalize g.N.length = nN at *
    generalize g.R.length = nR at *
    generalize g.s = gs at *
    go_enter Tryz.func16, Tryz.ntmps16
    go_wp2_with fail
    refine (HNS.out _ (below_alloc w _)).mono ?_
    rintro e w1 ⟨rfl, hb1⟩
    have HB1 := Lib.hid (below_alloc_trans hb1)
    clear hb1
    go_wp2
    go_ret
    exact ⟨ret_bool HF.out.symm, HB1.out⟩
  | true =>
    rw [hn, Bool.true_and] at HF
    rw [hn] at HNS
    clear hn
    generalize g.T.length = nT at *
    generalize g.N.length = nN at *
    generalize g.s = gs at *
    generalize hl : g.R = l at *
    clear hl
    go_enter Tryz.func16, Tryz.ntmps16
    go_wp2_with fail
    refine (HNS.out _ (below_alloc w _)).mono ?_
    rintro e w1 ⟨rfl, hb1⟩
    have HB1 := Lib.hid (below_alloc_trans hb1)
    have HG1 := Lib.hid (HG.out.later hb1)
    clear hb1
    go_wp2
    go_loopw [3] (fun i wr => ∃ k : Nat, k ≤ l.length ∧ i = .int .i64 k ∧ Hid (∀ j y, j < k → l[j]? = some y → g.knownR y = true) ∧ Hid (Below w.heap.size w wr) ∧ Hid (GBox wr w.heap.size (.agg #[.slice AT nT cT, .slice AN nN cN, .slice AR l.length cR, .int .i64 gs]))) (fun i _ => l.length - (intOf i).toNat)
    case atStart => exact ⟨0, Nat.zero_le _, rfl, Lib.hid (fun j y hj => absurd hj (Nat.not_lt_zero _)), HB1, HG1⟩
    case round =>
      rename World => w9
      obtain ⟨k, hk, rfl, HA, HB, HGR⟩ := hrel
      obtain ⟨d0, d1, d2, d3⟩ := HGR.out.four
      have lg := HGR.out.lt
      by_cases hlt : k < l.length
      · have hx := List.getElem?_eq_getElem hlt
        generalize l[k] = r at hx
        obtain ⟨b, off, hA, hb, h1, h2, ⟨A2, c2, hv, hin⟩, hsr, _⟩ := HC.out k r hx
        subst hA
        rw [hv] at h2
        have HX := Lib.hid hx
        have HIN := Lib.hid hin
        have HY := Lib.hid (fun (hh : g.knownR r = true) => all_step HA.out hx hh)
        have HNO := Lib.hid (fun (hh : g.knownR r = false) => all_no hx hh)
        have HNL := Lib.hid (HNM.out r.left)
        have HKK := Lib.hid (HKR.out r)
        have e1 := (HB.out.cell (p := ⟨b, off + k * 2, none⟩) hb).trans h1
        have e2 := (HB.out.cell (p := ⟨b, off + k * 2 + 1, none⟩) hb).trans h2
        clear hx h1 h2 hv hin
        generalize g.knownR r = kr at *
        generalize r.left = rl at *
        generalize hrr : r.right = rr at *
        clear hrr
        generalize g.non rl = a at *
        have HSIX : Hid (∀ y, Below w9.heap.size w9 y → y.cell? ⟨w.heap.size, 0, none⟩ = some (.slice AT nT cT) ∧ y.cell? ⟨w.heap.size, 1, none⟩ = some (.slice AN nN cN) ∧ y.cell? ⟨w.heap.size, 2, none⟩ = some (.slice (some ⟨b, off, none⟩) l.length cR) ∧ y.cell? ⟨w.heap.size, 3, none⟩ = some (.int .i64 gs) ∧ y.cell? ⟨b, off + k * 2, none⟩ = some (.int .i64 rl) ∧ y.cell? ⟨b, off + k * 2 + 1, none⟩ = some (.slice A2 rr.length c2)) := Lib.hid (fun y hy => by
          obtain ⟨q0, q1, q2, q3⟩ := (HGR.out.later hy).four
          have hbw := Nat.lt_of_lt_of_le hb HB.out.size
          exact ⟨q0, q1, q2, q3, (hy.cell (p := ⟨b, off + k * 2, none⟩) hbw).trans e1, (hy.cell (p := ⟨b, off + k * 2 + 1, none⟩) hbw).trans e2⟩)
        go_wp2_with fail
        go_region_held3 (fun w' => w'.cell? ⟨w.heap.size, 0, none⟩ = some (.slice AT nT cT) ∧ w'.cell? ⟨w.heap.size, 1, none⟩ = some (.slice AN nN cN) ∧ w'.cell? ⟨w.heap.size, 2, none⟩ = some (.slice (some ⟨b, off, none⟩) l.length cR) ∧ w'.cell? ⟨w.heap.size, 3, none⟩ = some (.int .i64 gs) ∧ w'.cell? ⟨b, off + k * 2, none⟩ = some (.int .i64 rl) ∧ w'.cell? ⟨b, off + k * 2 + 1, none⟩ = some (.slice A2 rr.length c2))
          (first | exact HSIX.out _ HZ2.out | exact HSIX.out _ ⟨rfl, rfl, rfl, Nat.le_refl _, fun _ _ => rfl⟩)
          (first | (go_at_call 36; refine (HNL.out _ (below_drew HB.out)).mono ?_; rintro e w2 ⟨rfl, hb2⟩; have HZ2 := Lib.hid ((below_drew (Below.refl _ _)).trans (hb2.mono (Nat.le_refl _))); clear hb2))
        have HB2 := Lib.hid (HB.out.trans (HZ2.out.mono HB.out.size))
        have HG2 := Lib.hid (HGR.out.later HZ2.out)
        cases a with
        | false =>
          have hk2 : kr = false := HKK.out
          have HN2 := Lib.hid (HNO.out hk2)
          all_goals go_wp2
          all_goals go_ret
          all_goals exact ⟨ret_bool (by rw [HF.out, HN2.out]), HB2.out⟩
        | true =>
          go_wp2
          clear d0 d1 d2 d3 e1 e2
          go_loopw [4] (fun i2 wr => ∃ m : Nat, m ≤ rr.length ∧ i2 = .int .i64 m ∧ Hid (∀ j y, j < m → rr[j]? = some y → g.sym y = true) ∧ Hid (Below w9.heap.size w9 wr)) (fun i2 _ => rr.length - (intOf i2).toNat)
          case atStart => exact ⟨0, Nat.zero_le _, rfl, Lib.hid (fun j y hj => absurd hj (Nat.not_lt_zero _)), HZ2⟩
          case round =>
            obtain ⟨m, hm, rfl, HA2, HBX⟩ := hrel
            have HWX := Lib.hid (HB.out.trans (HBX.out.mono HB.out.size))
            have lgx := Nat.lt_of_lt_of_le lg HBX.out.size
            obtain ⟨d0, d1, d2, d3, d4, d5⟩ := HSIX.out wr HBX.out
            by_cases hlt2 : m < rr.length
            · have hs := List.getElem?_eq_getElem hlt2
              generalize rr[m] = s at hs
              obtain ⟨b3, off3, hA3, hb3, h3⟩ := HIN.out m s hs
              subst hA3
              simp only [IntV] at h3
              have d6 := (HWX.out.cell (p := ⟨b3, off3 + m, none⟩) hb3).trans h3
              have HYS := Lib.hid (fun (hh : g.sym s = true) => all_step HA2.out hs hh)
              have HNS2 := Lib.hid (fun (hh : g.sym s = false) => all_no hs hh)
              have HST := Lib.hid (HTM.out s)
              have HSN := Lib.hid (HNM.out s)
              have HSS := Lib.hid (HSY.out s)
              clear h3 hs
              generalize g.sym s = sy at *
              generalize g.term s = a1 at *
              generalize g.non s = a2 at *
              have HS7 : Hid (∀ y, Below wr.heap.size wr y → y.cell? ⟨w.heap.size, 0, none⟩ = some (.slice AT nT cT) ∧ y.cell? ⟨w.heap.size, 1, none⟩ = some (.slice AN nN cN) ∧ y.cell? ⟨w.heap.size, 2, none⟩ = some (.slice (some ⟨b, off, none⟩) l.length cR) ∧ y.cell? ⟨w.heap.size, 3, none⟩ = some (.int .i64 gs) ∧ y.cell? ⟨b, off + k * 2, none⟩ = some (.int .i64 rl) ∧ y.cell? ⟨b, off + k * 2 + 1, none⟩ = some (.slice (some ⟨b3, off3, none⟩) rr.length c2) ∧ y.cell? ⟨b3, off3 + m, none⟩ = some (.int .i64 s)) := Lib.hid (fun y hy => by
                obtain ⟨q0, q1, q2, q3, q4, q5⟩ := HSIX.out y (HBX.out.trans (hy.mono HBX.out.size))
                exact ⟨q0, q1, q2, q3, q4, q5, (hy.cell (p := ⟨b3, off3 + m, none⟩) (Nat.lt_of_lt_of_le hb3 HWX.out.size)).trans d6⟩)
              obtain ⟨I, hI1, hI2⟩ : ∃ I : World → Prop, (∀ w', I w' → Below wr.heap.size wr w') ∧ (∀ w', Below wr.heap.size wr w' → I w') := ⟨_, fun _ h => h, fun _ h => h⟩
              have hI : I wr.drew := hI2 _ (below_drew (Below.refl _ _))
              have hne : Nonempty (Wd I) := ⟨⟨_, hI⟩⟩
              have XI := Lib.hid (fun x : Wd I => hI1 _ x.ok)
              have XJ := Lib.hid hI2
              clear hI1 hI2
              have g0 := fun y : Wd I => (HS7.out _ (XI.out y)).1
              have g1 := fun y : Wd I => (HS7.out _ (XI.out y)).2.1
              have g2 := fun y : Wd I => (HS7.out _ (XI.out y)).2.2.1
              have g3 := fun y : Wd I => (HS7.out _ (XI.out y)).2.2.2.1
              have g4 := fun y : Wd I => (HS7.out _ (XI.out y)).2.2.2.2.1
              have g5 := fun y : Wd I => (HS7.out _ (XI.out y)).2.2.2.2.2.1
              have g6 := fun y : Wd I => (HS7.out _ (XI.out y)).2.2.2.2.2.2
              have CT := Lib.hid (fun y : Wd I => wd_call (I := I) (v := .bool a1) ((HST.out y.w (HWX.out.trans ((XI.out y).mono HWX.out.size))).mono fun e w' hh => ⟨hh.1, XJ.out _ ((XI.out y).trans (hh.2.mono (XI.out y).size))⟩))
              have CN := Lib.hid (fun y : Wd I => wd_call (I := I) (v := .bool a2) ((HSN.out y.w (HWX.out.trans ((XI.out y).mono HWX.out.size))).mono fun e w' hh => ⟨hh.1, XJ.out _ ((XI.out y).trans (hh.2.mono (XI.out y).size))⟩))
              clear HST HSN HS7
              cases a1 with
              | true =>
                have HYY := Lib.hid (HYS.out HSS.out)
                go_wp2_with fail
                refine wp_region_wd I (by kernel_rfl) (by kernel_rfl) hI ?_
                repeat (go_big_quiet_step ((first | (go_at_call 37; exact CT.out _) | (go_at_call 36; exact CN.out _))))
                refine wpQuiet_nil ?_
                intro _ hw'
                obtain ⟨x, rfl⟩ := hw'
                have HB5 := Lib.hid (HBX.out.trans ((XI.out x).mono HBX.out.size))
                have HW5 := Lib.hid (HWX.out.trans ((XI.out x).mono HWX.out.size))
                clear d0 d1 d2 d3 d4 d5 d6 g0 g1 g2 g3 g4 g5 g6
                go_wp2
                go_roundw
                case rel => exact ⟨m + 1, by omega, by go_num, HYY, HB5⟩
                case measure => simp [intOf]; omega
              | false =>
                cases a2 with
                | true =>
                  have HYY := Lib.hid (HYS.out HSS.out)
                  go_wp2_with fail
                  refine wp_region_wd I (by kernel_rfl) (by kernel_rfl) hI ?_
                  repeat (go_big_quiet_step ((first | (go_at_call 37; exact CT.out _) | (go_at_call 36; exact CN.out _))))
                  refine wpQuiet_nil ?_
                  intro _ hw'
                  obtain ⟨x, rfl⟩ := hw'
                  have HB5 := Lib.hid (HBX.out.trans ((XI.out x).mono HBX.out.size))
                  have HW5 := Lib.hid (HWX.out.trans ((XI.out x).mono HWX.out.size))
                  clear d0 d1 d2 d3 d4 d5 d6 g0 g1 g2 g3 g4 g5 g6
                  go_wp2
                  go_roundw
                  case rel => exact ⟨m + 1, by omega, by go_num, HYY, HB5⟩
                  case measure => simp [intOf]; omega
                | false =>
                  have HN2 := Lib.hid (HNS2.out HSS.out)
                  have HN3 := Lib.hid (HNO.out (by rw [HKK.out, HN2.out]; rfl))
                  go_wp2_with fail
                  refine wp_region_wd I (by kernel_rfl) (by kernel_rfl) hI ?_
                  repeat (go_big_quiet_step ((first | (go_at_call 37; exact CT.out _) | (go_at_call 36; exact CN.out _))))
                  refine wpQuiet_nil ?_
                  intro _ hw'
                  obtain ⟨x, rfl⟩ := hw'
                  have HB5 := Lib.hid (HBX.out.trans ((XI.out x).mono HBX.out.size))
                  have HW5 := Lib.hid (HWX.out.trans ((XI.out x).mono HWX.out.size))
                  clear d0 d1 d2 d3 d4 d5 d6 g0 g1 g2 g3 g4 g5 g6
                  go_wp2
                  go_ret
                  exact ⟨ret_bool (by rw [HF.out, HN3.out]), HW5.out⟩
            · obtain rfl : m = rr.length := by omega
              have HAL := Lib.hid (all_yes HA2.out)
              have HYY := Lib.hid (HY.out (by rw [HKK.out, HAL.out]; rfl))
              have HGX := Lib.hid (HGR.out.later HBX.out)
              go_wp2
              go_roundw
              case rel => exact ⟨k + 1, by omega, by go_num, HYY, HWX, HGX⟩
              case measure => simp [intOf]; omega
      · obtain rfl : k = l.length := by omega
        have HAL := Lib.hid (all_yes HA.out)
        go_wp2
        go_ret
        exact ⟨ret_bool (by rw [HF.out, HAL.out]), HB.out⟩
end Go.Proofs.YtdbmeocpjopdhaaGreat

namespace Go.Proofs.YtdbmeocpjopdhaaGreat
open Go.RowKit
set_option linter.unusedVariables false
theorem sameR_comm (a b : Ru) : sameR a b = sameR b a := by
  unfold sameR
  rw [Bool.eq_iff_iff, Bool.and_eq_true, Bool.and_eq_true, beq_iff_eq, beq_iff_eq, beq_iff_eq, beq_iff_eq]
  exact ⟨fun h => ⟨h.1.symm, h.2.symm⟩, fun h => ⟨h.1.symm, h.2.symm⟩⟩
/-- The rule at i is like none of the first m. -/
def UnIn (l : List Ru) (i m : Nat) : Prop := ∀ (j : Nat) (x r : Ru), j < m → l[j]? = some x → l[i]? = some r → sameR x r = false
theorem UnIn.next {l : List Ru} {i m : Nat} {x r : Ru} (h : UnIn l i m) (hx : l[m]? = some x) (hr : l[i]? = some r) (hs : sameR r x = false) : UnIn l i (m + 1) := by
  intro j x' r' hj h1 h2
  by_cases e : j = m
  · subst e
    rw [hx] at h1; rw [hr] at h2; cases h1; cases h2
    rw [sameR_comm]; exact hs
  · exact h j x' r' (by omega) h1 h2
theorem UnIn.all {l : List Ru} {i : Nat} (h : UnIn l i i) (k : UnTo l i) : UnTo l (i + 1) := by
  intro i' j x r hi hj hx hr
  by_cases e : i' = i
  · subst e; exact h j x r hj hx hr
  · exact k i' j x r (by omega) hj hx hr
theorem un_no {l : List Ru} {i m : Nat} {x r : Ru} (hm : m < i) (hx : l[m]? = some x) (hr : l[i]? = some r) (hs : sameR r x = true) : ¬ Un l := by
  intro h
  have := h i m x r hm hx hr
  rw [sameR_comm, hs] at this
  cases this
set_option maxRecDepth 100000 in
set_option maxHeartbeats 6400000 in
open Classical in
theorem runlike_any {w : World} {v : Value} {g : Gm} (h : GrR w v g) : Calls Tryz.prog 17 #[v] w (Says w g.unlike) := by
  have hR20 := h.small.2.2.2.2.1
  have HG := Lib.hid (GBox.new w 25 v)
  have HF : Hid (g.unlike = decide (Un g.R)) := Lib.hid rfl
  obtain ⟨AT, cT, AN, cN, AR, cR, rfl, hT, hN, hR⟩ := h.open_
  obtain ⟨⟨A, c, e, hc⟩, _⟩ := hR
  cases e
  have HC := Lib.hid hc
  clear h hT hN hc
  generalize hres : g.unlike = res at *
  clear hres
  generalize g.T.length = nT at *
  generalize g.N.length = nN at *
  generalize g.s = gs at *
  generalize g.R = l at *
  go_enter Tryz.func17, Tryz.ntmps17
  go_wp2
  go_loopw [3] (fun i wr => ∃ k : Nat, k ≤ l.length ∧ i = .int .i64 k ∧ Hid (UnTo l k) ∧ Hid (Below w.heap.size w wr) ∧ Hid (GBox wr w.heap.size (.agg #[.slice AT nT cT, .slice AN nN cN, .slice AR l.length cR, .int .i64 gs]))) (fun i _ => l.length - (intOf i).toNat)
  case atStart => exact ⟨0, Nat.zero_le _, rfl, Lib.hid (fun i j x r hi => absurd hi (Nat.not_lt_zero _)), Lib.hid (below_alloc _ _), HG⟩
  case round =>
    rename World => w9
    obtain ⟨k, hk, rfl, HA, HB, HGR⟩ := hrel
    obtain ⟨d0, d1, d2, d3⟩ := HGR.out.four
    by_cases hlt : k < l.length
    · have hx := List.getElem?_eq_getElem hlt
      generalize l[k] = r at hx
      obtain ⟨b, off, hA, hb, h1, h2, hrr⟩ := HC.out k r hx
      subst hA
      have HX := Lib.hid hx
      have HRR := Lib.hid hrr
      have HR1 := Lib.hid h1
      have HR2 := Lib.hid h2
      clear hx h1 h2 hrr
      go_wp2
      clear d0 d1 d2 d3
      go_loopw [4] (fun i2 wr => ∃ m : Nat, m ≤ k ∧ i2 = .int .i64 m ∧ Hid (UnIn l k m) ∧ Hid (Below w9.heap.size w9 wr)) (fun i2 _ => k - (intOf i2).toNat)
      case atStart => exact ⟨0, Nat.zero_le _, rfl, Lib.hid (fun j x r hj => absurd hj (Nat.not_lt_zero _)), Lib.hid (Below.refl _ _)⟩
      case round =>
        obtain ⟨m, hm, rfl, HA2, HBX⟩ := hrel
        have HWX := Lib.hid (HB.out.trans (HBX.out.mono HB.out.size))
        have HGX := Lib.hid (HGR.out.later HBX.out)
        by_cases hlt2 : m < k
        · have hy := List.getElem?_eq_getElem (show m < l.length by omega)
          generalize l[m]'(by omega) = x at hy
          obtain ⟨b', off', hA', _, h3, h4, hxx⟩ := HC.out m x hy
          cases hA'
          have HYES := Lib.hid (fun hs => HA2.out.next hy HX.out hs)
          have HNO := Lib.hid (fun hs => un_no hlt2 hy HX.out hs)
          obtain ⟨I, hI1, hI2⟩ : ∃ I : World → Prop, (∀ w', I w' → Below wr.heap.size wr w') ∧ (∀ w', Below wr.heap.size wr w' → I w') := ⟨_, fun _ h => h, fun _ h => h⟩
          have hI : I wr.drew := hI2 _ (below_drew (Below.refl _ _))
          have hne : Nonempty (Wd I) := ⟨⟨_, hI⟩⟩
          have XI := Lib.hid (fun x : Wd I => hI1 _ x.ok)
          have XW := Lib.hid (fun x : Wd I => HWX.out.trans ((hI1 _ x.ok).mono HWX.out.size))
          have XJ := Lib.hid hI2
          clear hI1 hI2
          have g0 := fun y : Wd I => ((HGX.out.later (XI.out y)).four).1
          have g1 := fun y : Wd I => ((HGX.out.later (XI.out y)).four).2.1
          have g2 := fun y : Wd I => ((HGX.out.later (XI.out y)).four).2.2.1
          have g3 := fun y : Wd I => ((HGX.out.later (XI.out y)).four).2.2.2
          have g4 := fun y : Wd I => ((XW.out y).cell (p := ⟨b, off + k * 2, none⟩) hb).trans HR1.out
          have g5 := fun y : Wd I => ((XW.out y).cell (p := ⟨b, off + k * 2 + 1, none⟩) hb).trans HR2.out
          have g6 := fun y : Wd I => ((XW.out y).cell (p := ⟨b, off + m * 2, none⟩) hb).trans h3
          have g7 := fun y : Wd I => ((XW.out y).cell (p := ⟨b, off + m * 2 + 1, none⟩) hb).trans h4
          have CS := Lib.hid (fun y : Wd I => wd_call (I := I) (v := .bool (sameR r x)) ((rsame_any (HRR.out.later (XW.out y)) (hxx.later (XW.out y))).mono fun e w' hh => ⟨hh.1, XJ.out _ ((XI.out y).trans (hh.2.mono (XI.out y).size))⟩))
          simp only [RuV] at CS
          obtain ⟨d0, d1, d2, d3⟩ := HGX.out.four
          clear h3 h4 hxx hy
          generalize sameR r x = q at *
          generalize r.left = rl at *
          generalize r.v = rv at *
          generalize x.left = xl at *
          generalize x.v = xv at *
          cases q with
          | true =>
            have HN := Lib.hid (HNO.out rfl)
            go_wp2_with fail
            refine wp_region_wd I (by kernel_rfl) (by kernel_rfl) hI ?_
            repeat (go_big_quiet_step ((first | (go_at_call 32; exact CS.out _))))
            refine wpQuiet_nil ?_
            intro _ hw'
            obtain ⟨x, rfl⟩ := hw'
            have HB5 := Lib.hid (XW.out x)
            clear d0 d1 d2 d3 g0 g1 g2 g3 g4 g5 g6 g7
            go_wp2
            go_ret
            exact ⟨ret_bool (by rw [HF.out]; exact (decide_eq_false HN.out).symm), HB5.out⟩
          | false =>
            have HN := Lib.hid (HYES.out rfl)
            go_wp2_with fail
            refine wp_region_wd I (by kernel_rfl) (by kernel_rfl) hI ?_
            repeat (go_big_quiet_step ((first | (go_at_call 32; exact CS.out _))))
            refine wpQuiet_nil ?_
            intro _ hw'
            obtain ⟨x, rfl⟩ := hw'
            have HB5 := Lib.hid (HBX.out.trans ((XI.out x).mono HBX.out.size))
            clear d0 d1 d2 d3 g0 g1 g2 g3 g4 g5 g6 g7
            go_wp2
            go_roundw
            case rel => exact ⟨m + 1, by omega, by go_num, HN, HB5⟩
            case measure => simp [intOf]; omega
        · obtain rfl : m = k := by omega
          have HN := Lib.hid (HA2.out.all HA.out)
          obtain ⟨d0, d1, d2, d3⟩ := HGX.out.four
          go_wp2
          go_roundw
          case rel => exact ⟨m + 1, by omega, by go_num, HN, HWX, HGX⟩
          case measure => simp [intOf]; omega
    · obtain rfl : k = l.length := by omega
      have HN := Lib.hid HA.out.all
      go_wp2
      go_ret
      exact ⟨ret_bool (by rw [HF.out]; exact HN.out.symm), HB.out⟩
end Go.Proofs.YtdbmeocpjopdhaaGreat

namespace Go.Proofs.YtdbmeocpjopdhaaGreat
open Go.RowKit
set_option linter.unusedVariables false
section
variable {w : World} {v : Value} {g : Gm}
theorem rof2 (h : GrR w v g) (k : Nat) (y : World) (hy : Below w.heap.size w y) : Calls Tryz.prog 18 #[v, .int .i64 ((g.T.length : Int) + 1 + k)] y (fun e w' => ∃ A n c, e = .returned (.slice A n c) ∧ (g.R.any (Gm.left ((g.T.length : Int) + 1 + k)) = true → 0 < n ∧ ∃ b off, A = some ⟨b, off, none⟩ ∧ w'.cell? ⟨b, off, none⟩ = some (.int .i64 (g.first k))) ∧ (g.R.any (Gm.left ((g.T.length : Int) + 1 + k)) = false → n = 0) ∧ Below y.heap.size y w') :=
  (rof_any (h.later hy) _).mono fun e w' ⟨o, he, ho⟩ => by
    have hs := h.small.2.2.2.2.1
    have harr := ho.arr (by have := ofTo_len g.R ((g.T.length : Int) + 1 + k) g.R.length; omega)
    obtain ⟨A, c, rfl, _, hb⟩ := ho
    refine ⟨A, _, c, he, fun hq => ?_, fun hq => by rw [of_none hq]; rfl, below_alloc_trans hb⟩
    obtain ⟨r, hr⟩ := of_some hq
    rw [List.length_map, hr]
    refine ⟨by simp, ?_⟩
    obtain ⟨⟨A', c', e, hc⟩, _⟩ := harr
    simp only [Value.slice.injEq] at e
    obtain ⟨rfl, _, rfl⟩ := e
    obtain ⟨b, off, hA, _, hcell⟩ := hc 0 _ (by rw [hr]; rfl)
    exact ⟨b, off, hA, by rw [Nat.add_zero] at hcell; exact hcell⟩
set_option maxRecDepth 100000 in
set_option maxHeartbeats 6400000 in
theorem rcheck_any (h : GrR w v g) : Calls Tryz.prog 6 #[v] w (Ends w g.check) := by
  have hT20 := h.small.2.2.1
  have hN20 := h.small.2.2.2.1
  have HG := Lib.hid (GBox.new w 25 v)
  have HE1 := Lib.hid (fun k => @Gm.EachTo.next g k)
  have HE2 := Lib.hid (@Gm.EachTo.all g)
  have HE3 := Lib.hid (fun k => @each_not g k)
  have HCK : Hid (g.check = if g.few then (if g.form then (if g.once then (if g.known then (if g.unlike then (if g.each then 0 else 9) else 8) else 1) else 8) else 10) else 7) := Lib.hid rfl
  have K1 := Lib.hid (fun y (hy : Below w.heap.size w y) => rmany_any (h.later hy))
  have K2 := Lib.hid (fun y (hy : Below w.heap.size w y) => rform_any (h.later hy))
  have K3 := Lib.hid (fun y (hy : Below w.heap.size w y) => rnames_any (h.later hy))
  have K4 : Hid (∀ y o, Arr StrV y o (g.T ++ g.N) → Calls Tryz.prog 14 #[o] y (Says y g.once)) := Lib.hid (fun y o ho => (ronce_any ho).mono fun e w' ⟨he, d, hd⟩ => ⟨he, by rw [hd]; exact below_draws (Below.refl _ y) d⟩)
  have K5 := Lib.hid (fun y (hy : Below w.heap.size w y) => rknown_any (h.later hy))
  have K6 := Lib.hid (fun y (hy : Below w.heap.size w y) => runlike_any (h.later hy))
  have HOF := Lib.hid (fun k y (hy : Below w.heap.size w y) => rof2 h k y hy)
  obtain ⟨AT, cT, AN, cN, AR, cR, rfl, hT, hN, hR⟩ := h.open_
  clear h hT hN hR
  generalize g.few = a1 at *
  generalize g.form = a2 at *
  generalize g.once = a4 at *
  generalize g.known = a5 at *
  generalize g.unlike = a6 at *
  generalize g.each = a8 at *
  generalize g.check = res at *
  generalize g.T.length = nT at *
  generalize g.N.length = nN at *
  generalize g.R.length = nR at *
  generalize g.s = gs at *
  generalize g.T ++ g.N = L at *
  go_enter Tryz.func6, Tryz.ntmps6
  go_wp2_with fail
  refine (K1.out _ (below_alloc w _)).mono ?_
  rintro e w1 ⟨rfl, hb1⟩
  have HB1 := Lib.hid (below_alloc_trans hb1)
  have HG1 := Lib.hid (HG.out.later hb1)
  clear hb1
  cases a1 with
  | false =>
    go_wp2
    go_ret
    exact ⟨by rw [HCK.out]; rfl, HB1.out⟩
  | true =>
  obtain ⟨d0, d1, d2, d3⟩ := HG1.out.four
  go_wp2_with fail
  refine (K2.out _ HB1.out).mono ?_
  rintro e w2 ⟨rfl, hb2⟩
  have HB2 := Lib.hid (HB1.out.trans (hb2.mono HB1.out.size))
  have HG2 := Lib.hid (HG1.out.later hb2)
  clear hb2 d0 d1 d2 d3
  cases a2 with
  | false =>
    go_wp2
    go_ret
    exact ⟨by rw [HCK.out]; rfl, HB2.out⟩
  | true =>
  obtain ⟨d0, d1, d2, d3⟩ := HG2.out.four
  go_wp2_with fail
  refine (K3.out _ HB2.out).mono ?_
  rintro e w3 ⟨o, rfl, ho, hb3⟩
  have HO := Lib.hid ho
  clear ho
  have HB3 := Lib.hid (HB2.out.trans (hb3.mono HB2.out.size))
  have HG3 := Lib.hid (HG2.out.later hb3)
  clear hb3 d0 d1 d2 d3
  obtain ⟨d0, d1, d2, d3⟩ := HG3.out.four
  go_wp2_with fail
  refine (K4.out _ _ HO.out).mono ?_
  rintro e w4 ⟨rfl, hb4⟩
  have HB4 := Lib.hid (HB3.out.trans (hb4.mono HB3.out.size))
  have HG4 := Lib.hid (HG3.out.later hb4)
  clear hb4 d0 d1 d2 d3
  cases a4 with
  | false =>
    go_wp2
    go_ret
    exact ⟨by rw [HCK.out]; rfl, HB4.out⟩
  | true =>
  obtain ⟨d0, d1, d2, d3⟩ := HG4.out.four
  go_wp2_with fail
  refine (K5.out _ HB4.out).mono ?_
  rintro e w5 ⟨rfl, hb5⟩
  have HB5 := Lib.hid (HB4.out.trans (hb5.mono HB4.out.size))
  have HG5 := Lib.hid (HG4.out.later hb5)
  clear hb5 d0 d1 d2 d3
  cases a5 with
  | false =>
    go_wp2
    go_ret
    exact ⟨by rw [HCK.out]; rfl, HB5.out⟩
  | true =>
  obtain ⟨d0, d1, d2, d3⟩ := HG5.out.four
  go_wp2_with fail
  refine (K6.out _ HB5.out).mono ?_
  rintro e w6 ⟨rfl, hb6⟩
  have HB6 := Lib.hid (HB5.out.trans (hb6.mono HB5.out.size))
  have HG6 := Lib.hid (HG5.out.later hb6)
  clear hb6 d0 d1 d2 d3
  cases a6 with
  | false =>
    go_wp2
    go_ret
    exact ⟨by rw [HCK.out]; rfl, HB6.out⟩
  | true =>
  go_wp2
  go_loopw [3] (fun i wr => ∃ k : Nat, k ≤ nN ∧ i = .int .i64 k ∧ Hid (g.EachTo k) ∧ Hid (Below w.heap.size w wr) ∧ Hid (GBox wr w.heap.size (.agg #[.slice AT nT cT, .slice AN nN cN, .slice AR nR cR, .int .i64 gs]))) (fun i _ => nN - (intOf i).toNat)
  case atStart => exact ⟨0, Nat.zero_le _, rfl, Lib.hid (fun j hj => absurd hj (Nat.not_lt_zero _)), HB6, HG6⟩
  case round =>
    obtain ⟨k, hk, rfl, HE, HBR, HGR⟩ := hrel
    obtain ⟨d0, d1, d2, d3⟩ := HGR.out.four
    by_cases hlt : k < nN
    · have HO2 := Lib.hid (HOF.out k)
      have HX := Lib.hid (HE1.out k HE.out)
      have HY := Lib.hid (HE3.out k hlt)
      go_wp2_with fail
      refine (HO2.out _ HBR.out).mono ?_
      rintro e w9 ⟨A, n, c, rfl, hn1, hn2, hb9⟩
      have HB9 := Lib.hid (HBR.out.trans (hb9.mono HBR.out.size))
      have HG9 := Lib.hid (HGR.out.later hb9)
      clear d0 d1 d2 d3 hb9
      cases hq : g.R.any (Gm.left ((nT : Int) + 1 + k)) with
      | true =>
        have hn : ((n : Int) == 0) = false := by have := (hn1 hq).1; rw [beq_eq_false_iff_ne]; omega
        have HN := Lib.hid (HX.out hq)
        clear hn1 hn2 hq
        go_wp2
        go_roundw
        case rel => exact ⟨k + 1, by omega, by go_num, HN, HB9, HG9⟩
        case measure => simp [intOf]; omega
      | false =>
        have hn := hn2 hq
        have HN := Lib.hid (HY.out hq)
        subst hn
        clear hn1 hn2 hq
        go_wp2
        go_ret
        exact ⟨by rw [HCK.out, HN.out]; rfl, HB9.out⟩
    · obtain rfl : k = nN := by omega
      have HN := Lib.hid (HE2.out HE.out)
      go_wp2
      go_ret
      exact ⟨by rw [HCK.out, HN.out]; rfl, HBR.out⟩
/-- So far ascending: the last one is q. -/
def AscTo (l : List Int) (k : Nat) (q : Int) : Prop := (∀ (i : Nat) (x y : Int), i + 1 < k → l[i]? = some x → l[i + 1]? = some y → x ≤ y) ∧ (k = 0 → q = -1) ∧ ∀ x, 0 < k → l[k - 1]? = some x → q = x
theorem AscTo.next {l : List Int} {k : Nat} {q x : Int} (h : AscTo l k q) (hx : l[k]? = some x) (hq : ¬ x < q) : AscTo l (k + 1) x := by
  refine ⟨fun i a b hi ha hb => ?_, fun h0 => absurd h0 (Nat.succ_ne_zero k), fun y _ hy => ?_⟩
  · by_cases e : i + 1 = k
    · rw [e, hx] at hb
      cases hb
      have := h.2.2 a (by omega) (by rw [show k - 1 = i by omega]; exact ha)
      omega
    · exact h.1 i a b (by omega) ha hb
  · rw [Nat.add_sub_cancel, hx] at hy
    cases hy
    rfl
open Classical in
theorem AscTo.all {l : List Int} {q : Int} (h : AscTo l l.length q) : decide (Asc l) = true := by
  rw [decide_eq_true_eq]
  intro i x y hx hy
  exact h.1 i x y (List.getElem?_eq_some_iff.1 hy).1 hx hy
open Classical in
theorem AscTo.no {l : List Int} {k : Nat} {q x : Int} (h : AscTo l k q) (hx : l[k]? = some x) (hq : x < q) (h0 : 0 ≤ x) : decide (Asc l) = false := by
  rw [decide_eq_false_iff_not]
  intro ha
  by_cases e : k = 0
  · have := h.2.1 e
    omega
  · obtain ⟨hk, _⟩ := List.getElem?_eq_some_iff.1 hx
    have hp := List.getElem?_eq_getElem (show k - 1 < l.length by omega)
    have h1 := h.2.2 _ (by omega) hp
    have h2 := ha (k - 1) _ x hp (by rw [show k - 1 + 1 = k by omega]; exact hx)
    omega
theorem first_none {g : Gm} {k : Nat} (h : g.R.any (Gm.left ((g.T.length : Int) + 1 + k)) = false) : g.first k = g.R.length := by
  unfold Gm.first
  refine List.findIdx_eq_length.2 fun x hx => ?_
  cases hq : Gm.left ((g.T.length : Int) + 1 + k) x with
  | false => rfl
  | true =>
    have : g.R.any (Gm.left ((g.T.length : Int) + 1 + k)) = true := List.any_eq_true.2 ⟨x, hx, hq⟩
    rw [h] at this
    cases this
set_option maxRecDepth 100000 in
set_option maxHeartbeats 6400000 in
open Classical in
theorem rord_any (h : GrR w v g) : Calls Tryz.prog 7 #[v] w (Says w g.ordered) := by
  have hT20 := h.small.2.2.1
  have hN20 := h.small.2.2.2.1
  have hR20 := h.small.2.2.2.2.1
  have HG := Lib.hid (GBox.new w 25 v)
  have HF : Hid (g.ordered = decide (Asc g.firsts)) := Lib.hid rfl
  have HFL : Hid (g.firsts.length = g.N.length) := Lib.hid (by unfold Gm.firsts; simp)
  have HFG : Hid (∀ k, k < g.N.length → g.firsts[k]? = some (g.first k : Int)) := Lib.hid (fun k hk => by unfold Gm.firsts; simp [hk])
  have HFN := Lib.hid (fun k => @first_none g k)
  have HOF := Lib.hid (fun k y (hy : Below w.heap.size w y) => rof2 h k y hy)
  obtain ⟨AT, cT, AN, cN, AR, cR, rfl, hT, hN, hR⟩ := h.open_
  clear h hT hN hR
  generalize hres : g.ordered = res at *
  clear hres
  generalize g.firsts = l at *
  generalize g.T.length = nT at *
  generalize g.N.length = nN at *
  generalize g.R.length = nR at *
  generalize g.s = gs at *
  go_enter Tryz.func7, Tryz.ntmps7
  go_wp2
  go_loopw [3, 4] (fun la i wr => ∃ (k : Nat) (q : Int), k ≤ nN ∧ i = .int .i64 k ∧ la = .int .i64 q ∧ Hid (AscTo l k q) ∧ Hid (Below w.heap.size w wr) ∧ Hid (GBox wr w.heap.size (.agg #[.slice AT nT cT, .slice AN nN cN, .slice AR nR cR, .int .i64 gs]))) (fun _ i _ => nN - (intOf i).toNat)
  case atStart => exact ⟨0, -1, Nat.zero_le _, rfl, rfl, Lib.hid ⟨fun i x y hi => absurd hi (by omega), fun _ => rfl, fun x h0 => absurd h0 (Nat.lt_irrefl 0)⟩, Lib.hid (below_alloc _ _), HG⟩
  case round =>
    obtain ⟨k, q, hk, rfl, rfl, HA, HBR, HGR⟩ := hrel
    obtain ⟨d0, d1, d2, d3⟩ := HGR.out.four
    by_cases hlt : k < nN
    · have HO2 := Lib.hid (HOF.out k)
      have HX := Lib.hid (HFG.out k hlt)
      have HNN := Lib.hid (HFN.out k)
      have HY := Lib.hid (fun hh => HA.out.next HX.out hh)
      have HZ := Lib.hid (fun hh => HA.out.no HX.out hh (by omega))
      go_wp2_with fail
      refine (HO2.out _ HBR.out).mono ?_
      rintro e w9 ⟨A, n, c, rfl, hn1, hn2, hb9⟩
      have HB9 := Lib.hid (HBR.out.trans (hb9.mono HBR.out.size))
      have HG9 := Lib.hid (HGR.out.later hb9)
      clear d0 d1 d2 d3 hb9
      obtain ⟨d0, d1, d2, d3⟩ := HG9.out.four
      generalize g.first k = f at *
      cases hq : g.R.any (Gm.left ((nT : Int) + 1 + k)) with
      | true =>
        obtain ⟨hn, b, off, rfl, hcell⟩ := hn1 hq
        clear hn1 hn2 hq
        by_cases hf : (f : Int) < q
        · have HN := Lib.hid (HZ.out hf)
          go_wp2
          go_ret
          exact ⟨ret_bool (by rw [HF.out]; exact HN.out.symm), HB9.out⟩
        · have HN := Lib.hid (HY.out (by omega))
          go_wp2
          go_roundw
          case rel => exact ⟨k + 1, _, by omega, by go_num, rfl, HN, HB9, HG9⟩
          case measure => simp [intOf]; omega
      | false =>
        have hn := hn2 hq
        have hf0 := HNN.out hq
        subst hn
        subst hf0
        clear hn1 hn2 hq
        by_cases hf : (f : Int) < q
        · have HN := Lib.hid (HZ.out hf)
          go_wp2
          go_ret
          exact ⟨ret_bool (by rw [HF.out]; exact HN.out.symm), HB9.out⟩
        · have HN := Lib.hid (HY.out (by omega))
          go_wp2
          go_roundw
          case rel => exact ⟨k + 1, _, by omega, by go_num, rfl, HN, HB9, HG9⟩
          case measure => simp [intOf]; omega
    · obtain rfl : k = nN := by omega
      have HN := Lib.hid (AscTo.all (by rw [HFL.out]; exact HA.out))
      go_wp2
      go_ret
      exact ⟨ret_bool (by rw [HF.out]; exact HN.out.symm), HBR.out⟩
end
end Go.Proofs.YtdbmeocpjopdhaaGreat
