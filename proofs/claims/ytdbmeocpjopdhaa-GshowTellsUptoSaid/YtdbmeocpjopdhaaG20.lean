/- What Check asks: the document's, first part. -/
import Derived.Test.YtdbmeocpjopdhaaG19
import Derived.Deep.RegionLaw
import Derived.Deep.RegionHeld3
namespace Go.Proofs.Ytdbmeocpjopdhaa
open Go.RowKit
set_option linter.unusedVariables false
theorem all_step {α : Type} {p : α → Bool} {l : List α} {k : Nat} {x : α} (h : ∀ j y, j < k → l[j]? = some y → p y = true) (hx : l[k]? = some x) (hp : p x = true) : ∀ j y, j < k + 1 → l[j]? = some y → p y = true := by
  intro j y hj hy
  by_cases e : j = k
  · subst e
    rw [hx] at hy
    cases hy
    exact hp
  · exact h j y (by omega) hy
theorem all_yes {α : Type} {p : α → Bool} {l : List α} (h : ∀ j y, j < l.length → l[j]? = some y → p y = true) : l.all p = true := by
  rw [List.all_eq_true]
  intro x hx
  obtain ⟨k, hk, he⟩ := List.mem_iff_getElem.1 hx
  exact h k x hk (by rw [← he]; exact List.getElem?_eq_getElem hk)
theorem all_no {α : Type} {p : α → Bool} {l : List α} {k : Nat} {x : α} (hx : l[k]? = some x) (hp : p x = false) : l.all p = false := by
  rw [List.all_eq_false]
  exact ⟨x, List.mem_of_getElem? hx, by rw [hp]; simp⟩
set_option maxRecDepth 100000 in
set_option maxHeartbeats 3200000 in
theorem rmany_any {w : World} {v : Value} {g : Gm} (h : GrR w v g) : Calls Try.prog 40 #[v] w (Says w (!g.few)) := by
  have hR20 := h.small.2.2.2.2.1
  have HG := Lib.hid (GBox.new w 25 v)
  obtain ⟨AT, cT, AN, cN, AR, cR, rfl, hT, hN, hR⟩ := h.open_
  obtain ⟨⟨A, c, e, hc⟩, _⟩ := hR
  cases e
  have HC := Lib.hid hc
  have HF : Hid (g.few = ((decide (g.T.length ≤ 120) && decide (g.N.length ≤ 120)) && (decide (g.R.length ≤ 300) && g.R.all shortR))) := Lib.hid rfl
  clear h hT hN hc
  generalize g.few = few at *
  generalize g.R = l at *
  generalize g.T.length = nT at *
  generalize g.N.length = nN at *
  generalize g.s = gs at *
  obtain ⟨d0, d1, d2, d3⟩ := HG.out.four
  have hlt0 : w.heap.size < (w.alloc (.cells #[.slice AT nT cT, .slice AN nN cN, .slice AR l.length cR, .int .i64 gs] 25)).heap.size := by simp
  go_enter Try.func40, Try.ntmps40
  go_wp2
  go_loop [3] (fun i => ∃ k : Nat, k ≤ l.length ∧ i = .int .i64 k ∧ Hid (∀ j y, j < k → l[j]? = some y → shortR y = true)) (fun i => l.length - (intOf i).toNat)
  case atStart => exact ⟨0, Nat.zero_le _, rfl, Lib.hid (fun j y hj => absurd hj (Nat.not_lt_zero _))⟩
  case round =>
    obtain ⟨k, hk, rfl, HA⟩ := hrel
    by_cases hlt : k < l.length
    · have hx := List.getElem?_eq_getElem hlt
      generalize l[k] = r at hx
      obtain ⟨b, off, hA, hb, h1, h2, ⟨A2, c2, hv, _⟩, _⟩ := HC.out k r hx
      subst hA
      rw [hv] at h2
      have e2 := ((below_alloc w (.cells #[.slice AT nT cT, .slice AN nN cN, .slice (some ⟨b, off, none⟩) l.length cR, .int .i64 gs] 25)).cell (p := ⟨b, off + k * 2 + 1, none⟩) hb).trans h2
      have HX := Lib.hid hx
      clear h1 h2 hv hx
      by_cases hs : r.right.length ≤ 8
      · have HN := Lib.hid (all_step HA.out HX.out (show shortR r = true from decide_eq_true hs))
        generalize r.right.length = rn at *
        go_wp2
        go_round
        case rel => exact ⟨k + 1, by omega, by go_num, HN⟩
        case measure => simp [intOf]; omega
      · have HN := Lib.hid (all_no HX.out (show shortR r = false from decide_eq_false hs))
        generalize r.right.length = rn at *
        have hs2 : ¬ (rn : Int) ≤ 8 := by omega
        clear hs
        go_wp2
        go_ret
        exact ⟨ret_bool (by rw [HF.out, HN.out]; simp), below_alloc _ _⟩
    · obtain rfl : k = l.length := by omega
      have HN := Lib.hid (all_yes HA.out)
      rw [HN.out] at HF
      clear HN HA HC
      generalize l.length = nR at *
      go_wp2
      all_goals go_ret
      all_goals exact ⟨ret_bool (by rw [HF.out, Bool.eq_iff_iff]; simp [*] <;> omega), below_alloc _ _⟩
theorem texts_eq {a b : ByteArray} (h : a = b) : (a.toList == b.toList) = true := by rw [h]; simp
theorem texts_ne {a b : ByteArray} (h : ¬ a = b) : (a.toList == b.toList) = false := by
  rw [beq_eq_false_iff_ne, bytes_list, bytes_list]
  exact fun e => h (ByteArray.ext (Array.ext' e))
open Classical in
/-- The first place of a text. -/
noncomputable def placeL (l : List ByteArray) (s : ByteArray) : Int := idxL (fun x => decide (x = s)) l
set_option maxRecDepth 100000 in
set_option maxHeartbeats 1600000 in
open Classical in
theorem rplace_any {w : World} {v : Value} {l : List ByteArray} (h : Arr StrV w v l) (s : ByteArray) : Calls Try.prog 65 #[v, .string s] w fun e w' => e = .returned (.int .i64 (placeL l s)) ∧ w' = w := by
  obtain ⟨⟨A, c, rfl, hc⟩, hs, _⟩ := h
  have HC := Lib.hid hc
  clear hc
  unfold placeL
  go_enter Try.func65, Try.ntmps65
  go_wp2
  go_loop [5] (fun i => ∃ k : Nat, k ≤ l.length ∧ i = .int .i64 k ∧ Hid (∀ j y, j < k → l[j]? = some y → decide (y = s) = false)) (fun i => l.length - (intOf i).toNat)
  case atStart => exact ⟨0, Nat.zero_le _, rfl, Lib.hid (fun j y hj => absurd hj (Nat.not_lt_zero _))⟩
  case round =>
    obtain ⟨k, hk, rfl, HA⟩ := hrel
    by_cases hlt : k < l.length
    · have hx := List.getElem?_eq_getElem hlt
      generalize l[k] = x at hx
      obtain ⟨b, off, hA, hb, hcell⟩ := HC.out k x hx
      subst hA
      simp only [StrV] at hcell
      have HX := Lib.hid hx
      clear hx
      by_cases hq : x = s
      · have HI := Lib.hid (idxL_hit HX.out (decide_eq_true hq) HA.out)
        have hq1 := texts_eq hq
        clear hq
        go_wp2
        go_ret
        exact ⟨by rw [HI.out]; rfl, rfl⟩
      · have HN := Lib.hid (not_so HX.out (decide_eq_false hq) HA.out)
        have hq1 := texts_ne hq
        clear hq
        go_wp2
        go_round
        case rel => exact ⟨k + 1, by omega, by go_num, HN⟩
        case measure => simp [intOf]; omega
    · obtain rfl : k = l.length := by omega
      have HI := Lib.hid (idxL_miss HA.out)
      go_wp2
      go_ret
      exact ⟨by rw [HI.out]; rfl, rfl⟩
end Go.Proofs.Ytdbmeocpjopdhaa
