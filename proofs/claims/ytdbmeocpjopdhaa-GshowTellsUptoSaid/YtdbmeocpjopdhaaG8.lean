/- No two rules are the same: the program's, all of them. -/
import Derived.Test.YtdbmeocpjopdhaaG7
namespace Go.Proofs.Ytdbmeocpjopdhaa
open Go.RowKit
set_option linter.unusedVariables false
/-- No two of the first k are the same. -/
def UnTo (l : List Ru) (k : Nat) : Prop := ∀ (i j : Nat) (x r : Ru), i < k → j < i → l[j]? = some x → l[i]? = some r → sameR x r = false
theorem UnTo.next {l : List Ru} {k : Nat} {r : Ru} (h : UnTo l k) (hr : l[k]? = some r) (ha : ((l.take k).any fun x => sameR x r) = false) : UnTo l (k + 1) := by
  intro i j x r' hi hj hx hr'
  by_cases e : i = k
  · subst e
    rw [hr] at hr'
    cases hr'
    have hm : x ∈ l.take i := List.mem_of_getElem? (i := j) (by rw [List.getElem?_take, if_pos hj]; exact hx)
    cases hq : sameR x r with
    | false => rfl
    | true =>
      have : ((l.take i).any fun x => sameR x r) = true := List.any_eq_true.2 ⟨x, hm, hq⟩
      rw [ha] at this
      cases this
  · exact h i j x r' (by omega) hj hx hr'
open Classical in
theorem UnTo.all {l : List Ru} (h : UnTo l l.length) : decide (Un l) = true := by
  rw [decide_eq_true_eq]
  intro i j x r hj hx hr
  exact h i j x r (List.getElem?_eq_some_iff.1 hr).1 hj hx hr
theorem un_not {l : List Ru} {k : Nat} {r : Ru} (hr : l[k]? = some r) (ha : ((l.take k).any fun x => sameR x r) = true) : ¬ Un l := by
  intro h
  obtain ⟨x, hm, hq⟩ := List.any_eq_true.1 ha
  obtain ⟨j, hj, he⟩ := List.mem_iff_getElem.1 hm
  have hj' : j < k := by rw [List.length_take] at hj; omega
  have := h k j x r hj' (by rw [← he, List.getElem_take]; exact List.getElem?_eq_getElem _) hr
  rw [hq] at this
  cases this
/-- Boxes of a row and of a function, and what was there. -/
def UK (w : World) (sl : Value) (y : World) : Prop := Below w.heap.size w y ∧ w.heap.size + 1 < y.heap.size ∧ y.cell? ⟨w.heap.size, 0, none⟩ = some sl ∧ y.cell? ⟨w.heap.size + 1, 0, none⟩ = some (.func (.func 32) #[] #[])
theorem UK.later {w y z : World} {sl : Value} (h : UK w sl y) (hb : Below y.heap.size y z) : UK w sl z :=
  ⟨h.1.trans (hb.mono h.1.size), Nat.lt_of_lt_of_le h.2.1 hb.size, (hb.cell (p := ⟨w.heap.size, 0, none⟩) (by have := h.2.1; show w.heap.size < _; omega)).trans h.2.2.1, (hb.cell (p := ⟨w.heap.size + 1, 0, none⟩) h.2.1).trans h.2.2.2⟩
open Classical in
theorem says_un {w w' : World} {l : List Ru} {b : Bool} (h : decide (Un l) = b) (hb : Below w.heap.size w w') : Says w (decide (Un l)) (.returned (.bool b)) w' := ⟨by rw [h], hb⟩
set_option maxRecDepth 100000 in
set_option maxHeartbeats 1600000 in
open Classical in
theorem unlike_any {w : World} {v : Value} {l : List Ru} (h : Rul w v l) : Calls Try.prog 31 #[v, .func (.func 32) #[] #[]] w (Says w (decide (Un l))) := by
  have hl := h
  obtain ⟨⟨A, c, rfl, hc⟩, hs, hro⟩ := hl
  have HCON : Hid (∀ k r b off, l[k]? = some r → A = some ⟨b, off, none⟩ → ∀ y, UK w (.slice A l.length c) y → Calls Try.prog 49 #[.slice A k c, .func (.func 58) #[] #[.pointer (some ⟨w.heap.size + 1, 0, none⟩), .pointer (some ⟨w.heap.size, 0, none⟩), .pointer (some ⟨y.heap.size, 0, none⟩)]] (y.alloc (.cells #[.int .i64 k] 3)) (Says (y.alloc (.cells #[.int .i64 k] 3)) ((l.take k).any fun x => sameR x r))) := Lib.hid (by
    intro k r b off hr hA y hy
    subst hA
    have hk := (List.getElem?_eq_some_iff.1 hr).1
    have hy2 := hy.later (below_alloc y (.cells #[.int .i64 k] 3))
    refine conR_any ((h.take k (by omega) c ⟨by have := (hro _ _ _ rfl).1; omega, fun e => by cases e⟩).later hy2.1) (fun x => sameR x r) 58 _ (fun _ _ => by kernel_rfl) (fun x hx z hz => ?_)
    have hz2 := hy2.later hz
    obtain ⟨b', off', e, hlt, h1, h2, h3⟩ := hc k r hr
    cases e
    refine unlikeq_any (r := r) (b := b) (off := off) (n := l.length) (c := c) (i := k) hz2.2.2.2 hz2.2.2.1 ?_ hk ?_ ?_ ((h.mem (List.mem_of_mem_take hx)).later hz2.1) (h3.later hz2.1)
    · exact (hz.cell (p := ⟨y.heap.size, 0, none⟩) (by simp)).trans ((Blk.new y _ _).cell 0)
    · exact (hz2.1.cell (p := ⟨b, off + k * 2, none⟩) hlt).trans h1
    · exact (hz2.1.cell (p := ⟨b, off + k * 2 + 1, none⟩) hlt).trans h2)
  have HCELL := Lib.hid hc
  have hcap := (hro _ _ _ rfl).1
  clear h hc hro
  go_enter Try.func31, Try.ntmps31
  go_wp2
  go_loopw [8] (fun i wr => ∃ k : Nat, k ≤ l.length ∧ i = .int .i64 k ∧ Hid (UnTo l k) ∧ Hid (UK w (.slice A l.length c) wr)) (fun i _ => l.length - (intOf i).toNat)
  case atStart => exact ⟨0, Nat.zero_le _, rfl, Lib.hid (fun i j x r hi => absurd hi (Nat.not_lt_zero _)), Lib.hid ⟨(below_alloc w _).trans ((below_alloc _ _).mono (by simp)), by simp, (World.cell?_alloc_lt _ _ ⟨w.heap.size, 0, none⟩ (by simp)).trans ((Blk.new w _ _).cell 0), by
    simp⟩⟩
  case round =>
    obtain ⟨k, hk, rfl, HU, HK⟩ := hrel
    by_cases hlt : k < l.length
    · have hr := List.getElem?_eq_getElem hlt
      generalize l[k] = r at hr
      obtain ⟨b, off, hA, hlt0, _⟩ := HCELL.out k r hr
      have HC := Lib.hid (HCON.out k r b off hr hA wr HK.out)
      have HR := Lib.hid hr
      obtain ⟨c1, c2, c3, c4⟩ := HK.out
      have l1 : w.heap.size < wr.heap.size := by omega
      clear c1 hr
      subst hA
      cases hq : (l.take k).any fun x => sameR x r with
      | false =>
        rw [hq] at HC
        have HN := Lib.hid (HU.out.next HR.out hq)
        clear hq
        go_wp2_with fail
        refine HC.out.mono ?_
        rintro e w1 ⟨rfl, hb1⟩
        have HK2 := Lib.hid ((HK.out.later (below_alloc wr _)).later hb1)
        clear hb1
        go_wp2
        go_roundw
        case rel => exact ⟨k + 1, by omega, by go_num, HN, HK2⟩
        case measure => simp [intOf]; omega
      | true =>
        rw [hq] at HC
        have HN := Lib.hid (un_not HR.out hq)
        clear hq
        go_wp2_with fail
        refine HC.out.mono ?_
        rintro e w1 ⟨rfl, hb1⟩
        have HK2 := Lib.hid ((HK.out.later (below_alloc wr _)).later hb1)
        clear hb1
        go_wp2
        go_ret
        exact says_un (decide_eq_false HN.out) HK2.out.1
    · obtain rfl : k = l.length := by omega
      have HN := Lib.hid HU.out.all
      go_wp2
      go_ret
      exact says_un HN.out HK.out.1
end Go.Proofs.Ytdbmeocpjopdhaa
