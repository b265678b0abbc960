/- Check: the program's. -/
import Derived.Test.YtdbmeocpjopdhaaGreatDoorZm
namespace Go.Proofs.YtdbmeocpjopdhaaGreatDoor
open Go.RowKit Go.Maps
set_option linter.unusedVariables false
theorem of_none {l : List Ru} {s : Int} (h : l.any (Gm.left s) = false) (k : Nat) : ofTo l s k = [] := by
  unfold ofTo
  rw [List.map_eq_nil_iff, List.filter_eq_nil_iff]
  intro i _
  cases hx : l[i]? with
  | none => simp
  | some r =>
    simp only [Option.map_some, Option.getD_some]
    intro hq
    have : l.any (Gm.left s) = true := List.any_eq_true.2 ⟨r, List.mem_of_getElem? hx, hq⟩
    rw [h] at this
    cases this
theorem of_upto {l : List Ru} {s : Int} (k : Nat) (hk : k ≤ l.length) : (k ≤ l.findIdx (Gm.left s) → ofTo l s k = []) ∧ (l.findIdx (Gm.left s) < k → ∃ r, ofTo l s k = ((l.findIdx (Gm.left s) : Nat) : Int) :: r) := by
  induction k with
  | zero => exact ⟨fun _ => rfl, fun h => absurd h (Nat.not_lt_zero _)⟩
  | succ k ih =>
    obtain ⟨h1, h2⟩ := ih (by omega)
    have hr := List.getElem?_eq_getElem (show k < l.length by omega)
    constructor
    · intro hf
      have hno : Gm.left s (l[k]'(by omega)) = false := List.not_of_lt_findIdx (p := Gm.left s) (xs := l) (i := k) (by omega)
      unfold Gm.left at hno
      rw [ofTo_no hr (by simpa using hno)]
      exact h1 (by omega)
    · intro hf
      by_cases e : l.findIdx (Gm.left s) = k
      · have hyes : Gm.left s (l[k]'(by omega)) = true := by
          have := List.findIdx_getElem (p := Gm.left s) (xs := l) (w := by omega)
          simpa only [e] using this
        unfold Gm.left at hyes
        rw [ofTo_yes hr (by simpa using hyes), h1 (by omega)]
        exact ⟨[], by rw [List.nil_append, e]⟩
      · obtain ⟨r, hr2⟩ := h2 (by omega)
        rw [ofTo_next hr, hr2]
        exact ⟨_, List.cons_append⟩
theorem of_some {l : List Ru} {s : Int} (h : l.any (Gm.left s) = true) : ∃ r, ofTo l s l.length = ((l.findIdx (Gm.left s) : Nat) : Int) :: r := by
  refine (of_upto l.length (Nat.le_refl _)).2 (List.findIdx_lt_length_of_exists ?_)
  obtain ⟨x, hx, hp⟩ := List.any_eq_true.1 h
  exact ⟨x, hx, hp⟩
/-- A call of a function of one text, or of a rule. -/
theorem call_one {F : Nat} {a : Value} {y : World} {P : Ending → World → Prop} (h : Calls Tryz.prog F #[a] y P) : Calls Tryz.prog F (#[a] ++ #[]) y P := h
/-- Each of the first k nonterminals has a rule. -/
def Gm.EachTo (g : Gm) (k : Nat) : Prop := ∀ j, j < k → g.R.any (Gm.left ((g.T.length : Int) + 1 + j)) = true
theorem Gm.EachTo.next {g : Gm} {k : Nat} (h : g.EachTo k) (hk : g.R.any (Gm.left ((g.T.length : Int) + 1 + k)) = true) : g.EachTo (k + 1) := by
  intro j hj
  by_cases e : j = k
  · subst e; exact hk
  · exact h j (by omega)
theorem Gm.EachTo.all {g : Gm} (h : g.EachTo g.N.length) : g.each = true := by
  unfold Gm.each
  rw [List.all_eq_true]
  exact fun j hj => h j (List.mem_range.1 hj)
theorem each_not {g : Gm} {k : Nat} (hk : k < g.N.length) (h : g.R.any (Gm.left ((g.T.length : Int) + 1 + k)) = false) : g.each = false := by
  cases he : g.each with
  | false => rfl
  | true =>
    unfold Gm.each at he
    rw [List.all_eq_true] at he
    have := he k (List.mem_range.2 hk)
    rw [h] at this
    cases this
def Ends (w : World) (n : Int) (e : Ending) (w' : World) : Prop := e = .returned (.int .i64 n) ∧ Below w.heap.size w w'
section
variable {w : World} {v : Value} {g : Gm}
/-- What Check asks, in whatever world that comes. -/
structure Asks (w : World) (AT AN AR : Option Addr) (cT cN cR : Nat) (v : Value) (g : Gm) : Prop where
  short : ∀ y, Below w.heap.size w y → Calls Tryz.prog 20 #[.slice AR g.R.length cR, .func (.func 19) #[] #[]] y (Says y (g.R.all shortR))
  terms : ∀ y, Below w.heap.size w y → Calls Tryz.prog 21 #[.slice AT g.T.length cT, .func (.func 22) #[] #[]] y (Says y (g.T.all okT))
  nons : ∀ y, Below w.heap.size w y → Calls Tryz.prog 21 #[.slice AN g.N.length cN, .func (.func 23) #[] #[]] y (Says y (g.N.all okN))
  once : ∀ y, Below w.heap.size w y → Calls Tryz.prog 25 #[v] y (Says y g.once)
  non : ∀ y, Below w.heap.size w y → Calls Tryz.prog 26 #[v, .int .i64 g.s] y (Says y (g.non g.s))
  known : ∀ y B, Below w.heap.size w y → GBox y B v → Calls Tryz.prog 20 #[.slice AR g.R.length cR, .func (.func 27) #[] #[.pointer (some ⟨B, 0, none⟩)]] y (Says y (g.R.all g.knownR))
  unlike : ∀ y, Below w.heap.size w y → Calls Tryz.prog 29 #[.slice AR g.R.length cR, .func (.func 30) #[] #[]] y (Says y g.unlike)
  top : ∀ y, Below w.heap.size w y → Calls Tryz.prog 31 #[v] y (Ends y ((g.T.length : Int) + (g.N.length : Int)))
  of : ∀ y s, Below w.heap.size w y → Calls Tryz.prog 32 #[v, .int .i64 s] y (fun e w' => ∃ A c, e = .returned (.slice A (ofTo g.R s g.R.length).length c) ∧ Below y.heap.size y w')
theorem asks_any {AT AN AR : Option Addr} {cT cN cR : Nat} (h : GrR w v g) (hT : Arr StrV w (.slice AT g.T.length cT) g.T) (hN : Arr StrV w (.slice AN g.N.length cN) g.N) (hR : Rul w (.slice AR g.R.length cR) g.R) : Asks w AT AN AR cT cN cR v g where
  short := fun y hy => allR_any (hR.later hy) shortR 19 #[] (fun _ _ => by kernel_rfl) (fun x hx z hz => call_one (short_any x z ((hR.mem hx).later (hy.trans (hz.mono hy.size)))))
  terms := fun y hy => allS_any (hT.later hy) okT 22 #[] (fun _ _ => by kernel_rfl) (fun x hx z hz => call_one (form2_any x (by have := h.small.1 x hx; omega) z))
  nons := fun y hy => allS_any (hN.later hy) okN 23 #[] (fun _ _ => by kernel_rfl) (fun x hx z hz => call_one (plain_any x (by have := h.small.2.1 x hx; omega) z))
  once := fun y hy => once_any (h.later hy)
  non := fun y hy => non_any (h.later hy) g.s
  known := fun y B hy hB => allR_any (hR.later hy) g.knownR 27 #[.pointer (some ⟨B, 0, none⟩)] (fun _ _ => by kernel_rfl) (fun x hx z hz => know3_any h (hR.mem hx) (hy.trans (hz.mono hy.size)) (hB.later hz))
  unlike := fun y hy => unlike_any (hR.later hy)
  top := fun y hy => top_any (h.later hy)
  of := fun y s hy => (of_any (h.later hy) s).mono fun e w' ⟨o, he, A, c, ho, _, hb⟩ => ⟨A, c, by rw [he, ho, List.length_map], below_alloc_trans hb⟩
theorem Asks.of2 {AT AN AR : Option Addr} {cT cN cR : Nat} (h : Asks w AT AN AR cT cN cR v g) (k : Nat) (y : World) (hy : Below w.heap.size w y) : Calls Tryz.prog 32 #[v, .int .i64 ((g.T.length : Int) + 1 + k)] y (fun e w' => ∃ A n c, e = .returned (.slice A n c) ∧ (g.R.any (Gm.left ((g.T.length : Int) + 1 + k)) = true → ((n : Int) == 0) = false) ∧ (g.R.any (Gm.left ((g.T.length : Int) + 1 + k)) = false → n = 0) ∧ Below y.heap.size y w') :=
  (h.of y _ hy).mono fun e w' ⟨A, c, he, hb⟩ => ⟨A, _, c, he, fun hq => by
    obtain ⟨r, hr⟩ := of_some hq
    rw [hr, beq_eq_false_iff_ne, List.length_cons]
    omega, fun hq => by rw [of_none hq]; rfl, hb⟩
set_option maxRecDepth 100000 in
set_option maxHeartbeats 6400000 in
theorem check_any (h : GrR w v g) : Calls Tryz.prog 7 #[v] w (Ends w g.check) := by
  have hsm := h.small
  have hT20 := hsm.2.2.1
  have hN20 := hsm.2.2.2.1
  have HG := Lib.hid (GBox.new w 26 v)
  obtain ⟨AT, cT, AN, cN, AR, cR, rfl, hT, hN, hR⟩ := h.open_
  have HK := Lib.hid (asks_any h hT hN hR)
  have HOF := Lib.hid (fun k => (asks_any h hT hN hR).of2 k)
  have HE1 := Lib.hid (fun k => @Gm.EachTo.next g k)
  have HE2 := Lib.hid (@Gm.EachTo.all g)
  have HE3 := Lib.hid (fun k => @each_not g k)
  have HCK : Hid (g.check = if ((decide (g.T.length ≤ 120) && decide (g.N.length ≤ 120)) && (decide (g.R.length ≤ 300) && g.R.all shortR)) then (if (g.T.all okT && g.N.all okN) then (if g.once then (if (g.non g.s && g.R.all g.knownR) then (if g.unlike then (if g.each then 0 else 9) else 8) else 1) else 8) else 10) else 7) := Lib.hid rfl
  clear h hT hN hR hsm
  by_cases q1 : g.T.length ≤ 120
  case neg =>
    rw [decide_eq_false q1] at HCK
    have HC7 : Hid (g.check = 7) := Lib.hid (by rw [HCK.out]; simp)
    clear HCK HK HOF HE1 HE2 HE3
    generalize g.T.length = nT at *
    generalize g.N.length = nN at *
    generalize g.R.length = nR at *
    go_enter Tryz.func7, Tryz.ntmps7
    go_wp2
    go_ret
    exact ⟨by rw [HC7.out]; rfl, below_alloc _ _⟩
  rw [decide_eq_true q1] at HCK
  by_cases q2 : g.N.length ≤ 120
  case neg =>
    rw [decide_eq_false q2] at HCK
    have HC7 : Hid (g.check = 7) := Lib.hid (by rw [HCK.out]; simp)
    clear HCK HK HOF HE1 HE2 HE3
    generalize g.T.length = nT at *
    generalize g.N.length = nN at *
    generalize g.R.length = nR at *
    go_enter Tryz.func7, Tryz.ntmps7
    go_wp2
    go_ret
    exact ⟨by rw [HC7.out]; rfl, below_alloc _ _⟩
  rw [decide_eq_true q2] at HCK
  by_cases q3 : g.R.length ≤ 300
  case neg =>
    rw [decide_eq_false q3] at HCK
    have HC7 : Hid (g.check = 7) := Lib.hid (by rw [HCK.out]; simp)
    clear HCK HK HOF HE1 HE2 HE3
    generalize g.T.length = nT at *
    generalize g.N.length = nN at *
    generalize g.R.length = nR at *
    go_enter Tryz.func7, Tryz.ntmps7
    go_wp2
    go_ret
    exact ⟨by rw [HC7.out]; rfl, below_alloc _ _⟩
  rw [decide_eq_true q3] at HCK
  have K1 := Lib.hid HK.out.short
  have K2 := Lib.hid HK.out.terms
  have K3 := Lib.hid HK.out.nons
  have K4 := Lib.hid HK.out.once
  have K5 := Lib.hid HK.out.non
  have K6 := Lib.hid HK.out.known
  have K7 := Lib.hid HK.out.unlike
  have K8 := Lib.hid HK.out.top
  clear HK
  generalize g.R.all shortR = a1 at *
  generalize g.T.all okT = a2 at *
  generalize g.N.all okN = a3 at *
  generalize g.once = a4 at *
  generalize g.non g.s = a5 at *
  generalize g.R.all g.knownR = a6 at *
  generalize g.unlike = a7 at *
  generalize g.each = a8 at *
  generalize g.check = res at *
  generalize g.T.length = nT at *
  generalize g.N.length = nN at *
  generalize g.R.length = nR at *
  generalize g.s = gs at *
  go_enter Tryz.func7, Tryz.ntmps7
  go_wp2_with fail
  refine (K1.out _ (below_alloc w _)).mono ?_
  rintro e w1 ⟨rfl, hb1⟩
  have HB1 := Lib.hid (below_alloc_trans hb1)
  have HG1 := Lib.hid (HG.out.later hb1)
  cases a1 with
  | false =>
    clear hb1
    go_wp2
    go_ret
    exact ⟨by rw [HCK.out]; rfl, HB1.out⟩
  | true =>
  obtain ⟨d0, d1, d2, d3⟩ := HG1.out.four
  clear hb1
  go_wp2_with fail
  refine (K2.out _ HB1.out).mono ?_
  rintro e w2 ⟨rfl, hb2⟩
  have HB2 := Lib.hid (HB1.out.trans (hb2.mono HB1.out.size))
  have HG2 := Lib.hid (HG1.out.later hb2)
  cases a2 with
  | false =>
    clear hb2 d0 d1 d2 d3
    go_wp2
    go_ret
    exact ⟨by rw [HCK.out]; rfl, HB2.out⟩
  | true =>
  clear d0 d1 d2 d3
  obtain ⟨d0, d1, d2, d3⟩ := HG2.out.four
  clear hb2
  go_wp2_with fail
  refine (K3.out _ HB2.out).mono ?_
  rintro e w3 ⟨rfl, hb3⟩
  have HB3 := Lib.hid (HB2.out.trans (hb3.mono HB2.out.size))
  have HG3 := Lib.hid (HG2.out.later hb3)
  cases a3 with
  | false =>
    clear hb3 d0 d1 d2 d3
    go_wp2
    go_ret
    exact ⟨by rw [HCK.out]; rfl, HB3.out⟩
  | true =>
  clear d0 d1 d2 d3
  obtain ⟨d0, d1, d2, d3⟩ := HG3.out.four
  clear hb3
  go_wp2_with fail
  refine (K4.out _ HB3.out).mono ?_
  rintro e w4 ⟨rfl, hb4⟩
  have HB4 := Lib.hid (HB3.out.trans (hb4.mono HB3.out.size))
  have HG4 := Lib.hid (HG3.out.later hb4)
  cases a4 with
  | false =>
    clear hb4 d0 d1 d2 d3
    go_wp2
    go_ret
    exact ⟨by rw [HCK.out]; rfl, HB4.out⟩
  | true =>
  clear d0 d1 d2 d3
  obtain ⟨d0, d1, d2, d3⟩ := HG4.out.four
  clear hb4
  go_wp2_with fail
  refine (K5.out _ HB4.out).mono ?_
  rintro e w5 ⟨rfl, hb5⟩
  have HB5 := Lib.hid (HB4.out.trans (hb5.mono HB4.out.size))
  have HG5 := Lib.hid (HG4.out.later hb5)
  cases a5 with
  | false =>
    clear hb5 d0 d1 d2 d3
    go_wp2
    go_ret
    exact ⟨by rw [HCK.out]; rfl, HB5.out⟩
  | true =>
  clear d0 d1 d2 d3
  obtain ⟨d0, d1, d2, d3⟩ := HG5.out.four
  clear hb5
  go_wp2_with fail
  refine (K6.out _ _ HB5.out HG5.out).mono ?_
  rintro e w6 ⟨rfl, hb6⟩
  have HB6 := Lib.hid (HB5.out.trans (hb6.mono HB5.out.size))
  have HG6 := Lib.hid (HG5.out.later hb6)
  cases a6 with
  | false =>
    clear hb6 d0 d1 d2 d3
    go_wp2
    go_ret
    exact ⟨by rw [HCK.out]; rfl, HB6.out⟩
  | true =>
  clear d0 d1 d2 d3
  obtain ⟨d0, d1, d2, d3⟩ := HG6.out.four
  clear hb6
  go_wp2_with fail
  refine (K7.out _ HB6.out).mono ?_
  rintro e w7 ⟨rfl, hb7⟩
  have HB7 := Lib.hid (HB6.out.trans (hb7.mono HB6.out.size))
  have HG7 := Lib.hid (HG6.out.later hb7)
  cases a7 with
  | false =>
    clear hb7 d0 d1 d2 d3
    go_wp2
    go_ret
    exact ⟨by rw [HCK.out]; rfl, HB7.out⟩
  | true =>
  clear d0 d1 d2 d3
  obtain ⟨d0, d1, d2, d3⟩ := HG7.out.four
  clear hb7
  go_wp2
  go_loopw [4] (fun i wr => ∃ k : Nat, k ≤ nN ∧ i = .int .i64 ((nT : Int) + 1 + k) ∧ Hid (g.EachTo k) ∧ Hid (Below w.heap.size w wr) ∧ Hid (GBox wr w.heap.size (.agg #[.slice AT nT cT, .slice AN nN cN, .slice AR nR cR, .int .i64 gs]))) (fun i _ => nN + nT + 2 - (intOf i).toNat)
  case atStart => exact ⟨0, Nat.zero_le _, by go_num, Lib.hid (fun j hj => absurd hj (Nat.not_lt_zero _)), HB7, HG7⟩
  case round =>
    clear d0 d1 d2 d3
    obtain ⟨k, hk, rfl, HE, HBR, HGR⟩ := hrel
    obtain ⟨d0, d1, d2, d3⟩ := HGR.out.four
    by_cases hlt : k < nN
    · have HO := Lib.hid (HOF.out k)
      have HX := Lib.hid (HE1.out k HE.out)
      have HY := Lib.hid (HE3.out k hlt)
      go_wp2_with fail
      refine (K8.out _ HBR.out).mono ?_
      rintro e w8 ⟨rfl, hb8⟩
      have HB8 := Lib.hid (HBR.out.trans (hb8.mono HBR.out.size))
      have HG8 := Lib.hid (HGR.out.later hb8)
      clear d0 d1 d2 d3 hb8
      obtain ⟨d0, d1, d2, d3⟩ := HG8.out.four
      go_wp2_with fail
      refine (HO.out _ HB8.out).mono ?_
      rintro e w9 ⟨A, n, c, rfl, hn1, hn2, hb9⟩
      have HB9 := Lib.hid (HB8.out.trans (hb9.mono HB8.out.size))
      have HG9 := Lib.hid (HG8.out.later hb9)
      clear d0 d1 d2 d3 hb9
      cases hq : g.R.any (Gm.left ((nT : Int) + 1 + k)) with
      | true =>
        have hn := hn1 hq
        have HN := Lib.hid (HX.out hq)
        clear hn1 hn2 hq
        go_wp2
        go_roundw
        case rel => exact ⟨k + 1, by omega, by go_num, HN, HB9, HG9⟩
        case measure => simp [intOf]; omega
      | false =>
        have hn := hn2 hq
        have HN := Lib.hid (HY.out hq)
        subst hn
        clear hn1 hn2 hq
        go_wp2
        go_ret
        exact ⟨by rw [HCK.out, HN.out]; rfl, HB9.out⟩
    · obtain rfl : k = nN := by omega
      have HN := Lib.hid (HE2.out HE.out)
      go_wp2_with fail
      refine (K8.out _ HBR.out).mono ?_
      rintro e w8 ⟨rfl, hb8⟩
      have HB8 := Lib.hid (HBR.out.trans (hb8.mono HBR.out.size))
      clear d0 d1 d2 d3 hb8
      go_wp2
      go_ret
      exact ⟨by rw [HCK.out, HN.out]; rfl, HB8.out⟩
end
end Go.Proofs.YtdbmeocpjopdhaaGreatDoor
