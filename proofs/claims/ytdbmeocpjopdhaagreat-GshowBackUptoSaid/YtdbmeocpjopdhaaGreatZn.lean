/- Check: the program's. strings.Builder: what writes into it (the shelf lays String alone here). A symbol's name: the program's. A right side as text: the program's. Rules and declarations as text: the program's. A grammar as text: the program's. -/
import Derived.Test.YtdbmeocpjopdhaaGreatZm
import Derived.Test.YtdbmeocpjopdhaaGreatShB
import Derived.Lib.Builder
import Derived.Lib.AppendStr
import Derived.Laws.Externs
import Derived.Deep.RegionHeld3
namespace Go.Proofs.YtdbmeocpjopdhaaGreat
open Go.RowKit Go.Maps
set_option linter.unusedVariables false
theorem of_none {l : List Ru} {s : Int} (h : l.any (Gm.left s) = false) (k : Nat) : ofTo l s k = [] := by
  unfold ofTo
  rw [List.map_eq_nil_iff, List.filter_eq_nil_iff]
  intro i _
  cases hx : l[i]? with
  | none => simp
  | some r =>
    simp only [Option.map_some, Option.getD_some]
    intro hq
    have : l.any (Gm.left s) = true := List.any_eq_true.2 ⟨r, List.mem_of_getElem? hx, hq⟩
    rw [h] at this
    cases this
theorem of_upto {l : List Ru} {s : Int} (k : Nat) (hk : k ≤ l.length) : (k ≤ l.findIdx (Gm.left s) → ofTo l s k = []) ∧ (l.findIdx (Gm.left s) < k → ∃ r, ofTo l s k = ((l.findIdx (Gm.left s) : Nat) : Int) :: r) := by
  induction k with
  | zero => exact ⟨fun _ => rfl, fun h => absurd h (Nat.not_lt_zero _)⟩
  | succ k ih =>
    obtain ⟨h1, h2⟩ := ih (by omega)
    have hr := List.getElem?_eq_getElem (show k < l.length by omega)
    constructor
    · intro hf
      have hno : Gm.left s (l[k]'(by omega)) = false := List.not_of_lt_findIdx (p := Gm.left s) (xs := l) (i := k) (by omega)
      unfold Gm.left at hno
      rw [ofTo_no hr (by simpa using hno)]
      exact h1 (by omega)
    · intro hf
      by_cases e : l.findIdx (Gm.left s) = k
      · have hyes : Gm.left s (l[k]'(by omega)) = true := by
          have := List.findIdx_getElem (p := Gm.left s) (xs := l) (w := by omega)
          simpa only [e] using this
        unfold Gm.left at hyes
        rw [ofTo_yes hr (by simpa using hyes), h1 (by omega)]
        exact ⟨[], by rw [List.nil_append, e]⟩
      · obtain ⟨r, hr2⟩ := h2 (by omega)
        rw [ofTo_next hr, hr2]
        exact ⟨_, List.cons_append⟩
theorem of_some {l : List Ru} {s : Int} (h : l.any (Gm.left s) = true) : ∃ r, ofTo l s l.length = ((l.findIdx (Gm.left s) : Nat) : Int) :: r := by
  refine (of_upto l.length (Nat.le_refl _)).2 (List.findIdx_lt_length_of_exists ?_)
  obtain ⟨x, hx, hp⟩ := List.any_eq_true.1 h
  exact ⟨x, hx, hp⟩
/-- A call of a function of one text, or of a rule. -/
theorem call_one {F : Nat} {a : Value} {y : World} {P : Ending → World → Prop} (h : Calls Tryz.prog F #[a] y P) : Calls Tryz.prog F (#[a] ++ #[]) y P := h
/-- Each of the first k nonterminals has a rule. -/
def Gm.EachTo (g : Gm) (k : Nat) : Prop := ∀ j, j < k → g.R.any (Gm.left ((g.T.length : Int) + 1 + j)) = true
theorem Gm.EachTo.next {g : Gm} {k : Nat} (h : g.EachTo k) (hk : g.R.any (Gm.left ((g.T.length : Int) + 1 + k)) = true) : g.EachTo (k + 1) := by
  intro j hj
  by_cases e : j = k
  · subst e; exact hk
  · exact h j (by omega)
theorem Gm.EachTo.all {g : Gm} (h : g.EachTo g.N.length) : g.each = true := by
  unfold Gm.each
  rw [List.all_eq_true]
  exact fun j hj => h j (List.mem_range.1 hj)
theorem each_not {g : Gm} {k : Nat} (hk : k < g.N.length) (h : g.R.any (Gm.left ((g.T.length : Int) + 1 + k)) = false) : g.each = false := by
  cases he : g.each with
  | false => rfl
  | true =>
    unfold Gm.each at he
    rw [List.all_eq_true] at he
    have := he k (List.mem_range.2 hk)
    rw [h] at this
    cases this
def Ends (w : World) (n : Int) (e : Ending) (w' : World) : Prop := e = .returned (.int .i64 n) ∧ Below w.heap.size w w'
section
variable {w : World} {v : Value} {g : Gm}
/-- What Check asks, in whatever world that comes. -/
structure Asks (w : World) (AT AN AR : Option Addr) (cT cN cR : Nat) (v : Value) (g : Gm) : Prop where
  short : ∀ y, Below w.heap.size w y → Calls Tryz.prog 40 #[.slice AR g.R.length cR, .func (.func 39) #[] #[]] y (Says y (g.R.all shortR))
  terms : ∀ y, Below w.heap.size w y → Calls Tryz.prog 41 #[.slice AT g.T.length cT, .func (.func 42) #[] #[]] y (Says y (g.T.all okT))
  nons : ∀ y, Below w.heap.size w y → Calls Tryz.prog 41 #[.slice AN g.N.length cN, .func (.func 43) #[] #[]] y (Says y (g.N.all okN))
  once : ∀ y, Below w.heap.size w y → Calls Tryz.prog 45 #[v] y (Says y g.once)
  non : ∀ y, Below w.heap.size w y → Calls Tryz.prog 46 #[v, .int .i64 g.s] y (Says y (g.non g.s))
  known : ∀ y B, Below w.heap.size w y → GBox y B v → Calls Tryz.prog 40 #[.slice AR g.R.length cR, .func (.func 47) #[] #[.pointer (some ⟨B, 0, none⟩)]] y (Says y (g.R.all g.knownR))
  unlike : ∀ y, Below w.heap.size w y → Calls Tryz.prog 49 #[.slice AR g.R.length cR, .func (.func 50) #[] #[]] y (Says y g.unlike)
  top : ∀ y, Below w.heap.size w y → Calls Tryz.prog 51 #[v] y (Ends y ((g.T.length : Int) + (g.N.length : Int)))
  of : ∀ y s, Below w.heap.size w y → Calls Tryz.prog 52 #[v, .int .i64 s] y (fun e w' => ∃ A c, e = .returned (.slice A (ofTo g.R s g.R.length).length c) ∧ Below y.heap.size y w')
theorem asks_any {AT AN AR : Option Addr} {cT cN cR : Nat} (h : GrR w v g) (hT : Arr StrV w (.slice AT g.T.length cT) g.T) (hN : Arr StrV w (.slice AN g.N.length cN) g.N) (hR : Rul w (.slice AR g.R.length cR) g.R) : Asks w AT AN AR cT cN cR v g where
  short := fun y hy => allR_any (hR.later hy) shortR 39 #[] (fun _ _ => by kernel_rfl) (fun x hx z hz => call_one (short_any x z ((hR.mem hx).later (hy.trans (hz.mono hy.size)))))
  terms := fun y hy => allS_any (hT.later hy) okT 42 #[] (fun _ _ => by kernel_rfl) (fun x hx z hz => call_one (form2_any x (by have := h.small.1 x hx; omega) z))
  nons := fun y hy => allS_any (hN.later hy) okN 43 #[] (fun _ _ => by kernel_rfl) (fun x hx z hz => call_one (plain_any x (by have := h.small.2.1 x hx; omega) z))
  once := fun y hy => once_any (h.later hy)
  non := fun y hy => non_any (h.later hy) g.s
  known := fun y B hy hB => allR_any (hR.later hy) g.knownR 47 #[.pointer (some ⟨B, 0, none⟩)] (fun _ _ => by kernel_rfl) (fun x hx z hz => know3_any h (hR.mem hx) (hy.trans (hz.mono hy.size)) (hB.later hz))
  unlike := fun y hy => unlike_any (hR.later hy)
  top := fun y hy => top_any (h.later hy)
  of := fun y s hy => (of_any (h.later hy) s).mono fun e w' ⟨o, he, A, c, ho, _, hb⟩ => ⟨A, c, by rw [he, ho, List.length_map], below_alloc_trans hb⟩
theorem Asks.of2 {AT AN AR : Option Addr} {cT cN cR : Nat} (h : Asks w AT AN AR cT cN cR v g) (k : Nat) (y : World) (hy : Below w.heap.size w y) : Calls Tryz.prog 52 #[v, .int .i64 ((g.T.length : Int) + 1 + k)] y (fun e w' => ∃ A n c, e = .returned (.slice A n c) ∧ (g.R.any (Gm.left ((g.T.length : Int) + 1 + k)) = true → ((n : Int) == 0) = false) ∧ (g.R.any (Gm.left ((g.T.length : Int) + 1 + k)) = false → n = 0) ∧ Below y.heap.size y w') :=
  (h.of y _ hy).mono fun e w' ⟨A, c, he, hb⟩ => ⟨A, _, c, he, fun hq => by
    obtain ⟨r, hr⟩ := of_some hq
    rw [hr, beq_eq_false_iff_ne, List.length_cons]
    omega, fun hq => by rw [of_none hq]; rfl, hb⟩
set_option maxRecDepth 100000 in
set_option maxHeartbeats 6400000 in
theorem check_any (h : GrR w v g) : Calls Tryz.prog 20 #[v] w (Ends w g.check) := by
  have hsm := h.small
  have hT20 := hsm.2.2.1
  have hN20 := hsm.2.2.2.1
  have HG := Lib.hid (GBox.new w 25 v)
  obtain ⟨AT, cT, AN, cN, AR, cR, rfl, hT, hN, hR⟩ := h.open_
  have HK := Lib.hid (asks_any h hT hN hR)
  have HOF := Lib.hid (fun k => (asks_any h hT hN hR).of2 k)
  have HE1 := Lib.hid (fun k => @Gm.EachTo.next g k)
  have HE2 := Lib.hid (@Gm.EachTo.all g)
  have HE3 := Lib.hid (fun k => @each_not g k)
  have HCK : Hid (g.check = if ((decide (g.T.length ≤ 120) && decide (g.N.length ≤ 120)) && (decide (g.R.length ≤ 300) && g.R.all shortR)) then (if (g.T.all okT && g.N.all okN) then (if g.once then (if (g.non g.s && g.R.all g.knownR) then (if g.unlike then (if g.each then 0 else 9) else 8) else 1) else 8) else 10) else 7) := Lib.hid rfl
  clear h hT hN hR hsm
  by_cases q1 : g.T.length ≤ 120
  case neg =>
    rw [decide_eq_false q1] at HCK
    have HC7 : Hid (g.check = 7) := Lib.hid (by rw [HCK.out]; simp)
    clear HCK HK HOF HE1 HE2 HE3
    generalize g.T.length = nT at *
    generalize g.N.length = nN at *
    generalize g.R.length = nR at *
    go_enter Tryz.func20, Tryz.ntmps20
    go_wp2
    go_ret
    exact ⟨by rw [HC7.out]; rfl, below_alloc _ _⟩
  rw [decide_eq_true q1] at HCK
  by_cases q2 : g.N.length ≤ 120
  case neg =>
    rw [decide_eq_false q2] at HCK
    have HC7 : Hid (g.check = 7) := Lib.hid (by rw [HCK.out]; simp)
    clear HCK HK HOF HE1 HE2 HE3
    generalize g.T.length = nT at *
    generalize g.N.length = nN at *
    generalize g.R.length = nR at *
    go_enter Tryz.func20, Tryz.ntmps20
    go_wp2
    go_ret
    exact ⟨by rw [HC7.out]; rfl, below_alloc _ _⟩
  rw [decide_eq_true q2] at HCK
  by_cases q3 : g.R.length ≤ 300
  case neg =>
    rw [decide_eq_false q3] at HCK
    have HC7 : Hid (g.check = 7) := Lib.hid (by rw [HCK.out]; simp)
    clear HCK HK HOF HE1 HE2 HE3
    generalize g.T.length = nT at *
    generalize g.N.length = nN at *
    generalize g.R.length = nR at *
    go_enter Tryz.func20, Tryz.ntmps20
    go_wp2
    go_ret
    exact ⟨by rw [HC7.out]; rfl, below_alloc _ _⟩
  rw [decide_eq_true q3] at HCK
  have K1 := Lib.hid HK.out.short
  have K2 := Lib.hid HK.out.terms
  have K3 := Lib.hid HK.out.nons
  have K4 := Lib.hid HK.out.once
  have K5 := Lib.hid HK.out.non
  have K6 := Lib.hid HK.out.known
  have K7 := Lib.hid HK.out.unlike
  have K8 := Lib.hid HK.out.top
  clear HK
  generalize g.R.all shortR = a1 at *
  generalize g.T.all okT = a2 at *
  generalize g.N.all okN = a3 at *
  generalize g.once = a4 at *
  generalize g.non g.s = a5 at *
  generalize g.R.all g.knownR = a6 at *
  generalize g.unlike = a7 at *
  generalize g.each = a8 at *
  generalize g.check = res at *
  generalize g.T.length = nT at *
  generalize g.N.length = nN at *
  generalize g.R.length = nR at *
  generalize g.s = gs at *
  go_enter Tryz.func20, Tryz.ntmps20
  go_wp2_with fail
  refine (K1.out _ (below_alloc w _)).mono ?_
  rintro e w1 ⟨rfl, hb1⟩
  have HB1 := Lib.hid (below_alloc_trans hb1)
  have HG1 := Lib.hid (HG.out.later hb1)
  cases a1 with
  | false =>
    clear hb1
    go_wp2
    go_ret
    exact ⟨by rw [HCK.out]; rfl, HB1.out⟩
  | true =>
  obtain ⟨d0, d1, d2, d3⟩ := HG1.out.four
  clear hb1
  go_wp2_with fail
  refine (K2.out _ HB1.out).mono ?_
  rintro e w2 ⟨rfl, hb2⟩
  have HB2 := Lib.hid (HB1.out.trans (hb2.mono HB1.out.size))
  have HG2 := Lib.hid (HG1.out.later hb2)
  cases a2 with
  | false =>
    clear hb2 d0 d1 d2 d3
    go_wp2
    go_ret
    exact ⟨by rw [HCK.out]; rfl, HB2.out⟩
  | true =>
  clear d0 d1 d2 d3
  obtain ⟨d0, d1, d2, d3⟩ := HG2.out.four
  clear hb2
  go_wp2_with fail
  refine (K3.out _ HB2.out).mono ?_
  rintro e w3 ⟨rfl, hb3⟩
  have HB3 := Lib.hid (HB2.out.trans (hb3.mono HB2.out.size))
  have HG3 := Lib.hid (HG2.out.later hb3)
  cases a3 with
  | false =>
    clear hb3 d0 d1 d2 d3
    go_wp2
    go_ret
    exact ⟨by rw [HCK.out]; rfl, HB3.out⟩
  | true =>
  clear d0 d1 d2 d3
  obtain ⟨d0, d1, d2, d3⟩ := HG3.out.four
  clear hb3
  go_wp2_with fail
  refine (K4.out _ HB3.out).mono ?_
  rintro e w4 ⟨rfl, hb4⟩
  have HB4 := Lib.hid (HB3.out.trans (hb4.mono HB3.out.size))
  have HG4 := Lib.hid (HG3.out.later hb4)
  cases a4 with
  | false =>
    clear hb4 d0 d1 d2 d3
    go_wp2
    go_ret
    exact ⟨by rw [HCK.out]; rfl, HB4.out⟩
  | true =>
  clear d0 d1 d2 d3
  obtain ⟨d0, d1, d2, d3⟩ := HG4.out.four
  clear hb4
  go_wp2_with fail
  refine (K5.out _ HB4.out).mono ?_
  rintro e w5 ⟨rfl, hb5⟩
  have HB5 := Lib.hid (HB4.out.trans (hb5.mono HB4.out.size))
  have HG5 := Lib.hid (HG4.out.later hb5)
  cases a5 with
  | false =>
    clear hb5 d0 d1 d2 d3
    go_wp2
    go_ret
    exact ⟨by rw [HCK.out]; rfl, HB5.out⟩
  | true =>
  clear d0 d1 d2 d3
  obtain ⟨d0, d1, d2, d3⟩ := HG5.out.four
  clear hb5
  go_wp2_with fail
  refine (K6.out _ _ HB5.out HG5.out).mono ?_
  rintro e w6 ⟨rfl, hb6⟩
  have HB6 := Lib.hid (HB5.out.trans (hb6.mono HB5.out.size))
  have HG6 := Lib.hid (HG5.out.later hb6)
  cases a6 with
  | false =>
    clear hb6 d0 d1 d2 d3
    go_wp2
    go_ret
    exact ⟨by rw [HCK.out]; rfl, HB6.out⟩
  | true =>
  clear d0 d1 d2 d3
  obtain ⟨d0, d1, d2, d3⟩ := HG6.out.four
  clear hb6
  go_wp2_with fail
  refine (K7.out _ HB6.out).mono ?_
  rintro e w7 ⟨rfl, hb7⟩
  have HB7 := Lib.hid (HB6.out.trans (hb7.mono HB6.out.size))
  have HG7 := Lib.hid (HG6.out.later hb7)
  cases a7 with
  | false =>
    clear hb7 d0 d1 d2 d3
    go_wp2
    go_ret
    exact ⟨by rw [HCK.out]; rfl, HB7.out⟩
  | true =>
  clear d0 d1 d2 d3
  obtain ⟨d0, d1, d2, d3⟩ := HG7.out.four
  clear hb7
  go_wp2
  go_loopw [4] (fun i wr => ∃ k : Nat, k ≤ nN ∧ i = .int .i64 ((nT : Int) + 1 + k) ∧ Hid (g.EachTo k) ∧ Hid (Below w.heap.size w wr) ∧ Hid (GBox wr w.heap.size (.agg #[.slice AT nT cT, .slice AN nN cN, .slice AR nR cR, .int .i64 gs]))) (fun i _ => nN + nT + 2 - (intOf i).toNat)
  case atStart => exact ⟨0, Nat.zero_le _, by go_num, Lib.hid (fun j hj => absurd hj (Nat.not_lt_zero _)), HB7, HG7⟩
  case round =>
    clear d0 d1 d2 d3
    obtain ⟨k, hk, rfl, HE, HBR, HGR⟩ := hrel
    obtain ⟨d0, d1, d2, d3⟩ := HGR.out.four
    by_cases hlt : k < nN
    · have HO := Lib.hid (HOF.out k)
      have HX := Lib.hid (HE1.out k HE.out)
      have HY := Lib.hid (HE3.out k hlt)
      go_wp2_with fail
      refine (K8.out _ HBR.out).mono ?_
      rintro e w8 ⟨rfl, hb8⟩
      have HB8 := Lib.hid (HBR.out.trans (hb8.mono HBR.out.size))
      have HG8 := Lib.hid (HGR.out.later hb8)
      clear d0 d1 d2 d3 hb8
      obtain ⟨d0, d1, d2, d3⟩ := HG8.out.four
      go_wp2_with fail
      refine (HO.out _ HB8.out).mono ?_
      rintro e w9 ⟨A, n, c, rfl, hn1, hn2, hb9⟩
      have HB9 := Lib.hid (HB8.out.trans (hb9.mono HB8.out.size))
      have HG9 := Lib.hid (HG8.out.later hb9)
      clear d0 d1 d2 d3 hb9
      cases hq : g.R.any (Gm.left ((nT : Int) + 1 + k)) with
      | true =>
        have hn := hn1 hq
        have HN := Lib.hid (HX.out hq)
        clear hn1 hn2 hq
        go_wp2
        go_roundw
        case rel => exact ⟨k + 1, by omega, by go_num, HN, HB9, HG9⟩
        case measure => simp [intOf]; omega
      | false =>
        have hn := hn2 hq
        have HN := Lib.hid (HY.out hq)
        subst hn
        clear hn1 hn2 hq
        go_wp2
        go_ret
        exact ⟨by rw [HCK.out, HN.out]; rfl, HB9.out⟩
    · obtain rfl : k = nN := by omega
      have HN := Lib.hid (HE2.out HE.out)
      go_wp2_with fail
      refine (K8.out _ HBR.out).mono ?_
      rintro e w8 ⟨rfl, hb8⟩
      have HB8 := Lib.hid (HBR.out.trans (hb8.mono HBR.out.size))
      clear d0 d1 d2 d3 hb8
      go_wp2
      go_ret
      exact ⟨by rw [HCK.out, HN.out]; rfl, HB8.out⟩
end
end Go.Proofs.YtdbmeocpjopdhaaGreat

namespace Go.Proofs.YtdbmeocpjopdhaaGreat
open Go.RowKit
set_option linter.unusedVariables false
theorem Tryz.sizeBld : (Tryz.prog.info? 48).map (·.size) = some 2 := by kernel_rfl
theorem Tryz.liesBld : liesAt Tryz.prog Tryz.prog.depth 48 (2 / Tryz.prog.cellsOf 48) 0 48 1 = true := by kernel_rfl
theorem Tryz.infoByte : (Tryz.prog.info? 5).map (fun i => (i.zero, i.size, i.bytes)) = some (some (.int .u8 0), 1, 1) := by kernel_rfl
set_option maxHeartbeats 1000000 in
set_option maxRecDepth 100000 in
theorem copyc_used (b : Nat) (w : World) (h0 : w.cell? ⟨b, 0, none⟩ = some (.pointer (some ⟨b, 0, none⟩))) : Calls Tryz.prog 56 #[.pointer (some ⟨b, 0, none⟩)] w fun e w' => e = .returned (.tuple #[]) ∧ w' = w := by
  obtain ⟨j, hj, _⟩ := Option.map_eq_some_iff.1 Tryz.sizeBld
  go_enter Tryz.func56, Tryz.ntmps56
  go_wp2
  rw [Lib.run_neq_ptr_same w _ Tryz.underlying45 hj]
  go_wp2
  go_end0
  exact ⟨rfl, rfl⟩
set_option maxHeartbeats 1000000 in
set_option maxRecDepth 100000 in
theorem copyc_fresh (b : Nat) (w : World) (h0 : w.cell? ⟨b, 0, none⟩ = some (.pointer none)) (hsh : w.shape? b = some (48, 2)) (hfz : w.frozen? ⟨b, 0, none⟩ = false) :
    Calls Tryz.prog 56 #[.pointer (some ⟨b, 0, none⟩)] w fun e w' => e = .returned (.tuple #[]) ∧ w' = w.setCell ⟨b, 0, none⟩ (.pointer (some ⟨b, 0, none⟩)) := by
  obtain ⟨j, hj, hjs⟩ := Option.map_eq_some_iff.1 Tryz.sizeBld
  go_enter Tryz.func56, Tryz.ntmps56
  go_wp2
  rw [Lib.run_to_unsafe w ⟨b, 0, none⟩ Tryz.underlying45 Tryz.underlying108 hj (by rw [hjs]; decide) hsh (Nat.zero_lt_succ 1)]
  simp only [Result.andThen]
  rw [Oper.upon_value]
  go_wp2
  rw [run_callFunc_extern Tryz.func84 (by kernel_rfl) (by kernel_rfl) (by kernel_rfl) (e := Extern.AbiNoEscape.same) (by kernel_rfl)]
  rw [Lib.run_noEscape]
  simp only [Result.andThen]
  rw [Oper.upon_value]
  go_wp2
  rw [Lib.run_from_unsafe w ⟨b, 0, none⟩ Tryz.underlying108 Tryz.underlying45 hj hsh Tryz.liesBld]
  simp only [Result.andThen]
  rw [Oper.upon_value]
  go_wp2
  go_end0
  exact ⟨rfl, rfl⟩
theorem copyc_full (B b : Nat) (bs : List Value) (w : World) (h : Lib.IsBuilder 48 5 B b bs w) : Calls Tryz.prog 56 #[.pointer (some ⟨b, 0, none⟩)] w fun e w' => e = .returned (.tuple #[]) ∧ (Lib.BuilderAt 48 5 B b (.pointer (some ⟨b, 0, none⟩)) bs w' ∧ Below B w w') ∧ Keeps B [48, 5] w w' := by
  rcases h with h | h
  · refine (copyc_fresh b w h.cell0 h.shape h.frozen0).mono ?_
    rintro e w' ⟨rfl, rfl⟩
    refine ⟨rfl, ⟨h.used _, (Below.refl B w).setCell (p := ⟨b, 0, none⟩) h.1 _⟩, ?_⟩
    obtain ⟨hB, v, hb, _⟩ := h
    exact (Keeps.refl B _ w).setCell (p := ⟨b, 0, none⟩) hb hB (by simp) _
  · refine (copyc_used b w h.cell0).mono ?_
    rintro e w' ⟨rfl, rfl⟩
    exact ⟨rfl, ⟨h, Below.refl B _⟩, Keeps.refl _ _ _⟩
theorem copyc_any (B b : Nat) (bs : List Value) (w : World) (h : Lib.IsBuilder 48 5 B b bs w) : Calls Tryz.prog 56 #[.pointer (some ⟨b, 0, none⟩)] w fun e w' => e = .returned (.tuple #[]) ∧ (Lib.BuilderAt 48 5 B b (.pointer (some ⟨b, 0, none⟩)) bs w' ∧ Below B w w') :=
  (copyc_full B b bs w h).mono fun e w' hh => ⟨hh.1, hh.2.1⟩
set_option maxHeartbeats 2000000 in
set_option maxRecDepth 100000 in
theorem wbyte_any (B b : Nat) (bs : List Value) (c : Int) (w : World) (h : Lib.IsBuilder 48 5 B b bs w) (hlen : bs.length + 1 ≤ 140737488355328) (hBw : B ≤ w.heap.size) :
    Calls Tryz.prog 85 #[.pointer (some ⟨b, 0, none⟩), .int .u8 c] w fun e w' => e = .returned .nilIface ∧ (Lib.BuilderAt 48 5 B b (.pointer (some ⟨b, 0, none⟩)) (bs ++ [.int .u8 c]) w' ∧ Below B w w') := by
  obtain ⟨i0, hi, hz0, hz1, hz2⟩ := info_parts Tryz.infoByte
  go_enter Tryz.func85, Tryz.ntmps85
  go_wp2_with (go_at_call 56; refine (copyc_any B b bs _ h).mono ?_)
  rintro e w1 ⟨rfl, h1, hb1⟩
  obtain ⟨hB, v, hbk, hown, hne⟩ := h1
  have c0 : w1.cell? ⟨b, 0, none⟩ = some (.pointer (some ⟨b, 0, none⟩)) := by rw [Lib.cell_of_heap hbk]; rfl
  have c1 : w1.cell? ⟨b, 1, none⟩ = some v := by rw [Lib.cell_of_heap hbk]; rfl
  go_wp2_with (at_builtin; refine wpList_append_own _ rfl _ _ 46 rfl B 5 i0 (.int .u8 0) 1 1 Tryz.underlying46 hi hz0 hz1 hz2 rfl (by decide) _ _ _ rfl (hown.alloc _) ⟨w1.heap.size, 0, none⟩ 1 1 [.int .u8 c] rfl rfl ?c1 ?c2 ?c3 ?c4 ?c5 ?_)
  case c1 =>
    intro j u hj
    match j, hj with
    | 0, hj => simp at hj; subst hj; simp [Addr.add]
  case c2 => intro u hu; simp at hu; subst hu; rfl
  case c3 => unfold maxLen; omega
  case c4 => omega
  case c5 => have := hb1.size; simp; omega
  intro v' w2 hown' hgrow _
  have hlt : b < w1.heap.size := by
    rcases Nat.lt_or_ge b w1.heap.size with h' | h'
    · exact h'
    · simp [Array.getElem?_eq_none h'] at hbk
  have hb2 : w2.heap[b]? = some (.cells #[.pointer (some ⟨b, 0, none⟩), v] 48 (0, 0)) := by
    rw [hgrow.block b (by simp; omega) (fun e => hne e.symm), Below.heap_alloc w1 _ b hlt]
    exact hbk
  have d0 : w2.cell? ⟨b, 0, none⟩ = some (.pointer (some ⟨b, 0, none⟩)) := by rw [Lib.cell_of_heap hb2]; rfl
  have d1 : w2.cell? ⟨b, 1, none⟩ = some v := by rw [Lib.cell_of_heap hb2]; rfl
  have f1 : w2.frozen? ⟨b, 1, none⟩ = false := Lib.frozen_of_heap hb2 1
  obtain ⟨g, cap, rfl⟩ : ∃ g cap, v' = .slice (some ⟨g, 0, none⟩) (bs.length + 1) cap := by
    rcases hown'.2 with ⟨_, h0⟩ | ⟨g, cap, cur, hv, _⟩
    · omega
    · exact ⟨g, cap, hv⟩
  go_wp2
  go_ret
  refine ⟨rfl, ?_, ?_⟩
  · exact Lib.BuilderAt.put (T := 48) (e := 5) hB hb2 (bs' := bs ++ [.int .u8 c]) (by simpa using hown') (by decide)
  · exact ((hb1.alloc (by have := hb1.size; omega) _).grown hgrow (by have := hb1.size; simp; omega) (fun k hk => (hown.lt k hk).1)).setCell (p := ⟨b, 1, none⟩) hB _
set_option maxHeartbeats 2000000 in
set_option maxRecDepth 100000 in
theorem wstr_full (B b : Nat) (bs : List Value) (s : ByteArray) (w : World) (h : Lib.IsBuilder 48 5 B b bs w) (hlen : bs.length + s.size ≤ 140737488355328) (hBw : B ≤ w.heap.size) :
    Calls Tryz.prog 22 #[.pointer (some ⟨b, 0, none⟩), .string s] w fun e w' => e = .returned (.tuple #[.int .i64 s.size, .nilIface]) ∧ (Lib.BuilderAt 48 5 B b (.pointer (some ⟨b, 0, none⟩)) (bs ++ Lib.strCells s) w' ∧ Below B w w') ∧ Keeps B [48, 5] w w' := by
  obtain ⟨i0, hi, hz0, hz1, hz2⟩ := info_parts Tryz.infoByte
  go_enter Tryz.func22, Tryz.ntmps22
  go_wp2_with (go_at_call 56; refine (copyc_full B b bs _ h).mono ?_)
  rintro e w1 ⟨rfl, ⟨h1, hb1⟩, hk1⟩
  have HK1 := Lib.hid hk1
  clear hk1
  obtain ⟨hB, v, hbk, hown, hne⟩ := h1
  have c0 : w1.cell? ⟨b, 0, none⟩ = some (.pointer (some ⟨b, 0, none⟩)) := by rw [Lib.cell_of_heap hbk]; rfl
  have c1 : w1.cell? ⟨b, 1, none⟩ = some v := by rw [Lib.cell_of_heap hbk]; rfl
  go_wp2_with (at_builtin; refine Lib.wpList_append_own_string _ rfl _ _ 46 9 rfl B 5 i0 Tryz.underlying46 Tryz.underlying9 hi hz0 hz1 hz2 _ _ _ rfl hown s rfl ?c3 ?c4 ?c5 ?_)
  case c3 => unfold maxLen; omega
  case c4 => omega
  case c5 => have := hb1.size; omega
  intro v' w2 hown' hgrow _
  have hlt : b < w1.heap.size := by
    rcases Nat.lt_or_ge b w1.heap.size with h' | h'
    · exact h'
    · simp [Array.getElem?_eq_none h'] at hbk
  have hb2 : w2.heap[b]? = some (.cells #[.pointer (some ⟨b, 0, none⟩), v] 48 (0, 0)) := by
    rw [hgrow.block b hlt (fun e => hne e.symm)]
    exact hbk
  have d0 : w2.cell? ⟨b, 0, none⟩ = some (.pointer (some ⟨b, 0, none⟩)) := by rw [Lib.cell_of_heap hb2]; rfl
  have d1 : w2.cell? ⟨b, 1, none⟩ = some v := by rw [Lib.cell_of_heap hb2]; rfl
  have f1 : w2.frozen? ⟨b, 1, none⟩ = false := Lib.frozen_of_heap hb2 1
  obtain ⟨ao, n', cap, rfl⟩ : ∃ ao n' cap, v' = .slice ao n' cap := by
    rcases hown'.2 with ⟨hv, _⟩ | ⟨g, cap, cur, hv, _⟩
    · exact ⟨_, _, _, hv⟩
    · exact ⟨_, _, _, hv⟩
  go_wp2
  go_ret2
  refine ⟨rfl, ⟨?_, ?_⟩, ?_⟩
  · exact Lib.BuilderAt.put (T := 48) (e := 5) hB hb2 (bs' := bs ++ Lib.strCells s) (by simpa [Lib.strCells_length] using hown') (by decide)
  · exact (hb1.grown hgrow (by have := hb1.size; omega) (fun k hk => (hown.lt k hk).1)).setCell (p := ⟨b, 1, none⟩) hB _
  · refine ((HK1.out.grown hgrow fun g hg => .inr ?_).setCell (p := ⟨b, 1, none⟩) hb2 hB (by simp) _)
    rcases hown.2 with ⟨hv, _⟩ | ⟨g', cap', cur', hv, hBg, hgg, _⟩
    · rw [hv] at hg; cases hg
    · rw [hv] at hg
      simp only [Value.ownBlock, Option.some.injEq] at hg
      subst hg
      exact ⟨hBg, _, _, _, hgg, by simp⟩
theorem wstr_any (B b : Nat) (bs : List Value) (s : ByteArray) (w : World) (h : Lib.IsBuilder 48 5 B b bs w) (hlen : bs.length + s.size ≤ 140737488355328) (hBw : B ≤ w.heap.size) :
    Calls Tryz.prog 22 #[.pointer (some ⟨b, 0, none⟩), .string s] w fun e w' => e = .returned (.tuple #[.int .i64 s.size, .nilIface]) ∧ (Lib.BuilderAt 48 5 B b (.pointer (some ⟨b, 0, none⟩)) (bs ++ Lib.strCells s) w' ∧ Below B w w') :=
  (wstr_full B b bs s w h hlen hBw).mono fun e w' hh => ⟨hh.1, hh.2.1⟩
end Go.Proofs.YtdbmeocpjopdhaaGreat

namespace Go.Proofs.YtdbmeocpjopdhaaGreat
open Go.RowKit
set_option linter.unusedVariables false
def Text (w : World) (s : ByteArray) (e : Ending) (w' : World) : Prop := e = .returned (.string s) ∧ Below w.heap.size w w'
theorem name_term {g : Gm} {s : Int} (h : g.term s = true) : 1 ≤ s ∧ ∃ k : Nat, s = (k : Int) + 1 ∧ k < g.T.length ∧ ∃ x, g.T[k]? = some x ∧ g.name s = x := by
  unfold Gm.term at h
  rw [Bool.and_eq_true, decide_eq_true_eq, decide_eq_true_eq] at h
  refine ⟨h.1, (s - 1).toNat, by omega, by omega, g.T[(s - 1).toNat]'(by omega), List.getElem?_eq_getElem _, ?_⟩
  unfold Gm.name
  rw [if_neg (by omega), if_neg (by omega), List.getD_eq_getElem?_getD, List.getElem?_append_left (by omega), List.getElem?_eq_getElem (by omega)]
  rfl
theorem name_non {g : Gm} {s : Int} (h : g.non s = true) : ∃ k : Nat, s = (g.T.length : Int) + k + 1 ∧ k < g.N.length ∧ ∃ x, g.N[k]? = some x ∧ g.name s = x := by
  unfold Gm.non at h
  rw [Bool.and_eq_true, decide_eq_true_eq, decide_eq_true_eq] at h
  refine ⟨(s - 1 - g.T.length).toNat, by omega, by omega, g.N[(s - 1 - g.T.length).toNat]'(by omega), List.getElem?_eq_getElem _, ?_⟩
  unfold Gm.name
  have e : (s - 1).toNat = g.T.length + (s - 1 - g.T.length).toNat := by omega
  rw [if_neg (by omega), if_neg (by omega), List.getD_eq_getElem?_getD, List.getElem?_append_right (by omega), e, Nat.add_sub_cancel_left, List.getElem?_eq_getElem (by omega)]
  rfl
theorem name_else {g : Gm} {s : Int} (h0 : s ≠ 0) (h1 : g.term s = false) (h2 : g.non s = false) : g.name s = ⟨#[]⟩ := by
  unfold Gm.term at h1
  unfold Gm.non at h2
  rw [Bool.and_eq_false_iff, decide_eq_false_iff_not, decide_eq_false_iff_not] at h1 h2
  unfold Gm.name
  rw [if_neg h0, if_pos (by omega)]
theorem name_zero (g : Gm) : g.name 0 = ⟨#[36]⟩ := by unfold Gm.name; rw [if_pos rfl]
set_option maxRecDepth 100000 in
set_option maxHeartbeats 1600000 in
theorem gname_any {w : World} {v : Value} {g : Gm} (h : GrR w v g) (s : Int) (hs : -9223372036854775808 ≤ s) : Calls Tryz.prog 38 #[v, .int .i64 s] w (Text w (g.name s)) := by
  have hT20 := h.small.2.2.1
  have hN20 := h.small.2.2.2.1
  have HTM := Lib.hid (fun y (hy : Below w.heap.size w y) => term_any (h.later hy) s)
  have HNM := Lib.hid (fun y (hy : Below w.heap.size w y) => non_any (h.later hy) s)
  have HG := Lib.hid (GBox.new w 25 v)
  obtain ⟨AT, cT, AN, cN, AR, cR, rfl, hT, hN, hR⟩ := h.open_
  obtain ⟨⟨A1, c1, e1, hc1⟩, _⟩ := hT
  cases e1
  obtain ⟨⟨A2, c2, e2, hc2⟩, _⟩ := hN
  cases e2
  have HC1 := Lib.hid hc1
  have HC2 := Lib.hid hc2
  have HN1 := Lib.hid (@name_term g s)
  have HN2 := Lib.hid (@name_non g s)
  have HN3 := Lib.hid (@name_else g s)
  clear h hR hc1 hc2
  by_cases h0 : s = 0
  · subst h0
    rw [name_zero]
    clear HN1 HN2 HN3 HTM HNM
    generalize g.T.length = nT at *
    generalize g.N.length = nN at *
    go_enter Tryz.func38, Tryz.ntmps38
    go_wp2
    go_ret
    exact ⟨rfl, below_alloc _ _⟩
  have hs0 : (s == 0) = false := by simpa using h0
  cases ht : g.term s with
  | true =>
    rw [ht] at HTM
    obtain ⟨hp, k, hk, hlt, x, hx, hnm⟩ := HN1.out ht
    rw [hnm]
    obtain ⟨b, off, hA, hlt0, hcell⟩ := HC1.out k x hx
    subst hA
    simp only [StrV] at hcell
    clear HN1 HN2 HN3 HNM ht hx hnm
    generalize g.T.length = nT at *
    generalize g.N.length = nN at *
    generalize g.R.length = nR at *
    have hsub : s - 1 = (k : Int) := by omega
    clear hk hp
    go_enter Tryz.func38, Tryz.ntmps38
    go_wp2_with fail
    refine (HTM.out _ (below_alloc w _)).mono ?_
    rintro e w1 ⟨rfl, hb1⟩
    have HB1 := Lib.hid (below_alloc_trans hb1)
    obtain ⟨d0, d1, d2, d3⟩ := (HG.out.later hb1).four
    have e1 := (HB1.out.cell (p := ⟨b, off + k, none⟩) hlt0).trans hcell
    clear hb1 hcell
    go_wp2
    go_ret
    exact ⟨rfl, HB1.out⟩
  | false =>
    rw [ht] at HTM
    cases hn : g.non s with
    | true =>
      rw [hn] at HNM
      obtain ⟨k, hk, hlt, x, hx, hnm⟩ := HN2.out hn
      rw [hnm]
      obtain ⟨b, off, hA, hlt0, hcell⟩ := HC2.out k x hx
      subst hA
      simp only [StrV] at hcell
      clear HN1 HN2 HN3 ht hn hx hnm
      generalize g.T.length = nT at *
      generalize g.N.length = nN at *
      generalize g.R.length = nR at *
      have hsub : s - 1 - (nT : Int) = (k : Int) := by omega
      clear hk
      go_enter Tryz.func38, Tryz.ntmps38
      go_wp2_with fail
      refine (HTM.out _ (below_alloc w _)).mono ?_
      rintro e w1 ⟨rfl, hb1⟩
      have HB1 := Lib.hid (below_alloc_trans hb1)
      have HG1 := Lib.hid (HG.out.later hb1)
      obtain ⟨d0, d1, d2, d3⟩ := HG1.out.four
      clear hb1
      go_wp2_with fail
      refine (HNM.out _ HB1.out).mono ?_
      rintro e w2 ⟨rfl, hb2⟩
      have HB2 := Lib.hid (HB1.out.trans (hb2.mono HB1.out.size))
      clear d0 d1 d2 d3
      obtain ⟨d0, d1, d2, d3⟩ := (HG1.out.later hb2).four
      have e1 := (HB2.out.cell (p := ⟨b, off + k, none⟩) hlt0).trans hcell
      clear hb2 hcell
      go_wp2
      go_ret
      exact ⟨rfl, HB2.out⟩
    | false =>
      rw [hn] at HNM
      rw [HN3.out h0 ht hn]
      clear HN1 HN2 HN3 ht hn
      generalize g.T.length = nT at *
      generalize g.N.length = nN at *
      generalize g.R.length = nR at *
      go_enter Tryz.func38, Tryz.ntmps38
      go_wp2_with fail
      refine (HTM.out _ (below_alloc w _)).mono ?_
      rintro e w1 ⟨rfl, hb1⟩
      have HB1 := Lib.hid (below_alloc_trans hb1)
      have HG1 := Lib.hid (HG.out.later hb1)
      obtain ⟨d0, d1, d2, d3⟩ := HG1.out.four
      clear hb1
      go_wp2_with fail
      refine (HNM.out _ HB1.out).mono ?_
      rintro e w2 ⟨rfl, hb2⟩
      have HB2 := Lib.hid (HB1.out.trans (hb2.mono HB1.out.size))
      clear d0 d1 d2 d3 hb2
      go_wp2
      go_ret
      exact ⟨rfl, HB2.out⟩
end Go.Proofs.YtdbmeocpjopdhaaGreat

namespace Go.Proofs.YtdbmeocpjopdhaaGreat
open Go.RowKit
open Gm (blanksL)
set_option linter.unusedVariables false
theorem blanksL_len (l : List ByteArray) (M : Nat) (h : ∀ s ∈ l, s.size ≤ M) : (blanksL l).length ≤ l.length * (M + 1) := by
  induction l with
  | nil => simp [blanksL]
  | cons s r ih =>
    have h1 := h s (by simp)
    have h2 := ih (fun x hx => h x (List.mem_cons_of_mem _ hx))
    unfold blanksL at h2 ⊢
    rw [List.flatMap_cons, List.length_append, List.length_cons, len_size, List.length_cons, Nat.add_mul]
    omega
theorem blanksL_snoc {l : List ByteArray} {k : Nat} {s : ByteArray} (h : l[k]? = some s) : Lib.byteCells (blanksL (l.take (k + 1))) = (Lib.byteCells (blanksL (l.take k)) ++ [.int .u8 32]) ++ Lib.strCells s := by
  obtain ⟨hk, rfl⟩ := List.getElem?_eq_some_iff.1 h
  rw [List.take_succ_eq_append_getElem hk]
  unfold blanksL Lib.byteCells Lib.strCells
  rw [List.flatMap_append, List.map_append]
  simp
theorem cells_len (l : List UInt8) : (Lib.byteCells l).length = l.length := by unfold Lib.byteCells; simp
set_option maxRecDepth 100000 in
set_option maxHeartbeats 3200000 in
theorem blanks_any {w : World} {v : Value} {l : List ByteArray} (h : Arr StrV w v l) (hl : l.length ≤ 1048576) (hs : ∀ s ∈ l, s.size ≤ 1048576) : Calls Tryz.prog 57 #[v] w (Text w (str (blanksL l))) := by
  obtain ⟨⟨A, c, rfl, hc⟩, hsh⟩ := h
  have HC := Lib.hid hc
  have HS := Lib.hid hs
  have HLN : Hid (∀ k, (blanksL (l.take k)).length ≤ 1099512676352) := Lib.hid (fun k => by
    have h1 := blanksL_len (l.take k) 1048576 (fun s hh => hs s (List.mem_of_mem_take hh))
    have h2 : (l.take k).length ≤ 1048576 := by rw [List.length_take]; omega
    exact Nat.le_trans h1 (Nat.le_trans (Nat.mul_le_mul_right _ h2) (by decide)))
  have hB0 : Lib.IsBuilder 48 5 w.heap.size w.heap.size (Lib.byteCells (blanksL (l.take 0))) (w.alloc (.cells #[.pointer none, .slice none 0 0] 48)) := .inl ⟨Nat.le_refl _, _, Blk.new w 48 _, ⟨rfl, .inl ⟨rfl, rfl⟩⟩, by simp [Value.ownBlock]⟩
  have HB0 := Lib.hid hB0
  have HTK : Hid (l.take l.length = l) := Lib.hid (List.take_length)
  clear hc hs hB0
  go_enter Tryz.func57, Tryz.ntmps57
  go_wp2
  go_loopw [8] (fun i wr => ∃ k : Nat, k ≤ l.length ∧ i = .int .i64 k ∧ Hid (Lib.IsBuilder 48 5 w.heap.size w.heap.size (Lib.byteCells (blanksL (l.take k))) wr) ∧ Hid (Below w.heap.size w wr)) (fun i _ => l.length - (intOf i).toNat)
  case atStart => exact ⟨0, Nat.zero_le _, rfl, HB0, Lib.hid (below_alloc _ _)⟩
  case round =>
    obtain ⟨k, hk, rfl, HI, HB⟩ := hrel
    have hws := HB.out.size
    by_cases hlt : k < l.length
    · have hx := List.getElem?_eq_getElem hlt
      generalize l[k] = s at hx
      obtain ⟨b, off, rfl, hlt0, hcell⟩ := HC.out k s hx
      have e1 := (HB.out.cell (p := ⟨b, off + k, none⟩) hlt0).trans hcell
      have hsz := HS.out s (List.mem_of_getElem? hx)
      have HSN := Lib.hid (blanksL_snoc hx)
      have hl1 := HLN.out k
      simp only [StrV] at e1
      clear hx hcell
      go_wp2_with fail
      refine (wbyte_any _ _ _ 32 wr HI.out (by rw [cells_len]; omega) hws).mono ?_
      rintro e w1 ⟨rfl, hb1, hw1⟩
      have HI1 := Lib.hid hb1
      have HB1 := Lib.hid (HB.out.trans hw1)
      have hws1 := HB1.out.size
      clear hb1 hw1
      go_wp2_with fail
      refine (wstr_any _ _ _ s w1 (.inr HI1.out) (by rw [List.length_append, cells_len]; simp; omega) hws1).mono ?_
      rintro e w2 ⟨rfl, hb2, hw2⟩
      have HI2 : Hid (Lib.IsBuilder 48 5 w.heap.size w.heap.size (Lib.byteCells (blanksL (l.take (k + 1)))) w2) := Lib.hid (by rw [HSN.out]; exact .inr hb2)
      have HB2 := Lib.hid (HB1.out.trans hw2)
      clear hb2 hw2
      go_wp2
      go_roundw
      case rel => exact ⟨k + 1, by omega, by go_num, HI2, HB2⟩
      case measure => simp [intOf]; omega
    · obtain rfl : k = l.length := by omega
      have HI2 : Hid (Lib.IsBuilder 48 5 w.heap.size w.heap.size (Lib.byteCells (blanksL l)) wr) := Lib.hid (by have hh := HI.out; rw [HTK.out] at hh; exact hh)
      go_wp2_with fail
      refine (Tryz.Builder_String_any _ _ _ wr HI2.out hws).mono ?_
      rintro e w1 ⟨rfl, hw1⟩
      have HB1 := Lib.hid (HB.out.trans hw1)
      clear hw1
      go_wp2
      go_ret
      exact ⟨rfl, HB1.out⟩
end Go.Proofs.YtdbmeocpjopdhaaGreat

namespace Go.Proofs.YtdbmeocpjopdhaaGreat
open Go.RowKit
open Gm (blanksL)
set_option linter.unusedVariables false
theorem rightL_map (g : Gm) (l : List Int) : g.rightL l = blanksL (l.map g.name) := by
  unfold Gm.rightL blanksL
  rw [List.flatMap_map]
theorem map_snoc {α β : Type} (f : α → β) {l : List α} {k : Nat} {x : α} (h : l[k]? = some x) : (l.take (k + 1)).map f = (l.take k).map f ++ [f x] := by
  obtain ⟨hk, rfl⟩ := List.getElem?_eq_some_iff.1 h
  rw [List.take_succ_eq_append_getElem hk, List.map_append]
  rfl
set_option maxRecDepth 100000 in
set_option maxHeartbeats 3200000 in
theorem right_any {w : World} {v u : Value} {g : Gm} {r : Ru} (h : GrR w v g) (hr : RuR w u r) (hl : r.right.length ≤ 1048576) (hi : ∀ s ∈ r.right, -9223372036854775808 ≤ s) : Calls Tryz.prog 24 #[v, u] w (Text w (str (g.rightL r.right))) := by
  have HNM := Lib.hid (fun s (hs : -9223372036854775808 ≤ s) y (hy : Below w.heap.size w y) => gname_any (h.later hy) s hs)
  have HG := Lib.hid (GBox.new w 25 v)
  have hsm := h.small
  have HBL : Hid (∀ y o, Below w.heap.size w y → Arr StrV y o (r.right.map g.name) → Calls Tryz.prog 57 #[o] y (Text y (str (g.rightL r.right)))) := Lib.hid (fun y o hy ho => by
    rw [rightL_map]
    exact blanks_any ho (by rw [List.length_map]; exact hl) (fun s hs => by
      obtain ⟨x, _, rfl⟩ := List.mem_map.1 hs
      exact Gm.name_size hsm x))
  obtain ⟨AT, cT, AN, cN, AR, cR, rfl, hT, hN, hR⟩ := h.open_
  obtain ⟨rfl, ⟨A, c, hv, hc⟩, hsr, _⟩ := hr
  unfold RuV
  rw [hv]
  have HC := Lib.hid hc
  have HI := Lib.hid hi
  have hEl := ElStr
  have HTK : Hid (r.right.take r.right.length = r.right) := Lib.hid List.take_length
  have HSN := Lib.hid (fun (k : Nat) (s : Int) (hh : r.right[k]? = some s) => map_snoc (fun x => StrV (g.name x)) hh)
  clear h hT hN hR hsm hv hc hi
  generalize r.left = rl at *
  generalize g.T.length = nT at *
  generalize g.N.length = nN at *
  generalize g.R.length = nR at *
  generalize g.s = gs at *
  generalize str (g.rightL r.right) = res at *
  generalize r.right = l at *
  go_enter Tryz.func24, Tryz.ntmps24
  go_wp2
  go_loopw [5, 11] (fun o i wr => ∃ k : Nat, k ≤ l.length ∧ i = .int .i64 k ∧ OutAt 9 ((w.alloc (.cells #[.slice AT nT cT, .slice AN nN cN, .slice AR nR cR, .int .i64 gs] 25)).alloc (.cells #[.int .i64 rl, .slice A l.length c] 40)) ((l.take k).map fun x => StrV (g.name x)) o wr) (fun _ i _ => l.length - (intOf i).toNat)
  case atStart => exact ⟨0, Nat.zero_le _, rfl, OutAt.nil _ _⟩
  case round =>
    obtain ⟨k, hk, rfl, A', oc, rfl, ho, hbw⟩ := hrel
    have HO := Lib.hid ho
    have HB := Lib.hid hbw
    have hwb := hbw.size
    have HW := Lib.hid ((below_more (below_alloc w _) _).trans (hbw.mono (below_more (below_alloc w _) _).size))
    have hxl : ((l.take k).map fun x => StrV (g.name x)).length = k := by rw [List.length_map, List.length_take]; omega
    by_cases hlt : k < l.length
    · have hs := List.getElem?_eq_getElem hlt
      generalize l[k] = s at hs
      obtain ⟨b, off, hA, hlt0, hcell⟩ := HC.out k s hs
      subst hA
      have e1 := (HW.out.cell (p := ⟨b, off + k, none⟩) hlt0).trans hcell
      simp only [IntV] at e1
      obtain ⟨d0, d1, d2, d3⟩ := ((HG.out.later (below_alloc _ _)).later hbw).four
      have HCALL := Lib.hid (HNM.out s (HI.out s (List.mem_of_getElem? hs)) wr HW.out)
      have HN := Lib.hid (HSN.out k s hs)
      generalize hxs : ((l.take k).map fun x => StrV (g.name x)) = xs at *
      have HXS := Lib.hid hxs
      generalize g.name s = nm at *
      clear hs hcell ho hbw hxs
      rw [hxl] at HO ⊢
      go_wp2_with fail
      refine HCALL.out.mono ?_
      rintro e w1 ⟨rfl, hb1⟩
      have HB1 := Lib.hid (HB.out.trans (hb1.mono HB.out.size))
      have HO1 := Lib.hid (own_below HO.out hb1)
      have HS1 := Lib.hid (one_src 9 (.string nm) rfl)
      have hws := HB1.out.size
      clear hb1 d0 d1 d2 d3
      go_wp2_with (at_builtin; refine wpList_app ElStr (.tmp 15) (.tmp 19) rfl rfl (base := ((w.alloc (.cells #[.slice AT nT cT, .slice AN nN cN, .slice AR nR cR, .int .i64 gs] 25)).alloc (.cells #[.int .i64 rl, .slice (some ⟨b, off, none⟩) l.length c] 40)).heap.size) (n := k) (m := 1) (N := k + 1) (xs := xs) (news := [.string nm]) rfl rfl (HO1.out.alloc _) (HS1.out _) rfl (by unfold maxLen; omega) (by omega) (by simp at hws ⊢; omega) ?_; intro A2 c2 w2 r1 r2 r3; have HF := Lib.hid (out_app (HB1.out.trans ((below_alloc _ _).mono HB1.out.size)) (by simp [hxl]) r1 r2); clear r1 r2 r3)
      go_roundw
      case rel => exact ⟨k + 1, by omega, by go_num, by rw [HN.out]; exact HF.out⟩
      case measure => simp [intOf]; omega
    · obtain rfl : k = l.length := by omega
      have hfin : OutAt 9 ((w.alloc (.cells #[.slice AT nT cT, .slice AN nN cN, .slice AR nR cR, .int .i64 gs] 25)).alloc (.cells #[.int .i64 rl, .slice A l.length c] 40)) ((l.map g.name).map StrV) (.slice A' l.length oc) wr := by
        have h1 : OutAt 9 ((w.alloc (.cells #[.slice AT nT cT, .slice AN nN cN, .slice AR nR cR, .int .i64 gs] 25)).alloc (.cells #[.int .i64 rl, .slice A l.length c] 40)) ((l.take l.length).map fun x => StrV (g.name x)) (.slice A' ((l.take l.length).map fun x => StrV (g.name x)).length oc) wr := ⟨A', oc, rfl, ho, hbw⟩
        rw [hxl, HTK.out] at h1
        rw [List.map_map]
        exact h1
      have HSS := Lib.hid (HBL.out wr _ HW.out (hfin.arr (by rw [List.length_map]; omega)))
      rw [hxl]
      clear ho hbw HO HB hfin hxl
      go_wp2_with fail
      refine HSS.out.mono ?_
      rintro e w1 ⟨rfl, hb1⟩
      have HB1 := Lib.hid (HW.out.trans (hb1.mono HW.out.size))
      clear hb1
      go_wp2
      go_ret
      exact ⟨rfl, HB1.out⟩
theorem str_three (a : ByteArray) (l m : List UInt8) : a ++ str l ++ str m = str (a.data.toList ++ (l ++ m)) := by
  rw [← str_append, ← str_append, str_data]
  apply ByteArray.ext
  simp [Array.append_assoc]
theorem str_lit (l : List UInt8) : (⟨l.toArray⟩ : ByteArray) = str l := rfl
theorem rightL_len (g : Gm) (h : g.small) (l : List Int) (hl : l.length ≤ 1048576) : (g.rightL l).length ≤ 1099512676352 := by
  rw [rightL_map]
  have h1 := blanksL_len (l.map g.name) 1048576 (fun s hs => by
    obtain ⟨x, _, rfl⟩ := List.mem_map.1 hs
    exact Gm.name_size h x)
  rw [List.length_map] at h1
  exact Nat.le_trans h1 (Nat.le_trans (Nat.mul_le_mul_right _ hl) (by decide))
set_option maxRecDepth 100000 in
set_option maxHeartbeats 3200000 in
theorem rule_any {w : World} {v u : Value} {g : Gm} {r : Ru} (h : GrR w v g) (hr : RuR w u r) (hl : r.right.length ≤ 1048576) (hi : ∀ s ∈ r.right, -9223372036854775808 ≤ s) (hi0 : -9223372036854775808 ≤ r.left) : Calls Tryz.prog 19 #[v, u] w (Text w (str (g.ruleL r.left r.right))) := by
  have HNM := Lib.hid (fun y (hy : Below w.heap.size w y) => gname_any (h.later hy) r.left hi0)
  have HRT := Lib.hid (fun y (hy : Below w.heap.size w y) => right_any (h.later hy) (hr.later hy) hl hi)
  have hs1 := Gm.name_size h.small r.left
  have hs2 := rightL_len g h.small r.right hl
  have HRES : Hid (str (g.ruleL r.left r.right) = g.name r.left ++ str [32, 58] ++ str (g.rightL r.right)) := Lib.hid (by rw [str_three]; rfl)
  obtain ⟨AT, cT, AN, cN, AR, cR, rfl, hT, hN, hR⟩ := h.open_
  obtain ⟨rfl, ⟨A, c, hv, hc⟩, hsr, _⟩ := hr
  unfold RuV at *
  rw [hv] at HRT ⊢
  have hs3 : (str (g.rightL r.right)).size ≤ 1099512676352 := by rw [str_size]; exact hs2
  clear h hT hN hR hv hc hs2
  generalize str (g.ruleL r.left r.right) = res at *
  generalize r.left = rl at *
  generalize g.T.length = nT at *
  generalize g.N.length = nN at *
  generalize g.R.length = nR at *
  generalize g.s = gs at *
  generalize g.name rl = nm at *
  generalize str (g.rightL r.right) = rt at *
  generalize r.right.length = rn at *
  have HK : Hid (∀ w', Below ((w.alloc (.cells #[.slice AT nT cT, .slice AN nN cN, .slice AR nR cR, .int .i64 gs] 25)).alloc (.cells #[.int .i64 rl, .slice A rn c] 40)).heap.size ((w.alloc (.cells #[.slice AT nT cT, .slice AN nN cN, .slice AR nR cR, .int .i64 gs] 25)).alloc (.cells #[.int .i64 rl, .slice A rn c] 40)) w' →
      w'.cell? ⟨w.heap.size, 0, none⟩ = some (.slice AT nT cT) ∧ w'.cell? ⟨w.heap.size, 1, none⟩ = some (.slice AN nN cN) ∧ w'.cell? ⟨w.heap.size, 2, none⟩ = some (.slice AR nR cR) ∧ w'.cell? ⟨w.heap.size, 3, none⟩ = some (.int .i64 gs) ∧ w'.cell? ⟨w.heap.size + 1, 0, none⟩ = some (.int .i64 rl) ∧ w'.cell? ⟨w.heap.size + 1, 1, none⟩ = some (.slice A rn c)) := Lib.hid (fun w' hb => by
    obtain ⟨d0, d1, d2, d3⟩ := (((GBox.new w 25 (.agg #[.slice AT nT cT, .slice AN nN cN, .slice AR nR cR, .int .i64 gs])).later (below_alloc _ (.cells #[.int .i64 rl, .slice A rn c] 40))).later hb).four
    refine ⟨d0, d1, d2, d3, (hb.cell (p := ⟨w.heap.size + 1, 0, none⟩) (by simp)).trans ?_, (hb.cell (p := ⟨w.heap.size + 1, 1, none⟩) (by simp)).trans ?_⟩
    · exact (World.cell?_alloc_at _ _ _ _ (by simp)).trans rfl
    · exact (World.cell?_alloc_at _ _ _ _ (by simp)).trans rfl)
  have hq1 : ¬ (9223372036854775807 < nm.size + 2) := by omega
  have hq2 : ¬ (9223372036854775807 < nm.size + 2 + rt.size) := by omega
  have hq3 : nm.size + 2 ≤ 9223372036854775807 := by omega
  have hq4 : nm.size + 2 + rt.size ≤ 9223372036854775807 := by omega
  go_enter Tryz.func19, Tryz.ntmps19
  go_wp2_with fail
  go_region_held3 (fun w' => w'.cell? ⟨w.heap.size, 0, none⟩ = some (.slice AT nT cT) ∧ w'.cell? ⟨w.heap.size, 1, none⟩ = some (.slice AN nN cN) ∧ w'.cell? ⟨w.heap.size, 2, none⟩ = some (.slice AR nR cR) ∧ w'.cell? ⟨w.heap.size, 3, none⟩ = some (.int .i64 gs) ∧ w'.cell? ⟨w.heap.size + 1, 0, none⟩ = some (.int .i64 rl) ∧ w'.cell? ⟨w.heap.size + 1, 1, none⟩ = some (.slice A rn c))
    (first | exact HK.out _ HZ2.out | exact HK.out _ HZ1.out | exact HK.out _ ⟨rfl, rfl, rfl, Nat.le_refl _, fun _ _ => rfl⟩)
    (first
      | (go_at_call 38; refine (HNM.out _ (below_drew (below_more (below_alloc w _) _))).mono ?_; rintro e w1 ⟨rfl, hb1⟩; have HB1 := Lib.hid ((below_drew (below_more (below_alloc w _) _)).trans (hb1.mono (below_drew (below_more (below_alloc w _) _)).size)); have HZ1 := Lib.hid ((below_drew (Below.refl _ _)).trans (hb1.mono (Nat.le_refl _))); clear hb1)
      | (go_at_call 24; refine (HRT.out _ HB1.out).mono ?_; rintro e w2 ⟨rfl, hb2⟩; have HB2 := Lib.hid (HB1.out.trans (hb2.mono HB1.out.size)); have HZ2 := Lib.hid (HZ1.out.trans (hb2.mono HZ1.out.size)); clear hb2))
  all_goals go_wp2
  all_goals go_ret
  all_goals exact ⟨by rw [HRES.out]; rfl, HB2.out⟩
set_option maxRecDepth 100000 in
set_option maxHeartbeats 3200000 in
theorem heads_any {w : World} {v : Value} {g : Gm} (h : GrR w v g) (hi : -9223372036854775808 ≤ g.s) : Calls Tryz.prog 23 #[v] w (Text w (str g.headsL)) := by
  have HNM := Lib.hid (fun y (hy : Below w.heap.size w y) => gname_any (h.later hy) g.s hi)
  have hsm := h.small
  have hs1 := Gm.name_size hsm g.s
  have HG := Lib.hid (GBox.new w 25 v)
  have HST : Hid (str g.startL = str [37, 115, 116, 97, 114, 116, 32] ++ g.name g.s ++ str [10, 37, 37, 10]) := Lib.hid (by unfold Gm.startL; rw [← str_append, ← str_append, str_data]; apply ByteArray.ext; simp [Array.append_assoc])
  have HHD : Hid (g.T ≠ [] → str g.headsL = str [37, 116, 111, 107, 101, 110] ++ str (blanksL g.T) ++ str [10] ++ str g.startL) := Lib.hid (fun hn => by unfold Gm.headsL; rw [if_neg hn, ← str_append, ← str_append, ← str_append]; apply ByteArray.ext; simp [Array.append_assoc])
  have HH0 : Hid (g.T = [] → str g.headsL = str g.startL) := Lib.hid (fun hn => by unfold Gm.headsL; rw [if_pos hn])
  obtain ⟨AT, cT, AN, cN, AR, cR, rfl, hT, hN, hR⟩ := h.open_
  have HBL := Lib.hid (fun y (hy : Below w.heap.size w y) => blanks_any (hT.later hy) hsm.2.2.1 hsm.1)
  have hbl : (str (blanksL g.T)).size ≤ 1099512676352 := by
    rw [str_size]
    exact Nat.le_trans (blanksL_len g.T 1048576 hsm.1) (Nat.le_trans (Nat.mul_le_mul_right _ hsm.2.2.1) (by decide))
  have HE : Hid (g.T.length = 0 → g.T = []) := Lib.hid List.eq_nil_of_length_eq_zero
  have HE2 : Hid (g.T.length ≠ 0 → g.T ≠ []) := Lib.hid (fun hh e => hh (by rw [e]; rfl))
  clear h hT hN hR hsm
  generalize str g.headsL = res at *
  generalize str g.startL = st at *
  generalize g.name g.s = nm at *
  generalize str (blanksL g.T) = bl at *
  generalize g.T.length = nT at *
  generalize g.N.length = nN at *
  generalize g.R.length = nR at *
  generalize g.s = gs at *
  by_cases h0 : nT = 0
  · have HR := Lib.hid (HH0.out (HE.out h0))
    subst h0
    go_enter Tryz.func23, Tryz.ntmps23
    go_wp2_with fail
    refine (HNM.out _ (below_alloc w _)).mono ?_
    rintro e w1 ⟨rfl, hb1⟩
    have HB1 := Lib.hid (below_alloc_trans hb1)
    obtain ⟨d0, d1, d2, d3⟩ := (HG.out.later hb1).four
    clear hb1
    go_wp2
    go_ret
    exact ⟨by rw [HR.out, HST.out]; rfl, HB1.out⟩
  · have HR := Lib.hid (HHD.out (HE2.out h0))
    have h1 : ((nT : Int) == 0) = false := by rw [beq_eq_false_iff_ne]; omega
    clear h0
    go_enter Tryz.func23, Tryz.ntmps23
    go_wp2_with fail
    refine (HNM.out _ (below_alloc w _)).mono ?_
    rintro e w1 ⟨rfl, hb1⟩
    have HB1 := Lib.hid (below_alloc_trans hb1)
    obtain ⟨d0, d1, d2, d3⟩ := (HG.out.later hb1).four
    clear hb1
    go_wp2_with fail
    refine (HBL.out _ HB1.out).mono ?_
    rintro e w2 ⟨rfl, hb2⟩
    have HB2 := Lib.hid (HB1.out.trans (hb2.mono HB1.out.size))
    clear hb2 d0 d1 d2 d3
    go_wp2
    go_ret
    exact ⟨by rw [HR.out, HST.out]; rfl, HB2.out⟩
end Go.Proofs.YtdbmeocpjopdhaaGreat

namespace Go.Proofs.YtdbmeocpjopdhaaGreat
open Go.RowKit
open Gm (blanksL)
set_option linter.unusedVariables false
/-- All its numbers are numbers. -/
def Gm.ints (g : Gm) : Prop := -9223372036854775808 ≤ g.s ∧ ∀ r ∈ g.R, -9223372036854775808 ≤ r.left ∧ ∀ s ∈ r.right, -9223372036854775808 ≤ s
theorem check_zero {g : Gm} (h : g.check = 0) : g.T.length ≤ 120 ∧ g.N.length ≤ 120 ∧ g.R.length ≤ 300 ∧ (∀ r ∈ g.R, r.right.length ≤ 8) ∧ ∀ r ∈ g.R, 1 ≤ r.left := by
  unfold Gm.check at h
  split at h
  · rename_i hf
    split at h
    · split at h
      · split at h
        · rename_i hk
          unfold Gm.few at hf
          simp only [Bool.and_eq_true, decide_eq_true_eq, List.all_eq_true] at hf
          unfold Gm.known at hk
          simp only [Bool.and_eq_true, List.all_eq_true] at hk
          refine ⟨hf.1.1, hf.1.2, hf.2.1, fun r hr => ?_, fun r hr => ?_⟩
          · have := hf.2.2 r hr
            unfold shortR at this
            exact of_decide_eq_true this
          · have := hk.2 r hr
            unfold Gm.knownR Gm.non at this
            simp only [Bool.and_eq_true, decide_eq_true_eq] at this
            omega
        · cases h
      · cases h
    · cases h
  · cases h
theorem rightL_len8 (g : Gm) (h : g.small) (l : List Int) (hl : l.length ≤ 8) : (g.rightL l).length ≤ 8388616 := by
  rw [rightL_map]
  have h1 := blanksL_len (l.map g.name) 1048576 (fun s hs => by
    obtain ⟨x, _, rfl⟩ := List.mem_map.1 hs
    exact Gm.name_size h x)
  rw [List.length_map] at h1
  omega
theorem ruleL_len8 (g : Gm) (h : g.small) (k : Int) (l : List Int) (hl : l.length ≤ 8) : (g.ruleL k l).length ≤ 9437194 := by
  have h1 := rightL_len8 g h l hl
  have h2 := Gm.name_size h k
  unfold Gm.ruleL
  rw [List.length_append, List.length_append, len_size]
  simp only [List.length_cons, List.length_nil]
  omega
theorem rulesL_len (g : Gm) (h : g.small) (l : List Ru) (hl : ∀ r ∈ l, r.right.length ≤ 8) (k : Int) : (g.rulesL k l).length ≤ l.length * 10000000 := by
  induction l generalizing k with
  | nil => simp [Gm.rulesL]
  | cons r l ih =>
    have h1 := ih (fun x hx => hl x (List.mem_cons_of_mem _ hx)) r.left
    have h2 := rightL_len8 g h r.right (hl r (by simp))
    have h3 := ruleL_len8 g h r.left r.right (hl r (by simp))
    simp only [Gm.rulesL, List.length_append, List.length_cons]
    split
    · simp only [List.length_append, List.length_cons, List.length_nil]; omega
    · rw [List.length_append]
      split
      · simp only [List.length_nil]; omega
      · simp only [List.length_cons, List.length_nil]; omega
theorem headsL_len (g : Gm) (h : g.small) (hT : g.T.length ≤ 120) : g.headsL.length ≤ 127000000 := by
  have h1 := Gm.name_size h g.s
  have h2 := blanksL_len g.T 1048576 h.1
  have h3 : g.startL.length ≤ 1048587 := by
    unfold Gm.startL
    rw [List.length_append, List.length_append, len_size]
    simp only [List.length_cons, List.length_nil]
    omega
  unfold Gm.headsL
  split
  · omega
  · rw [List.length_append, List.length_append, List.length_append]
    simp only [List.length_cons, List.length_nil]
    omega
theorem builder_later {T e : TypeId} {B b : Nat} {bs : List Value} {w w' : World} (h : Lib.IsBuilder T e B b bs w) (hb : Below w.heap.size w w') : Lib.IsBuilder T e B b bs w' := by
  have step : ∀ p, Lib.BuilderAt T e B b p bs w → Lib.BuilderAt T e B b p bs w' := fun p hp => by
    have hlt := hp.lt
    obtain ⟨hB, v, h1, h2, h3⟩ := hp
    exact ⟨hB, v, by rw [hb.block b hlt]; exact h1, own_below h2 hb, h3⟩
  rcases h with h | h
  · exact .inl (step _ h)
  · exact .inr (step _ h)
theorem cells_app (l m : List UInt8) : Lib.byteCells l ++ Lib.strCells (str m) = Lib.byteCells (l ++ m) := by
  unfold Lib.byteCells Lib.strCells
  rw [data_str, List.map_append]
/-- What is still to be shown behind bs. -/
def Left (g : Gm) (tot bs : List UInt8) (q : Int) (k : Nat) : Prop := tot = bs ++ g.rulesL q (g.R.drop k)
theorem drop_cons {α : Type} {l : List α} {k : Nat} {r : α} (h : l[k]? = some r) : l.drop k = r :: l.drop (k + 1) := by
  obtain ⟨hk, rfl⟩ := List.getElem?_eq_some_iff.1 h
  exact List.drop_eq_getElem_cons hk
theorem Left.same {g : Gm} {tot bs : List UInt8} {q : Int} {k : Nat} {r : Ru} (h : Left g tot bs q k) (hr : g.R[k]? = some r) (e : r.left = q) : Left g tot (bs ++ ([10, 9, 124] ++ g.rightL r.right)) q (k + 1) := by
  unfold Left at *
  rw [h, drop_cons hr]
  simp only [Gm.rulesL, if_pos e]
  rw [e]
  simp only [List.append_assoc]
theorem Left.first {g : Gm} {tot bs : List UInt8} {k : Nat} {r : Ru} (h : Left g tot bs 0 k) (hr : g.R[k]? = some r) (e : ¬ r.left = 0) : Left g tot (bs ++ g.ruleL r.left r.right) r.left (k + 1) := by
  unfold Left at *
  rw [h, drop_cons hr]
  simp only [Gm.rulesL, if_neg e, if_pos trivial]
  simp only [List.append_assoc, List.nil_append]
theorem Left.other {g : Gm} {tot bs : List UInt8} {q : Int} {k : Nat} {r : Ru} (h : Left g tot bs q k) (hr : g.R[k]? = some r) (e : ¬ r.left = q) (e0 : ¬ q = 0) : Left g tot ((bs ++ [10, 9, 59, 10]) ++ g.ruleL r.left r.right) r.left (k + 1) := by
  unfold Left at *
  rw [h, drop_cons hr]
  simp only [Gm.rulesL, if_neg e, if_neg e0]
  simp only [List.append_assoc]
theorem Left.len {g : Gm} {tot bs : List UInt8} {q : Int} {k : Nat} (h : Left g tot bs q k) : bs.length ≤ tot.length := by
  unfold Left at h
  rw [h, List.length_append]
  omega
theorem Left.all {g : Gm} {tot bs : List UInt8} {q : Int} (h : Left g tot bs q g.R.length) : tot = bs := by
  unfold Left at h
  rw [h, List.drop_of_length_le (Nat.le_refl _)]
  simp [Gm.rulesL]
theorem loaded {α : Type} {l : List α} {k : Nat} (h : k < l.length) : ∃ r, l[k]? = some r := ⟨l[k], List.getElem?_eq_getElem h⟩
/-- What Show's loop asks. -/
structure Shows (w : World) (AR : Option Addr) (v : Value) (g : Gm) : Prop where
  cell : ∀ (k : Nat) (r : Ru), g.R[k]? = some r → ∃ b off A c, AR = some ⟨b, off, none⟩ ∧ b < w.heap.size ∧ w.cell? ⟨b, off + k * 2, none⟩ = some (.int .i64 r.left) ∧ w.cell? ⟨b, off + k * 2 + 1, none⟩ = some (.slice A r.right.length c) ∧ r.v = .slice A r.right.length c
  right : ∀ (k : Nat) (r : Ru), g.R[k]? = some r → ∀ y, Below w.heap.size w y → Calls Tryz.prog 24 #[v, RuV r] y (Text y (str (g.rightL r.right)))
  rule : ∀ (k : Nat) (r : Ru), g.R[k]? = some r → ∀ y, Below w.heap.size w y → Calls Tryz.prog 19 #[v, RuV r] y (Text y (str (g.ruleL r.left r.right)))
theorem shows_any {w : World} {v : Value} {g : Gm} {AR : Option Addr} {cR : Nat} (h : GrR w v g) (hi : g.ints) (h8 : ∀ r ∈ g.R, r.right.length ≤ 8) (hR : Rul w (.slice AR g.R.length cR) g.R) : Shows w AR v g where
  cell := fun k r hr => by
    obtain ⟨⟨A, c, e, hc⟩, _⟩ := id hR
    cases e
    obtain ⟨b, off, hA, hlt, h1, h2, ⟨A2, c2, hv, _⟩, _⟩ := hc k r hr
    exact ⟨b, off, A2, c2, hA, hlt, h1, by rw [← hv]; exact h2, hv⟩
  right := fun k r hr y hy => right_any (h.later hy) ⟨rfl, (hR.mem (List.mem_of_getElem? hr)).later hy⟩ (by have := h8 r (List.mem_of_getElem? hr); omega) (hi.2 r (List.mem_of_getElem? hr)).2
  rule := fun k r hr y hy => rule_any (h.later hy) ⟨rfl, (hR.mem (List.mem_of_getElem? hr)).later hy⟩ (by have := h8 r (List.mem_of_getElem? hr); omega) (hi.2 r (List.mem_of_getElem? hr)).2 (hi.2 r (List.mem_of_getElem? hr)).1
theorem show_no {g : Gm} (h : ¬ (g.check = 0 ∧ g.ordered = true)) : str g.showL = ⟨#[]⟩ := by unfold Gm.showL; rw [if_neg h]; rfl
set_option maxRecDepth 100000 in
set_option maxHeartbeats 6400000 in
theorem show_any {w : World} {v : Value} {g : Gm} (h : GrR w v g) (hi : g.ints) : Calls Tryz.prog 9 #[v] w (Text w (str g.showL)) := by
  have HCK := Lib.hid (fun y (hy : Below w.heap.size w y) => check_any (h.later hy))
  have HOR := Lib.hid (fun y (hy : Below w.heap.size w y) => ord_any (h.later hy))
  have HHD := Lib.hid (fun y (hy : Below w.heap.size w y) => heads_any (h.later hy) hi.1)
  have hsm := h.small
  have HG := Lib.hid (GBox.new w 25 v)
  have HNO := Lib.hid (@show_no g)
  obtain ⟨AT, cT, AN, cN, AR, cR, rfl, hT, hN, hR⟩ := h.open_
  by_cases hc : g.check = 0
  case neg =>
    have HR := Lib.hid (HNO.out (fun hh => hc hh.1))
    have hne : (g.check != 0) = true := by simpa using hc
    clear HOR HHD HNO h hi hsm hT hN hR hc
    generalize str g.showL = res at *
    generalize g.check = ck at *
    generalize g.T.length = nT at *
    generalize g.N.length = nN at *
    generalize g.R.length = nR at *
    generalize g.s = gs at *
    go_enter Tryz.func9, Tryz.ntmps9
    go_wp2_with fail
    refine (HCK.out _ (below_alloc w _)).mono ?_
    rintro e w1 ⟨rfl, hb1⟩
    have HB1 := Lib.hid (below_alloc_trans hb1)
    clear hb1
    go_wp2
    go_ret
    exact ⟨by rw [HR.out]; rfl, HB1.out⟩
  obtain ⟨q1, q2, q3, q4, q5⟩ := check_zero hc
  rw [hc] at HCK
  cases ho : g.ordered with
  | false =>
    rw [ho] at HOR
    have HR := Lib.hid (HNO.out (fun hh => by rw [ho] at hh; cases hh.2))
    clear HHD HNO h hi hsm hT hN hR hc ho q4 q5
    generalize str g.showL = res at *
    generalize g.T.length = nT at *
    generalize g.N.length = nN at *
    generalize g.R.length = nR at *
    generalize g.s = gs at *
    go_enter Tryz.func9, Tryz.ntmps9
    go_wp2_with fail
    refine (HCK.out _ (below_alloc w _)).mono ?_
    rintro e w1 ⟨rfl, hb1⟩
    have HB1 := Lib.hid (below_alloc_trans hb1)
    obtain ⟨d0, d1, d2, d3⟩ := (HG.out.later hb1).four
    clear hb1
    go_wp2_with fail
    refine (HOR.out _ HB1.out).mono ?_
    rintro e w2 ⟨rfl, hb2⟩
    have HB2 := Lib.hid (HB1.out.trans (hb2.mono HB1.out.size))
    clear hb2 d0 d1 d2 d3
    go_wp2
    go_ret
    exact ⟨by rw [HR.out]; rfl, HB2.out⟩
  | true =>
    rw [ho] at HOR
    have HSH := Lib.hid (shows_any h hi q4 hR)
    have HRES : Hid (str g.showL = str (g.headsL ++ (g.rulesL 0 g.R ++ [10, 9, 59, 10]))) := Lib.hid (by unfold Gm.showL; rw [if_pos ⟨hc, ho⟩])
    have HLN : Hid ((g.headsL ++ g.rulesL 0 g.R).length ≤ 4000000000) := Lib.hid (by
      have h1 := headsL_len g hsm q1
      have h2 := rulesL_len g hsm g.R q4 0
      rw [List.length_append]
      omega)
    have HL0 : Hid (Left g (g.headsL ++ g.rulesL 0 g.R) g.headsL 0 0) := Lib.hid (by unfold Left; rw [List.drop_zero])
    have HLL := Lib.hid (fun (k : Nat) (r : Ru) (hr : g.R[k]? = some r) => q5 r (List.mem_of_getElem? hr))
    have HH : Hid (g.headsL.length ≤ 127000000) := Lib.hid (headsL_len g hsm q1)
    have HAL : Hid (∀ bs q, Left g (g.headsL ++ g.rulesL 0 g.R) bs q g.R.length → g.headsL ++ g.rulesL 0 g.R = bs) := Lib.hid (fun bs q hh => hh.all)
    have HSM := Lib.hid hsm
    have HLD : Hid (∀ k, k < g.R.length → ∃ r, g.R[k]? = some r) := Lib.hid (fun k hk => loaded hk)
    rw [← List.append_assoc] at HRES
    clear HNO h hi hsm hT hN hR hc ho q4 q5
    generalize str g.showL = res at *
    generalize g.headsL ++ g.rulesL 0 g.R = tot at *
    generalize g.headsL = hd at *
    generalize g.T.length = nT at *
    generalize g.N.length = nN at *
    generalize g.R.length = nR at *
    generalize g.s = gs at *
    go_enter Tryz.func9, Tryz.ntmps9
    go_wp2_with fail
    refine (HCK.out _ (below_alloc w _)).mono ?_
    rintro e w1 ⟨rfl, hb1⟩
    have HB1 := Lib.hid (below_alloc_trans hb1)
    have HG1 := Lib.hid (HG.out.later hb1)
    obtain ⟨d0, d1, d2, d3⟩ := HG1.out.four
    clear hb1
    go_wp2_with fail
    refine (HOR.out _ HB1.out).mono ?_
    rintro e w2 ⟨rfl, hb2⟩
    have HB2 := Lib.hid (HB1.out.trans (hb2.mono HB1.out.size))
    have HG2 := Lib.hid (HG1.out.later hb2)
    clear hb2 d0 d1 d2 d3
    obtain ⟨d0, d1, d2, d3⟩ := HG2.out.four
    have hg2 := HG2.out.lt
    have hws2 := HB2.out.size
    go_wp2_with fail
    refine (HHD.out _ (below_more HB2.out _)).mono ?_
    rintro e w3 ⟨rfl, hb3⟩
    have hbld0 : Lib.IsBuilder 48 5 w2.heap.size w2.heap.size (Lib.byteCells []) (w2.alloc (.cells #[.pointer none, .slice none 0 0] 48)) := .inl ⟨Nat.le_refl _, _, Blk.new w2 48 _, ⟨rfl, .inl ⟨rfl, rfl⟩⟩, by simp [Value.ownBlock]⟩
    have HI3 := Lib.hid (builder_later hbld0 hb3)
    have HB3 := Lib.hid (below_alloc_trans hb3)
    have hws3 := HB3.out.size
    have hhd := HH.out
    clear hb3 hbld0 d0 d1 d2 d3
    go_wp2_with fail
    refine (wstr_any _ _ _ (str hd) w3 HI3.out (by rw [cells_len, str_size]; simp; omega) hws3).mono ?_
    rintro e w4 ⟨rfl, hi4, hb4⟩
    have HI4 : Hid (Lib.IsBuilder 48 5 w2.heap.size w2.heap.size (Lib.byteCells hd) w4) := Lib.hid (by rw [cells_app] at hi4; exact .inr hi4)
    have HB4 := Lib.hid (HB3.out.trans hb4)
    clear hi4 hb4
    obtain ⟨d0, d1, d2, d3⟩ := (HG2.out.later HB4.out).four
    go_wp2
    clear d0 d1 d2 d3
    go_loopw [4, 21] (fun la i wr => ∃ (k : Nat) (q : Int) (bs : List UInt8), k ≤ nR ∧ i = .int .i64 k ∧ la = .int .i64 q ∧ Hid (Left g tot bs q k) ∧ Hid (Lib.IsBuilder 48 5 w2.heap.size w2.heap.size (Lib.byteCells bs) wr) ∧ Hid (Below w2.heap.size w2 wr)) (fun _ i _ => nR - (intOf i).toNat)
    case atStart => exact ⟨0, 0, hd, Nat.zero_le _, rfl, rfl, HL0, HI4, HB4⟩
    case round =>
      obtain ⟨k, q, bs, hk, rfl, rfl, HL, HI, HB⟩ := hrel
      have hws := HB.out.size
      have HW := Lib.hid (HB2.out.trans (HB.out.mono hws2))
      have hln := Nat.le_trans HL.out.len HLN.out
      by_cases hlt : k < nR
      · obtain ⟨r, hr⟩ := HLD.out k hlt
        obtain ⟨b, off, A, c, hA, hlt0, h1, h2, hv⟩ := HSH.out.cell k r hr
        subst hA
        have e1 := (HW.out.cell (p := ⟨b, off + k * 2, none⟩) hlt0).trans h1
        have e2 := (HW.out.cell (p := ⟨b, off + k * 2 + 1, none⟩) hlt0).trans h2
        have HRT := Lib.hid (HSH.out.right k r hr)
        have HRU := Lib.hid (HSH.out.rule k r hr)
        have hl1 := HLL.out k r hr
        have HS := Lib.hid (fun e => HL.out.same hr e)
        have HO := Lib.hid (fun e e0 => HL.out.other hr e e0)
        have HF := Lib.hid (fun (hq : q = 0) (e : ¬ r.left = 0) => Left.first (show Left g tot bs 0 k from hq ▸ HL.out) hr e)
        obtain ⟨d0, d1, d2, d3⟩ := (HG2.out.later HB.out).four
        have hgr : w.heap.size < wr.heap.size := by omega
        simp only [RuV] at HRT HRU
        rw [hv] at HRT HRU
        clear hr h1 h2 hv
        generalize g.rightL r.right = rtl at *
        generalize g.ruleL r.left r.right = rul at *
        generalize r.left = rl at *
        generalize r.right.length = rn at *
        by_cases hq : rl = q
        · have HN := Lib.hid (HS.out hq)
          have hn := Nat.le_trans HN.out.len HLN.out
          have hq1 : (q == rl) = true := by simp [hq]
          rw [List.length_append, List.length_append] at hn
          simp only [List.length_cons, List.length_nil] at hn
          clear hq
          go_wp2_with fail
          refine (HRT.out _ (below_more HW.out _)).mono ?_
          rintro e w5 ⟨rfl, hb5⟩
          have HI5 := Lib.hid (builder_later HI.out ((below_alloc wr _).trans (hb5.mono (by simp))))
          have HB5 := Lib.hid (HB.out.trans ((below_alloc_trans hb5).mono hws))
          have hws5 := HB5.out.size
          have hrs : (str rtl).size = rtl.length := str_size rtl
          clear hb5 d0 d1 d2 d3
          go_wp2_with fail
          refine (wstr_any _ _ _ _ w5 HI5.out (by rw [cells_len, ByteArray.size_append, str_size]; have h3 : (⟨#[10, 9, 124]⟩ : ByteArray).size = 3 := rfl; omega) hws5).mono ?_
          rintro e w6 ⟨rfl, hi6, hb6⟩
          have HI6 : Hid (Lib.IsBuilder 48 5 w2.heap.size w2.heap.size (Lib.byteCells (bs ++ ([10, 9, 124] ++ rtl))) w6) := Lib.hid (by
            rw [show (⟨#[10, 9, 124]⟩ : ByteArray) ++ str rtl = str ([10, 9, 124] ++ rtl) from str_append _ _, cells_app] at hi6
            exact .inr hi6)
          have HB6 := Lib.hid (HB5.out.trans hb6)
          clear hi6 hb6
          go_wp2
          go_roundw
          case rel => exact ⟨k + 1, q, _, by omega, by go_num, rfl, HN, HI6, HB6⟩
          case measure => simp [intOf]; omega
        · have hq1 : (q == rl) = false := beq_eq_false_iff_ne.2 (fun e => hq e.symm)
          by_cases hq0 : q = 0
          · have HN := Lib.hid (HF.out hq0 (by omega))
            have hn := Nat.le_trans HN.out.len HLN.out
            have hq2 : (q == 0) = true := by simp [hq0]
            rw [List.length_append] at hn
            clear hq hq0
            go_wp2_with fail
            refine (HRU.out _ (below_more HW.out _)).mono ?_
            rintro e w5 ⟨rfl, hb5⟩
            have HI5 := Lib.hid (builder_later HI.out ((below_alloc wr _).trans (hb5.mono (by simp))))
            have HB5 := Lib.hid (HB.out.trans ((below_alloc_trans hb5).mono hws))
            have BX := Lib.hid ((Blk.new wr 40 #[.int .i64 rl, .slice A rn c]).below hb5 (by simp))
            have hws5 := HB5.out.size
            clear hb5 d0 d1 d2 d3
            go_wp2_with fail
            refine (wstr_full _ _ _ (str rul) w5 HI5.out (by rw [cells_len, str_size]; omega) hws5).mono ?_
            rintro e w6 ⟨rfl, ⟨hi6, hb6⟩, hk6⟩
            have HI6 : Hid (Lib.IsBuilder 48 5 w2.heap.size w2.heap.size (Lib.byteCells (bs ++ rul)) w6) := Lib.hid (by
              rw [cells_app] at hi6
              exact .inr hi6)
            have HB6 := Lib.hid (HB5.out.trans hb6)
            have c6 := (hk6.blk BX.out (.inr (by decide))).cell 0
            simp only [List.getElem?_toArray, List.getElem?_cons_zero] at c6
            clear hi6 hb6 hk6
            go_wp2
            go_roundw
            case rel => exact ⟨k + 1, rl, _, by omega, by go_num, rfl, HN, HI6, HB6⟩
            case measure => simp [intOf]; omega
          · have HN := Lib.hid (HO.out hq hq0)
            have hn := Nat.le_trans HN.out.len HLN.out
            have hq2 : (q == 0) = false := beq_eq_false_iff_ne.2 hq0
            rw [List.length_append, List.length_append] at hn
            simp only [List.length_cons, List.length_nil] at hn
            have hsz : (⟨#[10, 9, 59, 10]⟩ : ByteArray).size = 4 := rfl
            have hxa : Below w2.heap.size w2 (wr.alloc (.cells #[.int .i64 rl, .slice A rn c] 40)) := HB.out.alloc hws _
            have HXA := Lib.hid hxa
            have hxs := hxa.size
            have HI4' := Lib.hid (builder_later HI.out (below_alloc wr (.cells #[.int .i64 rl, .slice A rn c] 40)))
            clear hq hq0 hxa
            go_wp2_with fail
            refine (wstr_full _ _ _ (str [10, 9, 59, 10]) _ HI4'.out (by rw [cells_len, str_size]; simp only [List.length_cons, List.length_nil]; omega) hxs).mono ?_
            rintro e w4' ⟨rfl, ⟨hi4, hb4⟩, hk4⟩
            have HIX : Hid (Lib.IsBuilder 48 5 w2.heap.size w2.heap.size (Lib.byteCells (bs ++ [10, 9, 59, 10])) w4') := Lib.hid (by
              rw [cells_app] at hi4
              exact .inr hi4)
            have HBX := Lib.hid (HXA.out.trans hb4)
            have hwsx := HBX.out.size
            have BX4 := Lib.hid (hk4.blk (Blk.new wr 40 #[.int .i64 rl, .slice A rn c]) (.inr (by decide)))
            have c0 := BX4.out.cell 0
            have c1 := BX4.out.cell 1
            simp only [List.getElem?_toArray, List.getElem?_cons_zero, List.getElem?_cons_succ] at c0 c1
            have HWX := Lib.hid (HB2.out.trans (HBX.out.mono hws2))
            clear hi4 hb4 hk4 d0 d1 d2 d3
            obtain ⟨d0, d1, d2, d3⟩ := (HG2.out.later HBX.out).four
            go_wp2_with fail
            refine (HRU.out _ HWX.out).mono ?_
            rintro e w5 ⟨rfl, hb5⟩
            have HI5 := Lib.hid (builder_later HIX.out hb5)
            have HB5 := Lib.hid (HBX.out.trans (hb5.mono hwsx))
            have BX := Lib.hid (BX4.out.below hb5 BX4.out.lt)
            have hws5 := HB5.out.size
            clear hb5 d0 d1 d2 d3 c0 c1
            go_wp2_with fail
            refine (wstr_full _ _ _ (str rul) w5 HI5.out (by rw [cells_len, str_size, List.length_append]; simp only [List.length_cons, List.length_nil]; omega) hws5).mono ?_
            rintro e w6 ⟨rfl, ⟨hi6, hb6⟩, hk6⟩
            have HI6 : Hid (Lib.IsBuilder 48 5 w2.heap.size w2.heap.size (Lib.byteCells ((bs ++ [10, 9, 59, 10]) ++ rul)) w6) := Lib.hid (by
              rw [cells_app] at hi6
              exact .inr hi6)
            have HB6 := Lib.hid (HB5.out.trans hb6)
            have c6 := (hk6.blk BX.out (.inr (by decide))).cell 0
            simp only [List.getElem?_toArray, List.getElem?_cons_zero] at c6
            clear hi6 hb6 hk6
            go_wp2
            go_roundw
            case rel => exact ⟨k + 1, rl, _, by omega, by go_num, rfl, HN, HI6, HB6⟩
            case measure => simp [intOf]; omega
      · obtain rfl : k = nR := by omega
        have HT := Lib.hid (HAL.out bs q HL.out)
        have hsz : (⟨#[10, 9, 59, 10]⟩ : ByteArray).size = 4 := rfl
        go_wp2_with fail
        refine (wstr_any _ _ _ (str [10, 9, 59, 10]) wr HI.out (by rw [cells_len, str_size]; simp only [List.length_cons, List.length_nil]; omega) hws).mono ?_
        rintro e w5 ⟨rfl, hi5, hb5⟩
        have HI5 : Hid (Lib.IsBuilder 48 5 w2.heap.size w2.heap.size (Lib.byteCells (bs ++ [10, 9, 59, 10])) w5) := Lib.hid (by
          rw [cells_app] at hi5
          exact .inr hi5)
        have HB5 := Lib.hid (HB.out.trans hb5)
        have hws5 := HB5.out.size
        clear hi5 hb5
        go_wp2_with fail
        refine (Tryz.Builder_String_any _ _ _ w5 HI5.out hws5).mono ?_
        rintro e w6 ⟨rfl, hw6⟩
        have HB6 := Lib.hid (HB2.out.trans ((HB5.out.trans hw6).mono hws2))
        clear hw6
        go_wp2
        go_ret
        exact ⟨by rw [HRES.out, HT.out]; rfl, HB6.out⟩
end Go.Proofs.YtdbmeocpjopdhaaGreat
