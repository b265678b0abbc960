/- Ordered: the program's. -/
import Derived.Test.YtdbmeocpjopdhaaG9
namespace Go.Proofs.Ytdbmeocpjopdhaa
open Go.RowKit
set_option linter.unusedVariables false
theorem nan_any (x : Int) (w : World) : Calls Try.prog 80 #[.int .i64 x] w fun e w' => e = .returned (.bool false) ∧ w' = w := by
  go_enter Try.func80, Try.ntmps80
  go_wp2
  go_ret
  simp
theorem less_any (x y : Int) (w : World) : Calls Try.prog 60 #[.int .i64 x, .int .i64 y] w fun e w' => e = .returned (.bool (decide (x < y))) ∧ ∃ d, w' = w.drewN d := by
  have HN := Lib.hid (fun z => nan_any z w)
  go_enter Try.func60, Try.ntmps60
  go_wp2_with (go_at_call 80; refine (HN.out _).mono ?_; rintro e w' ⟨rfl, rfl⟩)
  go_ret
  exact ⟨rfl, 0, rfl⟩
def AscFrom (l : List Int) (k : Nat) : Prop := ∀ (j : Nat) (x y : Int), k ≤ j + 1 → l[j]? = some x → l[j + 1]? = some y → x ≤ y
theorem AscFrom.start (l : List Int) : AscFrom l l.length := fun j x y h _ hy => by
  have := (List.getElem?_eq_some_iff.1 hy).1
  omega
theorem AscFrom.next {l : List Int} {m : Nat} {x y : Int} (h : AscFrom l (m + 1 + 1)) (hx : l[m]? = some x) (hy : l[m + 1]? = some y) (hxy : ¬ y < x) : AscFrom l (m + 1) := by
  intro j x' y' hj h1 h2
  by_cases e : j = m
  · subst e
    rw [hx] at h1; rw [hy] at h2; cases h1; cases h2; omega
  · exact h j x' y' (by omega) h1 h2
open Classical in
theorem AscFrom.all {l : List Int} (h : AscFrom l 1) : decide (Asc l) = true := by
  rw [decide_eq_true_eq]
  exact fun j x y h1 h2 => h j x y (by omega) h1 h2
open Classical in
theorem asc_not {l : List Int} {m : Nat} {x y : Int} (hx : l[m]? = some x) (hy : l[m + 1]? = some y) (hxy : y < x) : decide (Asc l) = false := by
  rw [decide_eq_false_iff_not]
  intro h
  have := h m x y hx hy
  omega
open Classical in
theorem asc_nil {l : List Int} (h : l.length = 0) : decide (Asc l) = true := by
  rw [List.length_eq_zero_iff] at h
  subst h
  rw [decide_eq_true_eq]
  intro j x y h1
  simp at h1
set_option maxRecDepth 100000 in
set_option maxHeartbeats 1600000 in
open Classical in
theorem sorted_any {w : World} {v : Value} {l : List Int} (h : Arr IntV w v l) : Calls Try.prog 37 #[v] w (Says w (decide (Asc l))) := by
  obtain ⟨⟨A, c, rfl, hc⟩, hs⟩ := h
  by_cases h0 : l.length = 0
  · rw [asc_nil h0, h0]
    go_enter Try.func37, Try.ntmps37
    go_wp2
    go_loopw [3] (fun i wr => i = .int .i64 (-1) ∧ wr = w) (fun _ _ => 0)
    case atStart => exact ⟨rfl, rfl⟩
    case round =>
      obtain ⟨rfl, rfl⟩ := hrel
      go_wp2
      go_ret
      exact ⟨rfl, Below.refl _ _⟩
  · have HC := Lib.hid hc
    have HL := Lib.hid (fun x y z => less_any x y z)
    clear hc
    obtain ⟨n, hn⟩ : ∃ n, l.length = n + 1 := ⟨l.length - 1, by omega⟩
    have hst : AscFrom l (n + 1) := by rw [← hn]; exact AscFrom.start l
    have HST := Lib.hid hst
    have HN := Lib.hid hn
    rw [hn] at hs ⊢
    clear hst h0 hn
    go_enter Try.func37, Try.ntmps37
    go_wp2
    go_loopw [3] (fun i wr => ∃ k : Nat, k ≤ n ∧ i = .int .i64 k ∧ Hid (AscFrom l (k + 1)) ∧ Hid (∃ q, wr = w.drewN q)) (fun i _ => (intOf i).toNat)
    case atStart => exact ⟨n, Nat.le_refl _, by go_num, HST, Lib.hid ⟨0, rfl⟩⟩
    case round =>
      obtain ⟨k, hk, rfl, HA, HD⟩ := hrel
      by_cases hpos : 0 < k
      · obtain ⟨m, rfl⟩ : ∃ m, k = m + 1 := ⟨k - 1, by omega⟩
        have hx := List.getElem?_eq_getElem (show m < l.length by have := HN.out; omega)
        have hy := List.getElem?_eq_getElem (show m + 1 < l.length by have := HN.out; omega)
        generalize l[m]'(by have := HN.out; omega) = x at hx
        generalize l[m + 1]'(by have := HN.out; omega) = y at hy
        obtain ⟨b, off, hA, hlt0, h1⟩ := HC.out m x hx
        obtain ⟨b', off', hA', _, h2⟩ := HC.out (m + 1) y hy
        subst hA
        cases hA'
        have e1 : wr.cell? ⟨b, off + m, none⟩ = some (.int .i64 x) := by obtain ⟨q, rfl⟩ := HD.out; exact h1
        have e2 : wr.cell? ⟨b, off + (m + 1), none⟩ = some (.int .i64 y) := by obtain ⟨q, rfl⟩ := HD.out; exact h2
        have hm1 : ((m + 1 : Nat) : Int) - 1 = (m : Int) := by omega
        have HX := Lib.hid hx
        have HY := Lib.hid hy
        clear hx hy h1 h2
        by_cases hxy : y < x
        · have HNO := Lib.hid (asc_not HX.out HY.out hxy)
          have hd : decide (y < x) = true := decide_eq_true hxy
          have HLL := Lib.hid (HL.out y x)
          rw [hd] at HLL
          clear hxy hd
          go_wp2
          go_quiet ((go_at_call 60; exact Calls.quiet_of (HLL.out _)))
          go_wp2
          go_ret
          refine ⟨ret_bool HNO.out.symm, ?_⟩
          obtain ⟨q, rfl⟩ := HD.out
          exact below_draws (below_draws (Below.refl _ w) _) _
        · have HNX := Lib.hid (HA.out.next HX.out HY.out hxy)
          have hd : decide (y < x) = false := decide_eq_false hxy
          have HLL := Lib.hid (HL.out y x)
          rw [hd] at HLL
          clear hxy hd
          go_wp2
          go_quiet ((go_at_call 60; exact Calls.quiet_of (HLL.out _)))
          have HDD : Hid (∃ q, wr.drewN nq = w.drewN q) := Lib.hid (by
            obtain ⟨q, hq⟩ := HD.out
            exact ⟨q + nq, by rw [hq, World.drewN_drewN]⟩)
          go_wp2
          go_roundw
          case rel => exact ⟨m, by omega, by go_num, HNX, HDD⟩
          case measure => simp [intOf]
      · obtain rfl : k = 0 := by omega
        have HNX := Lib.hid HA.out.all
        go_wp2
        go_ret
        refine ⟨ret_bool HNX.out.symm, ?_⟩
        obtain ⟨q, rfl⟩ := HD.out
        exact below_draws (Below.refl _ w) _
theorem ordq_any {y : World} {B : Nat} {s : Int} (r : Ru) (hc : y.cell? ⟨B, 0, none⟩ = some (.int .i64 s)) : Calls Try.prog 36 #[RuV r, .pointer (some ⟨B, 0, none⟩)] y (Says y (Gm.left s r)) := by
  have hB := World.block_lt_of_cell? y _ hc
  unfold RuV Gm.left
  generalize r.left = rl
  generalize r.v = rv
  go_enter Try.func36, Try.ntmps36
  go_wp2
  go_ret
  exact ⟨rfl, below_alloc _ _⟩
/-- Places of the first rules of the first k nonterminals. -/
def Gm.firstsTo (g : Gm) (k : Nat) : List Int := (List.range k).map fun i => (g.first i : Int)
theorem Gm.firstsTo_next (g : Gm) (k : Nat) : g.firstsTo (k + 1) = g.firstsTo k ++ [(g.first k : Int)] := by unfold Gm.firstsTo; rw [List.range_succ, List.map_append]; rfl
theorem Gm.firstsTo_len (g : Gm) (k : Nat) : (g.firstsTo k).length = k := by unfold Gm.firstsTo; simp
theorem first_idx (g : Gm) (k : Nat) : (idxL (Gm.left ((g.T.length : Int) + 1 + k)) g.R = (g.first k : Int)) ∨ (idxL (Gm.left ((g.T.length : Int) + 1 + k)) g.R = -1 ∧ g.first k = g.R.length) := by
  unfold idxL Gm.first
  cases h : g.R.any (Gm.left ((g.T.length : Int) + 1 + k)) with
  | true => left; rw [if_pos rfl]
  | false =>
    right
    rw [if_neg (by simp)]
    refine ⟨rfl, List.findIdx_eq_length.2 fun x hx => ?_⟩
    cases hq : Gm.left ((g.T.length : Int) + 1 + k) x with
    | false => rfl
    | true =>
      have : g.R.any (Gm.left ((g.T.length : Int) + 1 + k)) = true := List.any_eq_true.2 ⟨x, hx, hq⟩
      rw [h] at this
      cases this
set_option maxRecDepth 100000 in
set_option maxHeartbeats 3200000 in
theorem ord_any {w : World} {v : Value} {g : Gm} (h : GrR w v g) : Calls Try.prog 11 #[v] w (Says w g.ordered) := by
  have hsm := h.small
  have hT20 := hsm.2.2.1
  have hN20 := hsm.2.2.2.1
  have hR20 := hsm.2.2.2.2.1
  have HG := Lib.hid (GBox.new w 25 v)
  obtain ⟨AT, cT, AN, cN, AR, cR, rfl, hT, hN, hR⟩ := h.open_
  have HIDX : Hid (∀ y (k : Nat), Below w.heap.size w y → Calls Try.prog 35 #[.slice AR g.R.length cR, .func (.func 36) #[] #[.pointer (some ⟨y.heap.size, 0, none⟩)]] (y.alloc (.cells #[.int .i64 ((g.T.length : Int) + 1 + k)] 3)) fun e w' => e = .returned (.int .i64 (idxL (Gm.left ((g.T.length : Int) + 1 + k)) g.R)) ∧ Below (y.alloc (.cells #[.int .i64 ((g.T.length : Int) + 1 + k)] 3)).heap.size (y.alloc (.cells #[.int .i64 ((g.T.length : Int) + 1 + k)] 3)) w') := Lib.hid (by
    intro y k hy
    refine idxR_any (hR.later (hy.trans ((below_alloc y _).mono hy.size))) _ 36 #[.pointer (some ⟨y.heap.size, 0, none⟩)] (fun _ _ => by kernel_rfl) (fun x hx z hz => ordq_any x ?_)
    exact (hz.cell (p := ⟨y.heap.size, 0, none⟩) (by simp)).trans ((Blk.new y 3 _).cell 0))
  have HS : Hid (∀ (y : World) (o : Value), OutAt 3 (w.alloc (.cells #[.slice AT g.T.length cT, .slice AN g.N.length cN, .slice AR g.R.length cR, .int .i64 g.s] 25)) ((g.firstsTo g.N.length).map IntV) o y → Calls Try.prog 37 #[o] y (Says y g.ordered)) := Lib.hid (fun y o ho => by
    have := sorted_any (ho.arr (by rw [g.firstsTo_len]; omega))
    exact this)
  have HF1 := Lib.hid (fun k => first_idx g k)
  have HF2 := Lib.hid (fun k => g.firstsTo_next k)
  have HF3 := Lib.hid (fun k => g.firstsTo_len k)
  have HF0 : Hid (g.firstsTo 0 = []) := Lib.hid rfl
  have hEl := ElInt
  clear h hT hN hR hsm
  generalize g.R.length = nR at *
  generalize g.T.length = nT at *
  generalize g.N.length = nN at *
  generalize g.s = gs at *
  go_enter Try.func11, Try.ntmps11
  go_wp2
  go_loopw [3, 10] (fun o i wr => ∃ k : Nat, k ≤ nN ∧ i = .int .i64 k ∧ OutAt 3 (w.alloc (.cells #[.slice AT nT cT, .slice AN nN cN, .slice AR nR cR, .int .i64 gs] 25)) ((g.firstsTo k).map IntV) o wr) (fun _ i _ => nN - (intOf i).toNat)
  case atStart => exact ⟨0, Nat.zero_le _, rfl, by rw [HF0.out]; exact OutAt.nil _ _⟩
  case round =>
    obtain ⟨k, hk, rfl, A, oc, rfl, ho, hbw⟩ := hrel
    have HO := Lib.hid ho
    have HB := Lib.hid hbw
    have hwb := hbw.size
    have hw2 : Below w.heap.size w wr := (below_alloc w _).trans (hbw.mono (by simp))
    have hxl : ((g.firstsTo k).map IntV).length = k := by rw [List.length_map, HF3.out]
    obtain ⟨d0, d1, d2, d3⟩ := (HG.out.later hbw).four
    have hbz : w.heap.size < wr.heap.size := by simp at hwb; omega
    by_cases hlt : k < nN
    · have HI := Lib.hid (HIDX.out wr k hw2)
      have HN := Lib.hid (HF2.out k)
      have hf := HF1.out k
      generalize hxs : (g.firstsTo k).map IntV = xs at *
      have HXS := Lib.hid hxs
      generalize idxL (Gm.left ((nT : Int) + 1 + k)) g.R = q at *
      generalize g.first k = f at *
      clear ho hbw hw2 hxs
      rw [hxl] at HO ⊢
      rcases hf with rfl | ⟨rfl, rfl⟩
      · go_wp2_with fail
        refine HI.out.mono ?_
        rintro e w1 ⟨rfl, hb1⟩
        have hb2 := (below_alloc wr (.cells #[.int .i64 ((nT : Int) + 1 + k)] 3)).trans (hb1.mono (by simp))
        have HB2 := Lib.hid (HB.out.trans (hb2.mono HB.out.size))
        have HO2 := Lib.hid (own_below HO.out hb2)
        have HS1 := Lib.hid (one_src 3 (.int .i64 f) rfl)
        have hws := HB2.out.size
        clear hb1 hb2 d0 d1 d2 d3
        go_wp2_with (at_builtin; refine wpList_app ElInt (.tmp 28) (.tmp 30) rfl rfl (base := (w.alloc (.cells #[.slice AT nT cT, .slice AN nN cN, .slice AR nR cR, .int .i64 gs] 25)).heap.size) (n := k) (m := 1) (N := k + 1) (xs := xs) (news := [.int .i64 f]) rfl rfl (HO2.out.alloc _) (HS1.out _) rfl (by unfold maxLen; omega) (by omega) (by simp at hws ⊢; omega) ?_; intro A2 c2 w2 r1 r2 r3; have HF := Lib.hid (out_app (HB2.out.trans ((below_alloc _ _).mono HB2.out.size)) (by simp [hxl]) r1 r2); clear r1 r2 r3)
        go_roundw
        case rel => exact ⟨k + 1, by omega, by go_num, by rw [HN.out, List.map_append, HXS.out]; exact HF.out⟩
        case measure => simp [intOf]; omega
      · go_wp2_with fail
        refine HI.out.mono ?_
        rintro e w1 ⟨rfl, hb1⟩
        have hb2 := (below_alloc wr (.cells #[.int .i64 ((nT : Int) + 1 + k)] 3)).trans (hb1.mono (by simp))
        have HB2 := Lib.hid (HB.out.trans (hb2.mono HB.out.size))
        have HO2 := Lib.hid (own_below HO.out hb2)
        have HS1 := Lib.hid (one_src 3 (.int .i64 f) rfl)
        have hws := HB2.out.size
        obtain ⟨d0, d1, d2, d3⟩ := (HG.out.later HB2.out).four
        have hbz : w.heap.size < w1.heap.size := by simp at hws; omega
        clear hb1 hb2
        go_wp2_with (at_builtin; refine wpList_app ElInt (.tmp 28) (.tmp 30) rfl rfl (base := (w.alloc (.cells #[.slice AT nT cT, .slice AN nN cN, .slice AR f cR, .int .i64 gs] 25)).heap.size) (n := k) (m := 1) (N := k + 1) (xs := xs) (news := [.int .i64 f]) rfl rfl (HO2.out.alloc _) (HS1.out _) rfl (by unfold maxLen; omega) (by omega) (by simp at hws ⊢; omega) ?_; intro A2 c2 w2 r1 r2 r3; have HF := Lib.hid (out_app (HB2.out.trans ((below_alloc _ _).mono HB2.out.size)) (by simp [hxl]) r1 r2); clear r1 r2 r3)
        go_roundw
        case rel => exact ⟨k + 1, by omega, by go_num, by rw [HN.out, List.map_append, HXS.out]; exact HF.out⟩
        case measure => simp [intOf]; omega
    · obtain rfl : k = nN := by omega
      have HSS := Lib.hid (HS.out wr _ ⟨A, oc, rfl, HO.out, HB.out⟩)
      clear ho hbw HO HB
      generalize (g.firstsTo k).map IntV = xs at *
      rw [hxl] at HSS ⊢
      clear hxl
      go_wp2_with fail
      refine HSS.out.mono ?_
      rintro e w1 ⟨rfl, hb1⟩
      have HB1 := Lib.hid (hw2.trans (hb1.mono hw2.size))
      clear hb1 d0 d1 d2 d3
      go_wp2
      go_ret
      exact ⟨rfl, HB1.out⟩
end Go.Proofs.Ytdbmeocpjopdhaa
