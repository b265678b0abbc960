/- The rules of a left side: the program's and the document's. Ordered: the program's. Two rows of texts, one behind the other: slices.Concat. No name stands twice: the program's, by a map. -/
import Derived.Test.YtdbmeocpjopdhaaGreatDoorZl
import Derived.Lib.AppendZeros
import Derived.Maps.Own
import Derived.Maps.OwnOps
import Derived.Maps.OwnSet
import Derived.Maps.Views
import Derived.StringKeys
namespace Go.Proofs.YtdbmeocpjopdhaaGreatDoor
open Go.RowKit
set_option linter.unusedVariables false
theorem Tryz.infoInt : (Tryz.prog.info? 3).map (fun i => (i.zero, i.size, i.bytes)) = some (some (.int .i64 0), 1, 8) := by kernel_rfl
theorem ElInt : El Tryz.prog 37 3 1 8 := El.of Tryz.underlying37 Tryz.infoInt rfl (by decide)
theorem own_below {w w' : World} {base : Nat} {e : TypeId} {size k : Nat} {v : Value} {xs : List Value} (h : w.ownsRow base e size v k xs) (hb : Below w.heap.size w w') : w'.ownsRow base e size v k xs := by
  refine ⟨h.1, ?_⟩
  rcases h.2 with hn | ⟨g, cap, cur, rfl, h1, h2, rest⟩
  · exact .inl hn
  · exact .inr ⟨g, cap, cur, rfl, h1, by rw [hb.block g (Array.getElem?_eq_some_iff.1 h2).1]; exact h2, rest⟩
/-- A row of the call's own that is being built. -/
def OutAt (T : TypeId) (w : World) (xs : List Value) (o : Value) (wr : World) : Prop := ∃ A c, o = .slice A xs.length c ∧ wr.ownsRow w.heap.size T 1 (.slice A xs.length c) xs.length xs ∧ Below w.heap.size w wr
theorem OutAt.nil (T : TypeId) (w : World) : OutAt T w [] (.slice none 0 0) w := ⟨none, 0, rfl, ⟨rfl, .inl ⟨rfl, rfl⟩⟩, Below.refl _ _⟩
theorem out_app {T : TypeId} {w wr w2 : World} {xs ys : List Value} {A : Option Addr} {N c : Nat} (hb : Below w.heap.size w wr) (hN : xs.length + ys.length = N) (r1 : w2.ownsRow w.heap.size T 1 (.slice A N c) N (xs ++ ys)) (r2 : Keeps w.heap.size [T] wr w2) : OutAt T w (xs ++ ys) (.slice A N c) w2 := by
  subst hN
  exact ⟨A, c, by rw [List.length_append], by rw [List.length_append]; exact r1, hb.trans (r2.below hb.size)⟩
theorem OutAt.later {T : TypeId} {w wr w2 : World} {xs : List Value} {o : Value} (h : OutAt T w xs o wr) (hb : Below wr.heap.size wr w2) : OutAt T w xs o w2 := by
  obtain ⟨A, c, ho, h1, h2⟩ := h
  exact ⟨A, c, ho, own_below h1 hb, h2.trans (hb.mono h2.size)⟩
/-- As it lies. -/
theorem OutAt.arr {α : Type} {E : α → Value} {T : TypeId} {w wr : World} {l : List α} {o : Value} (h : OutAt T w (l.map E) o wr) (hl : l.length ≤ 4611686018427387904) : Arr E wr o l := by
  obtain ⟨A, c, rfl, h1, h2⟩ := h
  rw [List.length_map] at h1 ⊢
  refine ⟨⟨A, c, rfl, fun k x hx => ?_⟩, hl, fun A' n' c' e => ?_⟩
  · rcases own_form h1 with ⟨e, h0⟩ | ⟨b, cap, e, hb, hlt, hcap, _⟩
    · have := (List.getElem?_eq_some_iff.1 hx).1
      omega
    · cases e
      have hk := (List.getElem?_eq_some_iff.1 hx).1
      refine ⟨b, 0, rfl, hlt, ?_⟩
      rw [Nat.zero_add, own_cell h1 k (by omega), List.getElem?_map, hx]
      rfl
  · cases e
    rcases own_form h1 with ⟨e, h0⟩ | ⟨b, cap, e, hb, hlt, hcap, _⟩
    · simp only [Value.slice.injEq] at e
      exact ⟨by omega, fun _ => e.2.2⟩
    · cases e
      exact ⟨hcap, fun e => by cases e⟩
theorem one_src (T : TypeId) (u : Value) (hu : u.oneCell' = true) (y : World) : SrcOK (y.alloc (.cells #[u] T)) (.slice (some ⟨y.heap.size, 0, none⟩) 1 1) 1 1 [u] :=
  SrcOK.blk (c := 1) (cs := [u]) (Blk.new y T _) rfl (fun x hx => by rw [List.mem_singleton.1 hx]; exact hu)
theorem one_src2 (T : TypeId) (u : Value) (hu : u.oneCell' = true) (y : World) (o : Obj) : SrcOK ((y.alloc o).alloc (.cells #[u] T)) (.slice (some ⟨y.heap.size + 1, 0, none⟩) 1 1) 1 1 [u] := by
  have h := one_src T u hu (y.alloc o)
  rwa [show (y.alloc o).heap.size = y.heap.size + 1 by simp] at h
/-- The numbers of rules of a left side, among the first k. -/
def ofTo (l : List Ru) (s : Int) (k : Nat) : List Int := ((List.range k).filter fun i => (l[i]?.map (Gm.left s)).getD false).map Int.ofNat
theorem ofTo_next {l : List Ru} {s : Int} {k : Nat} {r : Ru} (hr : l[k]? = some r) : ofTo l s (k + 1) = ofTo l s k ++ (if r.left = s then [(k : Int)] else []) := by
  unfold ofTo
  rw [List.range_succ, List.filter_append, List.map_append]
  congr 1
  by_cases h : r.left = s
  · simp [List.filter, hr, Gm.left, h]
  · have h2 : (r.left == s) = false := by simp [h]
    simp [List.filter, hr, Gm.left, h, h2]
theorem ofTo_yes {l : List Ru} {s : Int} {k : Nat} {r : Ru} (hr : l[k]? = some r) (h : r.left = s) : ofTo l s (k + 1) = ofTo l s k ++ [(k : Int)] := by rw [ofTo_next hr, if_pos h]
theorem ofTo_no {l : List Ru} {s : Int} {k : Nat} {r : Ru} (hr : l[k]? = some r) (h : ¬ r.left = s) : ofTo l s (k + 1) = ofTo l s k := by rw [ofTo_next hr, if_neg h, List.append_nil]
theorem ofTo_len (l : List Ru) (s : Int) (k : Nat) : (ofTo l s k).length ≤ k := by
  unfold ofTo
  rw [List.length_map]
  have := List.length_filter_le (fun i => (l[i]?.map (Gm.left s)).getD false) (List.range k)
  rwa [List.length_range] at this
def OfEnd (w : World) (v : Value) (xs : List Int) (e : Ending) (w' : World) : Prop := ∃ o, e = .returned o ∧ OutAt 3 (w.alloc (.cells v.cells 26)) (xs.map IntV) o w'
set_option maxRecDepth 100000 in
set_option maxHeartbeats 3200000 in
theorem of_any {w : World} {v : Value} {g : Gm} (h : GrR w v g) (s : Int) : Calls Tryz.prog 32 #[v, .int .i64 s] w (OfEnd w v (ofTo g.R s g.R.length)) := by
  have hsm := h.small.2.2.2.2.1
  have HG := Lib.hid (GBox.new w 26 v)
  obtain ⟨AT, cT, AN, cN, AR, cR, rfl, hT, hN, hR⟩ := h.open_
  obtain ⟨⟨A, c, hv, hc⟩, hs, hro⟩ := hR
  cases hv
  have HCELL := Lib.hid hc
  have hEl := ElInt
  clear h hT hN hro hc
  generalize g.R = l at *
  generalize g.T.length = nT at *
  generalize g.N.length = nN at *
  generalize g.s = gs at *
  go_enter Tryz.func32, Tryz.ntmps32
  go_wp2
  go_loopw [5, 11] (fun o i wr => ∃ k : Nat, k ≤ l.length ∧ i = .int .i64 k ∧ OutAt 3 (w.alloc (.cells #[.slice AT nT cT, .slice AN nN cN, .slice AR l.length cR, .int .i64 gs] 26)) ((ofTo l s k).map IntV) o wr) (fun _ i _ => l.length - (intOf i).toNat)
  case atStart => exact ⟨0, Nat.zero_le _, rfl, OutAt.nil _ _⟩
  case round =>
    obtain ⟨k, hk, rfl, A, oc, rfl, ho, hbw⟩ := hrel
    have HO := Lib.hid ho
    have HB := Lib.hid hbw
    have hwb := hbw.size
    have hlen := ofTo_len l s k
    have hbz : w.heap.size < wr.heap.size := by simp at hwb; omega
    by_cases hlt : k < l.length
    · have hr := List.getElem?_eq_getElem hlt
      generalize l[k] = r at hr
      obtain ⟨b, off, hA, hlt0, h1, h2, h3⟩ := HCELL.out k r hr
      subst hA
      obtain ⟨⟨RA, rc, hrv, _⟩, _⟩ := h3
      rw [hrv] at h2
      have hw2 : Below w.heap.size w wr := (below_alloc w _).trans (hbw.mono (by simp))
      have e1 := (hw2.cell (p := ⟨b, off + k * 2, none⟩) hlt0).trans h1
      have e2 := (hw2.cell (p := ⟨b, off + k * 2 + 1, none⟩) hlt0).trans h2
      have HY := Lib.hid (fun e => ofTo_yes (s := s) hr e)
      have HN := Lib.hid (fun e => ofTo_no (s := s) hr e)
      clear h1 h2 hr ho hbw hw2 hrv
      generalize r.left = rl at *
      generalize r.right.length = rn at *
      by_cases hq : rl = s
      · have hq1 : (rl == s) = true := by simp [hq]
        have HY := Lib.hid (HY.out hq)
        have HS := Lib.hid (one_src2 3 (.int .i64 k) rfl)
        clear hq
        generalize hxs : (ofTo l s k).map IntV = xs at *
        have hxl : xs.length ≤ 1048576 := by rw [← hxs, List.length_map]; omega
        have HXS := Lib.hid hxs
        clear hxs
        go_wp2_with (at_builtin; refine wpList_app ElInt (.tmp 20) (.tmp 22) rfl rfl (base := (w.alloc (.cells #[.slice AT nT cT, .slice AN nN cN, .slice (some ⟨b, off, none⟩) l.length cR, .int .i64 gs] 26)).heap.size) (n := xs.length) (m := 1) (N := xs.length + 1) (xs := xs) (news := [.int .i64 k]) rfl rfl ((HO.out.alloc _).alloc _) (HS.out _ _) rfl (by unfold maxLen; omega) (by omega) (by simp at hwb ⊢; omega) ?_; intro A2 c2 w2 r1 r2 r3; have HF := Lib.hid (out_app (HB.out.trans (((below_alloc _ _).trans ((below_alloc _ _).mono (by simp))).mono HB.out.size)) rfl r1 r2); clear r1 r2 r3)
        go_roundw
        case rel => exact ⟨k + 1, by omega, by go_num, by rw [HY.out, List.map_append, HXS.out]; exact HF.out⟩
        case measure => simp [intOf]; omega
      · have hq1 : (rl == s) = false := by simp [hq]
        have HN := Lib.hid (HN.out hq)
        have HF := Lib.hid (OutAt.later ⟨A, oc, rfl, HO.out, HB.out⟩ (below_alloc _ (.cells #[.int .i64 rl, .slice RA rn rc] 39)))
        clear hq
        go_wp2
        go_roundw
        case rel => exact ⟨k + 1, by omega, by go_num, by rw [HN.out]; exact HF.out⟩
        case measure => simp [intOf]; omega
    · obtain rfl : k = l.length := by omega
      go_wp2
      go_ret
      exact ⟨_, rfl, A, oc, rfl, HO.out, HB.out⟩
end Go.Proofs.YtdbmeocpjopdhaaGreatDoor

namespace Go.Proofs.YtdbmeocpjopdhaaGreatDoor
open Go.RowKit
set_option linter.unusedVariables false
theorem nan_any (x : Int) (w : World) : Calls Tryz.prog 89 #[.int .i64 x] w fun e w' => e = .returned (.bool false) ∧ w' = w := by
  go_enter Tryz.func89, Tryz.ntmps89
  go_wp2
  go_ret
  simp
theorem less_any (x y : Int) (w : World) : Calls Tryz.prog 59 #[.int .i64 x, .int .i64 y] w fun e w' => e = .returned (.bool (decide (x < y))) ∧ ∃ d, w' = w.drewN d := by
  have HN := Lib.hid (fun z => nan_any z w)
  go_enter Tryz.func59, Tryz.ntmps59
  go_wp2_with (go_at_call 89; refine (HN.out _).mono ?_; rintro e w' ⟨rfl, rfl⟩)
  go_ret
  exact ⟨rfl, 0, rfl⟩
def AscFrom (l : List Int) (k : Nat) : Prop := ∀ (j : Nat) (x y : Int), k ≤ j + 1 → l[j]? = some x → l[j + 1]? = some y → x ≤ y
theorem AscFrom.start (l : List Int) : AscFrom l l.length := fun j x y h _ hy => by
  have := (List.getElem?_eq_some_iff.1 hy).1
  omega
theorem AscFrom.next {l : List Int} {m : Nat} {x y : Int} (h : AscFrom l (m + 1 + 1)) (hx : l[m]? = some x) (hy : l[m + 1]? = some y) (hxy : ¬ y < x) : AscFrom l (m + 1) := by
  intro j x' y' hj h1 h2
  by_cases e : j = m
  · subst e
    rw [hx] at h1; rw [hy] at h2; cases h1; cases h2; omega
  · exact h j x' y' (by omega) h1 h2
open Classical in
theorem AscFrom.all {l : List Int} (h : AscFrom l 1) : decide (Asc l) = true := by
  rw [decide_eq_true_eq]
  exact fun j x y h1 h2 => h j x y (by omega) h1 h2
open Classical in
theorem asc_not {l : List Int} {m : Nat} {x y : Int} (hx : l[m]? = some x) (hy : l[m + 1]? = some y) (hxy : y < x) : decide (Asc l) = false := by
  rw [decide_eq_false_iff_not]
  intro h
  have := h m x y hx hy
  omega
open Classical in
theorem asc_nil {l : List Int} (h : l.length = 0) : decide (Asc l) = true := by
  rw [List.length_eq_zero_iff] at h
  subst h
  rw [decide_eq_true_eq]
  intro j x y h1
  simp at h1
set_option maxRecDepth 100000 in
set_option maxHeartbeats 1600000 in
open Classical in
theorem sorted_any {w : World} {v : Value} {l : List Int} (h : Arr IntV w v l) : Calls Tryz.prog 35 #[v] w (Says w (decide (Asc l))) := by
  obtain ⟨⟨A, c, rfl, hc⟩, hs⟩ := h
  by_cases h0 : l.length = 0
  · rw [asc_nil h0, h0]
    go_enter Tryz.func35, Tryz.ntmps35
    go_wp2
    go_loopw [3] (fun i wr => i = .int .i64 (-1) ∧ wr = w) (fun _ _ => 0)
    case atStart => exact ⟨rfl, rfl⟩
    case round =>
      obtain ⟨rfl, rfl⟩ := hrel
      go_wp2
      go_ret
      exact ⟨rfl, Below.refl _ _⟩
  · have HC := Lib.hid hc
    have HL := Lib.hid (fun x y z => less_any x y z)
    clear hc
    obtain ⟨n, hn⟩ : ∃ n, l.length = n + 1 := ⟨l.length - 1, by omega⟩
    have hst : AscFrom l (n + 1) := by rw [← hn]; exact AscFrom.start l
    have HST := Lib.hid hst
    have HN := Lib.hid hn
    rw [hn] at hs ⊢
    clear hst h0 hn
    go_enter Tryz.func35, Tryz.ntmps35
    go_wp2
    go_loopw [3] (fun i wr => ∃ k : Nat, k ≤ n ∧ i = .int .i64 k ∧ Hid (AscFrom l (k + 1)) ∧ Hid (∃ q, wr = w.drewN q)) (fun i _ => (intOf i).toNat)
    case atStart => exact ⟨n, Nat.le_refl _, by go_num, HST, Lib.hid ⟨0, rfl⟩⟩
    case round =>
      obtain ⟨k, hk, rfl, HA, HD⟩ := hrel
      by_cases hpos : 0 < k
      · obtain ⟨m, rfl⟩ : ∃ m, k = m + 1 := ⟨k - 1, by omega⟩
        have hx := List.getElem?_eq_getElem (show m < l.length by have := HN.out; omega)
        have hy := List.getElem?_eq_getElem (show m + 1 < l.length by have := HN.out; omega)
        generalize l[m]'(by have := HN.out; omega) = x at hx
        generalize l[m + 1]'(by have := HN.out; omega) = y at hy
        obtain ⟨b, off, hA, hlt0, h1⟩ := HC.out m x hx
        obtain ⟨b', off', hA', _, h2⟩ := HC.out (m + 1) y hy
        subst hA
        cases hA'
        have e1 : wr.cell? ⟨b, off + m, none⟩ = some (.int .i64 x) := by obtain ⟨q, rfl⟩ := HD.out; exact h1
        have e2 : wr.cell? ⟨b, off + (m + 1), none⟩ = some (.int .i64 y) := by obtain ⟨q, rfl⟩ := HD.out; exact h2
        have hm1 : ((m + 1 : Nat) : Int) - 1 = (m : Int) := by omega
        have HX := Lib.hid hx
        have HY := Lib.hid hy
        clear hx hy h1 h2
        by_cases hxy : y < x
        · have HNO := Lib.hid (asc_not HX.out HY.out hxy)
          have hd : decide (y < x) = true := decide_eq_true hxy
          have HLL := Lib.hid (HL.out y x)
          rw [hd] at HLL
          clear hxy hd
          go_wp2
          go_quiet ((go_at_call 59; exact Calls.quiet_of (HLL.out _)))
          go_wp2
          go_ret
          refine ⟨ret_bool HNO.out.symm, ?_⟩
          obtain ⟨q, rfl⟩ := HD.out
          exact below_draws (below_draws (Below.refl _ w) _) _
        · have HNX := Lib.hid (HA.out.next HX.out HY.out hxy)
          have hd : decide (y < x) = false := decide_eq_false hxy
          have HLL := Lib.hid (HL.out y x)
          rw [hd] at HLL
          clear hxy hd
          go_wp2
          go_quiet ((go_at_call 59; exact Calls.quiet_of (HLL.out _)))
          have HDD : Hid (∃ q, wr.drewN nq = w.drewN q) := Lib.hid (by
            obtain ⟨q, hq⟩ := HD.out
            exact ⟨q + nq, by rw [hq, World.drewN_drewN]⟩)
          go_wp2
          go_roundw
          case rel => exact ⟨m, by omega, by go_num, HNX, HDD⟩
          case measure => simp [intOf]
      · obtain rfl : k = 0 := by omega
        have HNX := Lib.hid HA.out.all
        go_wp2
        go_ret
        refine ⟨ret_bool HNX.out.symm, ?_⟩
        obtain ⟨q, rfl⟩ := HD.out
        exact below_draws (Below.refl _ w) _
theorem ordq_any {y : World} {B : Nat} {s : Int} (r : Ru) (hc : y.cell? ⟨B, 0, none⟩ = some (.int .i64 s)) : Calls Tryz.prog 34 #[RuV r, .pointer (some ⟨B, 0, none⟩)] y (Says y (Gm.left s r)) := by
  have hB := World.block_lt_of_cell? y _ hc
  unfold RuV Gm.left
  generalize r.left = rl
  generalize r.v = rv
  go_enter Tryz.func34, Tryz.ntmps34
  go_wp2
  go_ret
  exact ⟨rfl, below_alloc _ _⟩
/-- Places of the first rules of the first k nonterminals. -/
def Gm.firstsTo (g : Gm) (k : Nat) : List Int := (List.range k).map fun i => (g.first i : Int)
theorem Gm.firstsTo_next (g : Gm) (k : Nat) : g.firstsTo (k + 1) = g.firstsTo k ++ [(g.first k : Int)] := by unfold Gm.firstsTo; rw [List.range_succ, List.map_append]; rfl
theorem Gm.firstsTo_len (g : Gm) (k : Nat) : (g.firstsTo k).length = k := by unfold Gm.firstsTo; simp
theorem first_idx (g : Gm) (k : Nat) : (idxL (Gm.left ((g.T.length : Int) + 1 + k)) g.R = (g.first k : Int)) ∨ (idxL (Gm.left ((g.T.length : Int) + 1 + k)) g.R = -1 ∧ g.first k = g.R.length) := by
  unfold idxL Gm.first
  cases h : g.R.any (Gm.left ((g.T.length : Int) + 1 + k)) with
  | true => left; rw [if_pos rfl]
  | false =>
    right
    rw [if_neg (by simp)]
    refine ⟨rfl, List.findIdx_eq_length.2 fun x hx => ?_⟩
    cases hq : Gm.left ((g.T.length : Int) + 1 + k) x with
    | false => rfl
    | true =>
      have : g.R.any (Gm.left ((g.T.length : Int) + 1 + k)) = true := List.any_eq_true.2 ⟨x, hx, hq⟩
      rw [h] at this
      cases this
set_option maxRecDepth 100000 in
set_option maxHeartbeats 3200000 in
theorem ord_any {w : World} {v : Value} {g : Gm} (h : GrR w v g) : Calls Tryz.prog 8 #[v] w (Says w g.ordered) := by
  have hsm := h.small
  have hT20 := hsm.2.2.1
  have hN20 := hsm.2.2.2.1
  have hR20 := hsm.2.2.2.2.1
  have HG := Lib.hid (GBox.new w 26 v)
  obtain ⟨AT, cT, AN, cN, AR, cR, rfl, hT, hN, hR⟩ := h.open_
  have HIDX : Hid (∀ y (k : Nat), Below w.heap.size w y → Calls Tryz.prog 33 #[.slice AR g.R.length cR, .func (.func 34) #[] #[.pointer (some ⟨y.heap.size, 0, none⟩)]] (y.alloc (.cells #[.int .i64 ((g.T.length : Int) + 1 + k)] 3)) fun e w' => e = .returned (.int .i64 (idxL (Gm.left ((g.T.length : Int) + 1 + k)) g.R)) ∧ Below (y.alloc (.cells #[.int .i64 ((g.T.length : Int) + 1 + k)] 3)).heap.size (y.alloc (.cells #[.int .i64 ((g.T.length : Int) + 1 + k)] 3)) w') := Lib.hid (by
    intro y k hy
    refine idxR_any (hR.later (hy.trans ((below_alloc y _).mono hy.size))) _ 34 #[.pointer (some ⟨y.heap.size, 0, none⟩)] (fun _ _ => by kernel_rfl) (fun x hx z hz => ordq_any x ?_)
    exact (hz.cell (p := ⟨y.heap.size, 0, none⟩) (by simp)).trans ((Blk.new y 3 _).cell 0))
  have HS : Hid (∀ (y : World) (o : Value), OutAt 3 (w.alloc (.cells #[.slice AT g.T.length cT, .slice AN g.N.length cN, .slice AR g.R.length cR, .int .i64 g.s] 26)) ((g.firstsTo g.N.length).map IntV) o y → Calls Tryz.prog 35 #[o] y (Says y g.ordered)) := Lib.hid (fun y o ho => by
    have := sorted_any (ho.arr (by rw [g.firstsTo_len]; omega))
    exact this)
  have HF1 := Lib.hid (fun k => first_idx g k)
  have HF2 := Lib.hid (fun k => g.firstsTo_next k)
  have HF3 := Lib.hid (fun k => g.firstsTo_len k)
  have HF0 : Hid (g.firstsTo 0 = []) := Lib.hid rfl
  have hEl := ElInt
  clear h hT hN hR hsm
  generalize g.R.length = nR at *
  generalize g.T.length = nT at *
  generalize g.N.length = nN at *
  generalize g.s = gs at *
  go_enter Tryz.func8, Tryz.ntmps8
  go_wp2
  go_loopw [3, 10] (fun o i wr => ∃ k : Nat, k ≤ nN ∧ i = .int .i64 k ∧ OutAt 3 (w.alloc (.cells #[.slice AT nT cT, .slice AN nN cN, .slice AR nR cR, .int .i64 gs] 26)) ((g.firstsTo k).map IntV) o wr) (fun _ i _ => nN - (intOf i).toNat)
  case atStart => exact ⟨0, Nat.zero_le _, rfl, by rw [HF0.out]; exact OutAt.nil _ _⟩
  case round =>
    obtain ⟨k, hk, rfl, A, oc, rfl, ho, hbw⟩ := hrel
    have HO := Lib.hid ho
    have HB := Lib.hid hbw
    have hwb := hbw.size
    have hw2 : Below w.heap.size w wr := (below_alloc w _).trans (hbw.mono (by simp))
    have hxl : ((g.firstsTo k).map IntV).length = k := by rw [List.length_map, HF3.out]
    obtain ⟨d0, d1, d2, d3⟩ := (HG.out.later hbw).four
    have hbz : w.heap.size < wr.heap.size := by simp at hwb; omega
    by_cases hlt : k < nN
    · have HI := Lib.hid (HIDX.out wr k hw2)
      have HN := Lib.hid (HF2.out k)
      have hf := HF1.out k
      generalize hxs : (g.firstsTo k).map IntV = xs at *
      have HXS := Lib.hid hxs
      generalize idxL (Gm.left ((nT : Int) + 1 + k)) g.R = q at *
      generalize g.first k = f at *
      clear ho hbw hw2 hxs
      rw [hxl] at HO ⊢
      rcases hf with rfl | ⟨rfl, rfl⟩
      · go_wp2_with fail
        refine HI.out.mono ?_
        rintro e w1 ⟨rfl, hb1⟩
        have hb2 := (below_alloc wr (.cells #[.int .i64 ((nT : Int) + 1 + k)] 3)).trans (hb1.mono (by simp))
        have HB2 := Lib.hid (HB.out.trans (hb2.mono HB.out.size))
        have HO2 := Lib.hid (own_below HO.out hb2)
        have HS1 := Lib.hid (one_src 3 (.int .i64 f) rfl)
        have hws := HB2.out.size
        clear hb1 hb2 d0 d1 d2 d3
        go_wp2_with (at_builtin; refine wpList_app ElInt (.tmp 28) (.tmp 30) rfl rfl (base := (w.alloc (.cells #[.slice AT nT cT, .slice AN nN cN, .slice AR nR cR, .int .i64 gs] 26)).heap.size) (n := k) (m := 1) (N := k + 1) (xs := xs) (news := [.int .i64 f]) rfl rfl (HO2.out.alloc _) (HS1.out _) rfl (by unfold maxLen; omega) (by omega) (by simp at hws ⊢; omega) ?_; intro A2 c2 w2 r1 r2 r3; have HF := Lib.hid (out_app (HB2.out.trans ((below_alloc _ _).mono HB2.out.size)) (by simp [hxl]) r1 r2); clear r1 r2 r3)
        go_roundw
        case rel => exact ⟨k + 1, by omega, by go_num, by rw [HN.out, List.map_append, HXS.out]; exact HF.out⟩
        case measure => simp [intOf]; omega
      · go_wp2_with fail
        refine HI.out.mono ?_
        rintro e w1 ⟨rfl, hb1⟩
        have hb2 := (below_alloc wr (.cells #[.int .i64 ((nT : Int) + 1 + k)] 3)).trans (hb1.mono (by simp))
        have HB2 := Lib.hid (HB.out.trans (hb2.mono HB.out.size))
        have HO2 := Lib.hid (own_below HO.out hb2)
        have HS1 := Lib.hid (one_src 3 (.int .i64 f) rfl)
        have hws := HB2.out.size
        obtain ⟨d0, d1, d2, d3⟩ := (HG.out.later HB2.out).four
        have hbz : w.heap.size < w1.heap.size := by simp at hws; omega
        clear hb1 hb2
        go_wp2_with (at_builtin; refine wpList_app ElInt (.tmp 28) (.tmp 30) rfl rfl (base := (w.alloc (.cells #[.slice AT nT cT, .slice AN nN cN, .slice AR f cR, .int .i64 gs] 26)).heap.size) (n := k) (m := 1) (N := k + 1) (xs := xs) (news := [.int .i64 f]) rfl rfl (HO2.out.alloc _) (HS1.out _) rfl (by unfold maxLen; omega) (by omega) (by simp at hws ⊢; omega) ?_; intro A2 c2 w2 r1 r2 r3; have HF := Lib.hid (out_app (HB2.out.trans ((below_alloc _ _).mono HB2.out.size)) (by simp [hxl]) r1 r2); clear r1 r2 r3)
        go_roundw
        case rel => exact ⟨k + 1, by omega, by go_num, by rw [HN.out, List.map_append, HXS.out]; exact HF.out⟩
        case measure => simp [intOf]; omega
    · obtain rfl : k = nN := by omega
      have HSS := Lib.hid (HS.out wr _ ⟨A, oc, rfl, HO.out, HB.out⟩)
      clear ho hbw HO HB
      generalize (g.firstsTo k).map IntV = xs at *
      rw [hxl] at HSS ⊢
      clear hxl
      go_wp2_with fail
      refine HSS.out.mono ?_
      rintro e w1 ⟨rfl, hb1⟩
      have HB1 := Lib.hid (hw2.trans (hb1.mono hw2.size))
      clear hb1 d0 d1 d2 d3
      go_wp2
      go_ret
      exact ⟨rfl, HB1.out⟩
end Go.Proofs.YtdbmeocpjopdhaaGreatDoor

namespace Go.Proofs.YtdbmeocpjopdhaaGreatDoor
open Go.RowKit
set_option linter.unusedVariables false
theorem Tryz.infoStr : (Tryz.prog.info? 9).map (fun i => (i.zero, i.size, i.bytes)) = some (some (.string ⟨#[]⟩), 1, 16) := by kernel_rfl
theorem ElStr : El Tryz.prog 23 9 1 16 := El.of Tryz.underlying23 Tryz.infoStr rfl (by decide)
theorem str_one (s : ByteArray) : (StrV s).oneCell' = true := rfl
set_option maxRecDepth 100000 in
/-- A row that is there, with nothing in it. -/
theorem grow_any (n : Nat) (hn : n ≤ 4000000) (w : World) : Calls Tryz.prog 86 #[.slice none 0 0, .int .i64 n] w fun e w' => ∃ o, e = .returned o ∧ OutAt 9 w [] o w' := by
  by_cases h0 : n = 0
  · subst h0
    go_enter Tryz.func86, Tryz.ntmps86
    go_wp2
    go_ret
    exact ⟨_, rfl, OutAt.nil _ _⟩
  · obtain ⟨i, hi, hz0, hz1, hz2⟩ := info_parts Tryz.infoStr
    have hr := Lib.run_append_nil_zeros (P := Tryz.prog) w 23 3 23 9 i (.string ⟨#[]⟩) .i64 .i64 Tryz.underlying23 Tryz.underlying3 hi hz0 n (by omega) (by omega) (by omega) (by rw [hz2]; omega)
    have hge := grownCap_ge w n 0 9
    have hcm : grownCap w n 0 9 ≤ maxLen := grownCap_le_maxLen w n 0 9 (by unfold maxLen; omega)
    generalize grownCap w n 0 9 = cap at *
    have hc0 : (Builtin.zeroCells (Value.string ⟨#[]⟩).cells n ++ Builtin.zeroCells (Value.string ⟨#[]⟩).cells (cap - n)).size = cap := by
      simp [Builtin.zeroCells, Value.cells]; omega
    generalize Builtin.zeroCells (Value.string ⟨#[]⟩).cells n ++ Builtin.zeroCells (Value.string ⟨#[]⟩).cells (cap - n) = cs at *
    have hpos : 0 < (n : Int) := by omega
    have HR := Lib.hid hr
    clear hr
    go_enter Tryz.func86, Tryz.ntmps86
    go_wp2_with (at_builtin; refine Lib.wpList_append_run _ rfl _ _ _ _ rfl _ _ rfl rfl _ _ HR.out ?_)
    go_ret
    refine ⟨_, rfl, some ⟨w.heap.size, 0, none⟩, cap, rfl, ?_, ?_⟩
    · exact own_made (W := w.drew) rfl (Nat.le_refl _) hcm (by omega)
    · exact below_drew (below_alloc w _)
def CatAt (w : World) (xs ys : List Value) (o i : Value) (wr : World) : Prop :=
  (i = .int .i64 0 ∧ OutAt 9 w [] o wr) ∨ (i = .int .i64 1 ∧ OutAt 9 w xs o wr) ∨ (i = .int .i64 2 ∧ OutAt 9 w (xs ++ ys) o wr)
set_option maxRecDepth 100000 in
set_option maxHeartbeats 3200000 in
theorem concat_any {w : World} {u v : Value} {a b : List ByteArray} {B : Nat} (ha : Arr StrV w u a) (hb : Arr StrV w v b) (hla : a.length ≤ 1048576) (hlb : b.length ≤ 1048576) (hu : w.cell? ⟨B, 0, none⟩ = some u) (hv : w.cell? ⟨B, 1, none⟩ = some v) :
    Calls Tryz.prog 53 #[.slice (some ⟨B, 0, none⟩) 2 2] w fun e w' => ∃ o, e = .returned o ∧ OutAt 9 w ((a ++ b).map StrV) o w' := by
  have HSA := Lib.hid (fun y (hy : Below w.heap.size w y) => (ha.later hy).src str_one)
  have HSB := Lib.hid (fun y (hy : Below w.heap.size w y) => (hb.later hy).src str_one)
  have HG := Lib.hid (fun n hn => grow_any n hn w)
  have hB := World.block_lt_of_cell? w _ hu
  obtain ⟨⟨A1, c1, rfl, _⟩, _⟩ := ha
  obtain ⟨⟨A2, c2, rfl, _⟩, _⟩ := hb
  have hxl : (a.map StrV).length = a.length := List.length_map _
  have hyl : (b.map StrV).length = b.length := List.length_map _
  rw [List.map_append]
  generalize a.map StrV = xs at *
  generalize b.map StrV = ys at *
  generalize a.length = n at *
  generalize b.length = m at *
  subst hxl
  subst hyl
  have HGR := Lib.hid (HG.out (xs.length + ys.length) (by omega))
  have hEl := ElStr
  clear HG
  go_enter Tryz.func53, Tryz.ntmps53
  go_wp2
  go_loop [3, 11] (fun s i => (i = .int .i64 0 ∧ s = .int .i64 0) ∨ (i = .int .i64 1 ∧ s = .int .i64 xs.length) ∨ (i = .int .i64 2 ∧ s = .int .i64 ((xs.length + ys.length : Nat) : Int))) (fun _ i => 2 - (intOf i).toNat)
  case atStart => exact .inl ⟨rfl, rfl⟩
  case round =>
    rcases hrel with ⟨rfl, rfl⟩ | ⟨rfl, rfl⟩ | ⟨rfl, rfl⟩
    · go_wp2
      go_round
      case rel => exact .inr (.inl ⟨rfl, rfl⟩)
      case measure => simp [intOf]
    · go_wp2
      go_round
      case rel => exact .inr (.inr ⟨rfl, by go_num⟩)
      case measure => simp [intOf]
    · go_wp2_with fail
      refine HGR.out.mono ?_
      rintro e w1 ⟨o, rfl, hO⟩
      have HO := Lib.hid hO
      clear hO
      go_wp2
      go_loopw [6, 27] (fun o i wr => Hid (CatAt w xs ys o i wr)) (fun _ i _ => 2 - (intOf i).toNat)
      case atStart => exact Lib.hid (.inl ⟨rfl, HO.out⟩)
      case round =>
        rcases hrel.out with ⟨rfl, A, c, rfl, ho, hbw⟩ | ⟨rfl, A, c, rfl, ho, hbw⟩ | ⟨rfl, hO2⟩
        · have HO := Lib.hid ho
          have HB := Lib.hid hbw
          have e0 := (hbw.cell (p := ⟨B, 0, none⟩) hB).trans hu
          have HS := Lib.hid (HSA.out wr hbw)
          have hws := hbw.size
          clear ho hbw hrel
          go_wp2_with (at_builtin; refine wpList_app ElStr (.tmp 31) (.tmp 32) rfl rfl (base := w.heap.size) (n := 0) (m := xs.length) (N := xs.length) (xs := []) (news := xs) rfl rfl HO.out HS.out (by omega) (by unfold maxLen; omega) (by omega) hws ?_; intro A2 c2 w2 r1 r2 r3; have HF := Lib.hid (out_app HB.out (xs := []) (by simp) r1 r2); clear r1 r2 r3)
          go_roundw
          case rel => exact Lib.hid (.inr (.inl ⟨rfl, HF.out⟩))
          case measure => simp [intOf]
        · have HO := Lib.hid ho
          have HB := Lib.hid hbw
          have e1 := (hbw.cell (p := ⟨B, 1, none⟩) hB).trans hv
          have HS := Lib.hid (HSB.out wr hbw)
          have hws := hbw.size
          clear ho hbw hrel
          go_wp2_with (at_builtin; refine wpList_app ElStr (.tmp 31) (.tmp 32) rfl rfl (base := w.heap.size) (n := xs.length) (m := ys.length) (N := xs.length + ys.length) (xs := xs) (news := ys) rfl rfl HO.out HS.out rfl (by unfold maxLen; omega) (by omega) hws ?_; intro A2 c2 w2 r1 r2 r3; have HF := Lib.hid (out_app HB.out rfl r1 r2); clear r1 r2 r3)
          go_roundw
          case rel => exact Lib.hid (.inr (.inr ⟨rfl, HF.out⟩))
          case measure => simp [intOf]
        · have HO2 := Lib.hid hO2
          clear hO2 hrel
          go_wp2
          go_ret
          exact ⟨_, rfl, HO2.out⟩
end Go.Proofs.YtdbmeocpjopdhaaGreatDoor

namespace Go.Proofs.YtdbmeocpjopdhaaGreatDoor
open Go.RowKit Go.Maps
set_option linter.unusedVariables false
theorem lawStr : Keyed Tryz.prog 9 := string_keyed Tryz.underlying9
theorem zeroInt (w : World) : (zeroValue 3).run Tryz.prog w = .ok (.int .i64 0) w := by kernel_rfl
def kl (s : ByteArray) : Lit := .string s.data.toList
theorem kl_inj {a b : ByteArray} (h : kl a = kl b) : a = b := by
  unfold kl at h
  injection h with h
  exact ByteArray.ext (Array.ext' h)
/-- What a map of counts knows of the first k of a list. -/
structure Cnt (D : DataW Unit) (L : List ByteArray) (k : Nat) : Prop where
  has : ∀ s, Maps.has D (kl s) = true ↔ s ∈ L.take k
  le : Maps.size D ≤ k
  nodup : Maps.size D = k ↔ (L.take k).Nodup
theorem Cnt.start (L : List ByteArray) : Cnt (.map []) L 0 := ⟨fun s => by simp [Maps.has], by simp [Maps.size], by simp [Maps.size]⟩
theorem key_lit (s : ByteArray) : WideAt.IsKeyLit (kl s) := by unfold kl; simp [WideAt.IsKeyLit]
theorem Cnt.next {D : DataW Unit} {L : List ByteArray} {k : Nat} {s : ByteArray} (h : Cnt D L k) (hs : L[k]? = some s) (ht : Maps.Tidy D) (d : DataW Unit) : Cnt (D.put (kl s) d) L (k + 1) := by
  obtain ⟨hk, rfl⟩ := List.getElem?_eq_some_iff.1 hs
  have htk : L.take (k + 1) = L.take k ++ [L[k]] := List.take_succ_eq_append_getElem hk
  have hsz := Maps.size_put (k := kl L[k]) ht d
  refine ⟨fun s => ?_, ?_, ?_⟩
  · rw [htk]
    by_cases e : s = L[k]
    · subst e
      rw [Maps.has_put_same ht.isMap (key_lit _)]
      exact ⟨fun _ => List.mem_append_right _ (List.mem_singleton.2 rfl), fun _ => rfl⟩
    · rw [Maps.has_put_other (fun hh => e (kl_inj hh)), h.has, List.mem_append, List.mem_singleton]
      exact ⟨.inl, fun hh => hh.resolve_right e⟩
  · have := h.le
    rw [hsz]; split <;> omega
  · rw [htk, List.nodup_append, hsz]
    by_cases hm : L[k] ∈ L.take k
    · rw [if_pos ((h.has _).2 hm)]
      have := h.le
      constructor
      · intro hh; omega
      · rintro ⟨_, _, h3⟩
        exact absurd rfl (h3 L[k] hm L[k] (by simp))
    · rw [if_neg (fun hh => hm ((h.has _).1 hh))]
      constructor
      · intro hh
        refine ⟨h.nodup.1 (by omega), by simp, ?_⟩
        intro a ha b hb
        rw [List.mem_singleton.1 hb]
        rintro rfl
        exact hm ha
      · rintro ⟨h1, _, _⟩
        have := h.nodup.2 h1
        omega
theorem Cnt.all {D : DataW Unit} {L : List ByteArray} (h : Cnt D L L.length) : ((Maps.size D : Int) == (L.length : Int)) = decide L.Nodup := by
  have := h.nodup
  rw [List.take_length] at this
  rw [Bool.eq_iff_iff, beq_iff_eq, decide_eq_true_eq, ← this]
  omega
theorem below_more {w y : World} (h : Below w.heap.size w y) (o : Obj) : Below w.heap.size w (y.alloc o) := h.alloc h.size o
/-- A row beside a map that turns. -/
theorem arr_beside {w wr : World} {o : Value} {L : List ByteArray} {B : Nat} {es : Array MapEntry} {clock : Nat} (h : Arr StrV w o L) (hB : w.heap[B]? = some (.map es clock)) (hg : w.grownBy wr (some B)) : Arr StrV wr o L := by
  obtain ⟨⟨A, c, hv, hc⟩, hs, hro⟩ := h
  refine ⟨⟨A, c, hv, fun k x hx => ?_⟩, hs, hro⟩
  obtain ⟨b, off, hA, hlt, hcell⟩ := hc k x hx
  refine ⟨b, off, hA, Nat.lt_of_lt_of_le hlt hg.size, ?_⟩
  have hne : b ≠ B := by
    rintro rfl
    simp [World.cell?, hB] at hcell
  rw [World.cell?_of_block (w := w) (hg.block b hlt (by simp [hne]))]
  exact hcell
theorem box_beside {w wr : World} {b B : Nat} {v : Value} (h : GBox w b v) (hne : b ≠ B) (hg : w.grownBy wr (some B)) : GBox wr b v :=
  ⟨Nat.lt_of_lt_of_le h.lt hg.size, fun j hj => by rw [World.cell?_of_block (w := w) (hg.block b h.lt (by simp [hne]))]; exact h.cell j hj⟩
theorem owns_below {w w' : World} {B n : Nat} {D : DataW Unit} (h : w.ownsMap Tryz.prog 9 (plainElem Tryz.prog 3) B n D) (hb : Below w.heap.size w w') : w'.ownsMap Tryz.prog 9 (plainElem Tryz.prog 3) B n D := by
  obtain ⟨es, clock, h1, h2, h3, h4⟩ := h
  exact ⟨es, clock, by rw [hb.block B (Array.getElem?_eq_some_iff.1 h1).1]; exact h1, h2, h3, h4⟩
set_option maxRecDepth 100000 in
set_option maxHeartbeats 6400000 in
theorem once_any {w : World} {v : Value} {g : Gm} (h : GrR w v g) : Calls Tryz.prog 25 #[v] w (Says w g.once) := by
  have hsm := h.small
  have hT20 := hsm.2.2.1
  have hN20 := hsm.2.2.2.1
  have hmm := @run_makeMap Tryz.prog
  have HG := Lib.hid (GBox.new w 26 v)
  have HTOP := Lib.hid (fun y (hy : Below w.heap.size w y) => top_any (h.later hy))
  obtain ⟨AT, cT, AN, cN, AR, cR, rfl, hT, hN, hR⟩ := h.open_
  have HCON : Hid (∀ y B, Below w.heap.size w y → y.cell? ⟨B, 0, none⟩ = some (.slice AT g.T.length cT) → y.cell? ⟨B, 1, none⟩ = some (.slice AN g.N.length cN) → Calls Tryz.prog 53 #[.slice (some ⟨B, 0, none⟩) 2 2] y fun e w' => ∃ o, e = .returned o ∧ Arr StrV w' o (g.T ++ g.N) ∧ Below y.heap.size y w') := Lib.hid (fun y B hy h0 h1 =>
    (concat_any (hT.later hy) (hN.later hy) hT20 hN20 h0 h1).mono fun e w' ⟨o, he, ho⟩ => ⟨o, he, ho.arr (by rw [List.length_append]; omega), ho.elim fun _ ⟨_, _, _, hb⟩ => hb⟩)
  have HSZ : Hid (∀ s ∈ g.T ++ g.N, s.size ≤ maxLen) := Lib.hid (fun s hs => by
    unfold maxLen
    rcases List.mem_append.1 hs with hh | hh
    · have := hsm.1 s hh; omega
    · have := hsm.2.1 s hh; omega)
  have HLEN : Hid ((g.T ++ g.N).length = g.T.length + g.N.length) := Lib.hid List.length_append
  have HONCE : Hid (g.once = decide (g.T ++ g.N).Nodup) := Lib.hid rfl
  clear h hT hN hR hsm
  generalize g.T ++ g.N = L at *
  generalize g.T.length = nT at *
  generalize g.N.length = nN at *
  generalize g.R.length = nR at *
  generalize g.s = gs at *
  generalize g.once = res at *
  go_enter Tryz.func25, Tryz.ntmps25
  go_wp2_with fail
  refine (HCON.out _ _ (below_more (below_more (below_alloc w _) _) _) ?_ ?_).mono ?_
  · exact (World.cell?_alloc_at _ _ _ _ (by simp)).trans rfl
  · exact (World.cell?_alloc_at _ _ _ _ (by simp)).trans rfl
  rintro e w2 ⟨o, rfl, ho, hb2⟩
  obtain ⟨⟨A, c, rfl, hc⟩, _⟩ := id ho
  have HARR := Lib.hid ho
  have hmap0 := World.ownsMap_made (w.alloc (.cells #[.slice AT nT cT, .slice AN nN cN, .slice AR nR cR, .int .i64 gs] 26)) Tryz.prog 9 (plainElem (H := Unit) Tryz.prog 3)
  have hB1 : (w.alloc (.cells #[.slice AT nT cT, .slice AN nN cN, .slice AR nR cR, .int .i64 gs] 26)).heap.size = w.heap.size + 1 := by simp
  rw [hB1] at hmap0
  have HOWN := Lib.hid (owns_below (owns_below hmap0 (below_alloc _ _)) hb2)
  have HB2 := Lib.hid ((below_more (below_more (below_alloc w _) _) _).trans (hb2.mono (below_more (below_more (below_alloc w _) _) _).size))
  have HG2 := Lib.hid ((((HG.out.later (below_alloc _ _)).later (below_alloc _ _))).later hb2)
  have hlen := HLEN.out
  clear hb2 hmap0 hB1 ho hc
  go_wp2
  go_loopw [14] (fun i wr => ∃ k : Nat, k ≤ L.length ∧ i = .int .i64 k ∧ Hid (w2.grownBy wr (some (w.heap.size + 1))) ∧ ∃ D : DataW Unit, Hid (wr.ownsMap Tryz.prog 9 (plainElem Tryz.prog 3) (w.heap.size + 1) k D) ∧ Hid (Cnt D L k)) (fun i _ => L.length - (intOf i).toNat)
  case atStart => exact ⟨0, Nat.zero_le _, rfl, Lib.hid (World.grownBy.refl _ _), _, HOWN, Lib.hid (Cnt.start L)⟩
  case round =>
    obtain ⟨k, hk, rfl, HGR, D, HO, HC⟩ := hrel
    have hws := HB2.out.size
    have hwr := HGR.out.size
    by_cases hlt : k < L.length
    · have hs := List.getElem?_eq_getElem hlt
      generalize L[k] = s at hs
      have HKEY := Lib.hid (WideMaps.keyOf_string_mk Tryz.underlying9 (HSZ.out s (List.mem_of_getElem? hs)))
      obtain ⟨es, clock, hbm, _⟩ := HOWN.out
      obtain ⟨⟨A', c', e, hc'⟩, _⟩ := arr_beside HARR.out hbm HGR.out
      cases e
      obtain ⟨b, off, rfl, hlt0, hcell⟩ := hc' k s hs
      have HC3 := Lib.hid (fun d => HC.out.next hs (HO.out.tidy lawStr) d)
      clear hbm hc' hs
      simp only [StrV] at hcell
      go_wp2_with (first
        | (at_lookup; refine wpList_lookup_own_int _ rfl _ _ 49 rfl 9 3 .i64 lawStr Tryz.underlying49 Tryz.underlying3 (zeroInt _) (w.heap.size + 1) k _ rfl HO.out _ _ rfl HKEY.out ?_; intro c hat hwc)
        | (at_mapUpdate; refine wpList_mapUpdate_own _ rfl _ _ _ 49 rfl 9 3 lawStr Tryz.underlying49 _ (w.heap.size + 1) k _ rfl HO.out (by unfold maxLen; omega) _ _ _ rfl rfl HKEY.out _ [] (plainElem_int Tryz.underlying3 (wrap64_wf _)) ?_; intro w3 hown3 hgrow3; have HGR3 := Lib.hid (HGR.out.trans hgrow3); have HO3 := Lib.hid hown3; clear hown3 hgrow3))
      go_roundw
      case rel => exact ⟨k + 1, by omega, by go_num, HGR3, _, HO3, Lib.hid (HC3.out _)⟩
      case measure => simp [intOf]; omega
    · obtain rfl : k = L.length := by omega
      have hb3 := HB2.out.grown HGR.out HB2.out.size (fun j hj => by cases hj; omega)
      obtain ⟨d0, d1, d2, d3⟩ := (box_beside HG2.out (by omega) HGR.out).four
      have HT := Lib.hid (HTOP.out wr hb3)
      have HALL := Lib.hid HC.out.all
      have HB3 := Lib.hid hb3
      clear hb3
      go_wp2_with (first
        | (at_len; refine wpList_len_own _ rfl _ 49 rfl 9 3 Tryz.underlying49 _ (w.heap.size + 1) L.length _ rfl HO.out ?_)
        | (go_at_call 31; refine HT.out.mono ?_; rintro e w4 ⟨rfl, hb4⟩; have HB4 := Lib.hid (HB3.out.trans (hb4.mono HB3.out.size)); clear hb4))
      go_ret
      refine ⟨ret_bool ?_, HB4.out⟩
      rw [HONCE.out, ← HALL.out, hlen]
      simp
end Go.Proofs.YtdbmeocpjopdhaaGreatDoor
