/- The rules of a left side: the program's and the document's. -/
import Derived.Test.YtdbmeocpjopdhaaG8
namespace Go.Proofs.Ytdbmeocpjopdhaa
open Go.RowKit
set_option linter.unusedVariables false
theorem Try.infoInt : (Try.prog.info? 3).map (fun i => (i.zero, i.size, i.bytes)) = some (some (.int .i64 0), 1, 8) := by kernel_rfl
theorem ElInt : El Try.prog 26 3 1 8 := El.of Try.underlying26 Try.infoInt rfl (by decide)
theorem own_below {w w' : World} {base : Nat} {e : TypeId} {size k : Nat} {v : Value} {xs : List Value} (h : w.ownsRow base e size v k xs) (hb : Below w.heap.size w w') : w'.ownsRow base e size v k xs := by
  refine ⟨h.1, ?_⟩
  rcases h.2 with hn | ⟨g, cap, cur, rfl, h1, h2, rest⟩
  · exact .inl hn
  · exact .inr ⟨g, cap, cur, rfl, h1, by rw [hb.block g (Array.getElem?_eq_some_iff.1 h2).1]; exact h2, rest⟩
/-- A row of the call's own that is being built. -/
def OutAt (T : TypeId) (w : World) (xs : List Value) (o : Value) (wr : World) : Prop := ∃ A c, o = .slice A xs.length c ∧ wr.ownsRow w.heap.size T 1 (.slice A xs.length c) xs.length xs ∧ Below w.heap.size w wr
theorem OutAt.nil (T : TypeId) (w : World) : OutAt T w [] (.slice none 0 0) w := ⟨none, 0, rfl, ⟨rfl, .inl ⟨rfl, rfl⟩⟩, Below.refl _ _⟩
theorem out_app {T : TypeId} {w wr w2 : World} {xs ys : List Value} {A : Option Addr} {N c : Nat} (hb : Below w.heap.size w wr) (hN : xs.length + ys.length = N) (r1 : w2.ownsRow w.heap.size T 1 (.slice A N c) N (xs ++ ys)) (r2 : Keeps w.heap.size [T] wr w2) : OutAt T w (xs ++ ys) (.slice A N c) w2 := by
  subst hN
  exact ⟨A, c, by rw [List.length_append], by rw [List.length_append]; exact r1, hb.trans (r2.below hb.size)⟩
theorem OutAt.later {T : TypeId} {w wr w2 : World} {xs : List Value} {o : Value} (h : OutAt T w xs o wr) (hb : Below wr.heap.size wr w2) : OutAt T w xs o w2 := by
  obtain ⟨A, c, ho, h1, h2⟩ := h
  exact ⟨A, c, ho, own_below h1 hb, h2.trans (hb.mono h2.size)⟩
/-- As it lies. -/
theorem OutAt.arr {α : Type} {E : α → Value} {T : TypeId} {w wr : World} {l : List α} {o : Value} (h : OutAt T w (l.map E) o wr) (hl : l.length ≤ 4611686018427387904) : Arr E wr o l := by
  obtain ⟨A, c, rfl, h1, h2⟩ := h
  rw [List.length_map] at h1 ⊢
  refine ⟨⟨A, c, rfl, fun k x hx => ?_⟩, hl, fun A' n' c' e => ?_⟩
  · rcases own_form h1 with ⟨e, h0⟩ | ⟨b, cap, e, hb, hlt, hcap, _⟩
    · have := (List.getElem?_eq_some_iff.1 hx).1
      omega
    · cases e
      have hk := (List.getElem?_eq_some_iff.1 hx).1
      refine ⟨b, 0, rfl, hlt, ?_⟩
      rw [Nat.zero_add, own_cell h1 k (by omega), List.getElem?_map, hx]
      rfl
  · cases e
    rcases own_form h1 with ⟨e, h0⟩ | ⟨b, cap, e, hb, hlt, hcap, _⟩
    · simp only [Value.slice.injEq] at e
      exact ⟨by omega, fun _ => e.2.2⟩
    · cases e
      exact ⟨hcap, fun e => by cases e⟩
theorem one_src (T : TypeId) (u : Value) (hu : u.oneCell' = true) (y : World) : SrcOK (y.alloc (.cells #[u] T)) (.slice (some ⟨y.heap.size, 0, none⟩) 1 1) 1 1 [u] :=
  SrcOK.blk (c := 1) (cs := [u]) (Blk.new y T _) rfl (fun x hx => by rw [List.mem_singleton.1 hx]; exact hu)
theorem one_src2 (T : TypeId) (u : Value) (hu : u.oneCell' = true) (y : World) (o : Obj) : SrcOK ((y.alloc o).alloc (.cells #[u] T)) (.slice (some ⟨y.heap.size + 1, 0, none⟩) 1 1) 1 1 [u] := by
  have h := one_src T u hu (y.alloc o)
  rwa [show (y.alloc o).heap.size = y.heap.size + 1 by simp] at h
/-- The numbers of rules of a left side, among the first k. -/
def ofTo (l : List Ru) (s : Int) (k : Nat) : List Int := ((List.range k).filter fun i => (l[i]?.map (Gm.left s)).getD false).map Int.ofNat
theorem ofTo_next {l : List Ru} {s : Int} {k : Nat} {r : Ru} (hr : l[k]? = some r) : ofTo l s (k + 1) = ofTo l s k ++ (if r.left = s then [(k : Int)] else []) := by
  unfold ofTo
  rw [List.range_succ, List.filter_append, List.map_append]
  congr 1
  by_cases h : r.left = s
  · simp [List.filter, hr, Gm.left, h]
  · have h2 : (r.left == s) = false := by simp [h]
    simp [List.filter, hr, Gm.left, h, h2]
theorem ofTo_yes {l : List Ru} {s : Int} {k : Nat} {r : Ru} (hr : l[k]? = some r) (h : r.left = s) : ofTo l s (k + 1) = ofTo l s k ++ [(k : Int)] := by rw [ofTo_next hr, if_pos h]
theorem ofTo_no {l : List Ru} {s : Int} {k : Nat} {r : Ru} (hr : l[k]? = some r) (h : ¬ r.left = s) : ofTo l s (k + 1) = ofTo l s k := by rw [ofTo_next hr, if_neg h, List.append_nil]
theorem ofTo_len (l : List Ru) (s : Int) (k : Nat) : (ofTo l s k).length ≤ k := by
  unfold ofTo
  rw [List.length_map]
  have := List.length_filter_le (fun i => (l[i]?.map (Gm.left s)).getD false) (List.range k)
  rwa [List.length_range] at this
def OfEnd (w : World) (v : Value) (xs : List Int) (e : Ending) (w' : World) : Prop := ∃ o, e = .returned o ∧ OutAt 3 (w.alloc (.cells v.cells 25)) (xs.map IntV) o w'
set_option maxRecDepth 100000 in
set_option maxHeartbeats 3200000 in
theorem of_any {w : World} {v : Value} {g : Gm} (h : GrR w v g) (s : Int) : Calls Try.prog 34 #[v, .int .i64 s] w (OfEnd w v (ofTo g.R s g.R.length)) := by
  have hsm := h.small.2.2.2.2.1
  have HG := Lib.hid (GBox.new w 25 v)
  obtain ⟨AT, cT, AN, cN, AR, cR, rfl, hT, hN, hR⟩ := h.open_
  obtain ⟨⟨A, c, hv, hc⟩, hs, hro⟩ := hR
  cases hv
  have HCELL := Lib.hid hc
  have hEl := ElInt
  clear h hT hN hro hc
  generalize g.R = l at *
  generalize g.T.length = nT at *
  generalize g.N.length = nN at *
  generalize g.s = gs at *
  go_enter Try.func34, Try.ntmps34
  go_wp2
  go_loopw [5, 11] (fun o i wr => ∃ k : Nat, k ≤ l.length ∧ i = .int .i64 k ∧ OutAt 3 (w.alloc (.cells #[.slice AT nT cT, .slice AN nN cN, .slice AR l.length cR, .int .i64 gs] 25)) ((ofTo l s k).map IntV) o wr) (fun _ i _ => l.length - (intOf i).toNat)
  case atStart => exact ⟨0, Nat.zero_le _, rfl, OutAt.nil _ _⟩
  case round =>
    obtain ⟨k, hk, rfl, A, oc, rfl, ho, hbw⟩ := hrel
    have HO := Lib.hid ho
    have HB := Lib.hid hbw
    have hwb := hbw.size
    have hlen := ofTo_len l s k
    have hbz : w.heap.size < wr.heap.size := by simp at hwb; omega
    by_cases hlt : k < l.length
    · have hr := List.getElem?_eq_getElem hlt
      generalize l[k] = r at hr
      obtain ⟨b, off, hA, hlt0, h1, h2, h3⟩ := HCELL.out k r hr
      subst hA
      obtain ⟨⟨RA, rc, hrv, _⟩, _⟩ := h3
      rw [hrv] at h2
      have hw2 : Below w.heap.size w wr := (below_alloc w _).trans (hbw.mono (by simp))
      have e1 := (hw2.cell (p := ⟨b, off + k * 2, none⟩) hlt0).trans h1
      have e2 := (hw2.cell (p := ⟨b, off + k * 2 + 1, none⟩) hlt0).trans h2
      have HY := Lib.hid (fun e => ofTo_yes (s := s) hr e)
      have HN := Lib.hid (fun e => ofTo_no (s := s) hr e)
      clear h1 h2 hr ho hbw hw2 hrv
      generalize r.left = rl at *
      generalize r.right.length = rn at *
      by_cases hq : rl = s
      · have hq1 : (rl == s) = true := by simp [hq]
        have HY := Lib.hid (HY.out hq)
        have HS := Lib.hid (one_src2 3 (.int .i64 k) rfl)
        clear hq
        generalize hxs : (ofTo l s k).map IntV = xs at *
        have hxl : xs.length ≤ 1048576 := by rw [← hxs, List.length_map]; omega
        have HXS := Lib.hid hxs
        clear hxs
        go_wp2_with (at_builtin; refine wpList_app ElInt (.tmp 20) (.tmp 22) rfl rfl (base := (w.alloc (.cells #[.slice AT nT cT, .slice AN nN cN, .slice (some ⟨b, off, none⟩) l.length cR, .int .i64 gs] 25)).heap.size) (n := xs.length) (m := 1) (N := xs.length + 1) (xs := xs) (news := [.int .i64 k]) rfl rfl ((HO.out.alloc _).alloc _) (HS.out _ _) rfl (by unfold maxLen; omega) (by omega) (by simp at hwb ⊢; omega) ?_; intro A2 c2 w2 r1 r2 r3; have HF := Lib.hid (out_app (HB.out.trans (((below_alloc _ _).trans ((below_alloc _ _).mono (by simp))).mono HB.out.size)) rfl r1 r2); clear r1 r2 r3)
        go_roundw
        case rel => exact ⟨k + 1, by omega, by go_num, by rw [HY.out, List.map_append, HXS.out]; exact HF.out⟩
        case measure => simp [intOf]; omega
      · have hq1 : (rl == s) = false := by simp [hq]
        have HN := Lib.hid (HN.out hq)
        have HF := Lib.hid (OutAt.later ⟨A, oc, rfl, HO.out, HB.out⟩ (below_alloc _ (.cells #[.int .i64 rl, .slice RA rn rc] 28)))
        clear hq
        go_wp2
        go_roundw
        case rel => exact ⟨k + 1, by omega, by go_num, by rw [HN.out]; exact HF.out⟩
        case measure => simp [intOf]; omega
    · obtain rfl : k = l.length := by omega
      go_wp2
      go_ret
      exact ⟨_, rfl, A, oc, rfl, HO.out, HB.out⟩
set_option maxRecDepth 100000 in
set_option maxHeartbeats 3200000 in
theorem rof_any {w : World} {v : Value} {g : Gm} (h : GrR w v g) (s : Int) : Calls Try.prog 46 #[v, .int .i64 s] w (OfEnd w v (ofTo g.R s g.R.length)) := by
  have hsm := h.small.2.2.2.2.1
  have HG := Lib.hid (GBox.new w 25 v)
  obtain ⟨AT, cT, AN, cN, AR, cR, rfl, hT, hN, hR⟩ := h.open_
  obtain ⟨⟨A, c, hv, hc⟩, hs, hro⟩ := hR
  cases hv
  have HCELL := Lib.hid hc
  have hEl := ElInt
  clear h hT hN hro hc
  generalize g.R = l at *
  generalize g.T.length = nT at *
  generalize g.N.length = nN at *
  generalize g.s = gs at *
  go_enter Try.func46, Try.ntmps46
  go_wp2
  go_loopw [5, 6] (fun o i wr => ∃ k : Nat, k ≤ l.length ∧ i = .int .i64 k ∧ OutAt 3 (w.alloc (.cells #[.slice AT nT cT, .slice AN nN cN, .slice AR l.length cR, .int .i64 gs] 25)) ((ofTo l s k).map IntV) o wr) (fun _ i _ => l.length - (intOf i).toNat)
  case atStart => exact ⟨0, Nat.zero_le _, rfl, OutAt.nil _ _⟩
  case round =>
    obtain ⟨k, hk, rfl, A, oc, rfl, ho, hbw⟩ := hrel
    have HO := Lib.hid ho
    have HB := Lib.hid hbw
    have hwb := hbw.size
    have hlen := ofTo_len l s k
    obtain ⟨d0, d1, d2, d3⟩ := (HG.out.later hbw).four
    have hbz : w.heap.size < wr.heap.size := by simp at hwb; omega
    by_cases hlt : k < l.length
    · have hr := List.getElem?_eq_getElem hlt
      generalize l[k] = r at hr
      obtain ⟨b, off, hA, hlt0, h1, h2, h3⟩ := HCELL.out k r hr
      subst hA
      obtain ⟨⟨RA, rc, hrv, _⟩, _⟩ := h3
      rw [hrv] at h2
      have hw2 : Below w.heap.size w wr := (below_alloc w _).trans (hbw.mono (by simp))
      have e1 := (hw2.cell (p := ⟨b, off + k * 2, none⟩) hlt0).trans h1
      have e2 := (hw2.cell (p := ⟨b, off + k * 2 + 1, none⟩) hlt0).trans h2
      have HY := Lib.hid (fun e => ofTo_yes (s := s) hr e)
      have HN := Lib.hid (fun e => ofTo_no (s := s) hr e)
      clear h1 h2 hr ho hbw hw2 hrv
      generalize r.left = rl at *
      generalize r.right.length = rn at *
      by_cases hq : rl = s
      · have hq1 : (rl == s) = true := by simp [hq]
        have HY := Lib.hid (HY.out hq)
        have HS := Lib.hid (one_src 3 (.int .i64 k) rfl)
        clear hq
        generalize hxs : (ofTo l s k).map IntV = xs at *
        have hxl : xs.length ≤ 1048576 := by rw [← hxs, List.length_map]; omega
        have HXS := Lib.hid hxs
        clear hxs
        go_wp2_with (at_builtin; refine wpList_app ElInt (.tmp 22) (.tmp 24) rfl rfl (base := (w.alloc (.cells #[.slice AT nT cT, .slice AN nN cN, .slice (some ⟨b, off, none⟩) l.length cR, .int .i64 gs] 25)).heap.size) (n := xs.length) (m := 1) (N := xs.length + 1) (xs := xs) (news := [.int .i64 k]) rfl rfl (HO.out.alloc _) (HS.out _) rfl (by unfold maxLen; omega) (by omega) (by simp at hwb ⊢; omega) ?_; intro A2 c2 w2 r1 r2 r3; have HF := Lib.hid (out_app (HB.out.trans ((below_alloc _ _).mono HB.out.size)) rfl r1 r2); clear r1 r2 r3)
        go_roundw
        case rel => exact ⟨k + 1, by omega, by go_num, by rw [HY.out, List.map_append, HXS.out]; exact HF.out⟩
        case measure => simp [intOf]; omega
      · have hq1 : (rl == s) = false := by simp [hq]
        have HN := Lib.hid (HN.out hq)
        have HF : Hid (OutAt 3 _ _ _ _) := Lib.hid ⟨A, oc, rfl, HO.out, HB.out⟩
        clear hq
        go_wp2
        go_roundw
        case rel => exact ⟨k + 1, by omega, by go_num, by rw [HN.out]; exact HF.out⟩
        case measure => simp [intOf]; omega
    · obtain rfl : k = l.length := by omega
      go_wp2
      go_ret
      exact ⟨_, rfl, A, oc, rfl, HO.out, HB.out⟩
end Go.Proofs.Ytdbmeocpjopdhaa
