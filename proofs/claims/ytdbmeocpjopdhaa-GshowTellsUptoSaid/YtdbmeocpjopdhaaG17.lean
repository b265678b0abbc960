/- Rules and declarations as text: the program's. -/
import Derived.Test.YtdbmeocpjopdhaaG16
import Derived.Deep.RegionHeld3
namespace Go.Proofs.Ytdbmeocpjopdhaa
open Go.RowKit
open Gm (blanksL)
set_option linter.unusedVariables false
theorem rightL_map (g : Gm) (l : List Int) : g.rightL l = blanksL (l.map g.name) := by
  unfold Gm.rightL blanksL
  rw [List.flatMap_map]
theorem map_snoc {α β : Type} (f : α → β) {l : List α} {k : Nat} {x : α} (h : l[k]? = some x) : (l.take (k + 1)).map f = (l.take k).map f ++ [f x] := by
  obtain ⟨hk, rfl⟩ := List.getElem?_eq_some_iff.1 h
  rw [List.take_succ_eq_append_getElem hk, List.map_append]
  rfl
set_option maxRecDepth 100000 in
set_option maxHeartbeats 3200000 in
theorem right_any {w : World} {v u : Value} {g : Gm} {r : Ru} (h : GrR w v g) (hr : RuR w u r) (hl : r.right.length ≤ 1048576) (hi : ∀ s ∈ r.right, -9223372036854775808 ≤ s) : Calls Try.prog 14 #[v, u] w (Text w (str (g.rightL r.right))) := by
  have HNM := Lib.hid (fun s (hs : -9223372036854775808 ≤ s) y (hy : Below w.heap.size w y) => gname_any (h.later hy) s hs)
  have HG := Lib.hid (GBox.new w 25 v)
  have hsm := h.small
  have HBL : Hid (∀ y o, Below w.heap.size w y → Arr StrV y o (r.right.map g.name) → Calls Try.prog 39 #[o] y (Text y (str (g.rightL r.right)))) := Lib.hid (fun y o hy ho => by
    rw [rightL_map]
    exact blanks_any ho (by rw [List.length_map]; exact hl) (fun s hs => by
      obtain ⟨x, _, rfl⟩ := List.mem_map.1 hs
      exact Gm.name_size hsm x))
  obtain ⟨AT, cT, AN, cN, AR, cR, rfl, hT, hN, hR⟩ := h.open_
  obtain ⟨rfl, ⟨A, c, hv, hc⟩, hsr, _⟩ := hr
  unfold RuV
  rw [hv]
  have HC := Lib.hid hc
  have HI := Lib.hid hi
  have hEl := ElStr
  have HTK : Hid (r.right.take r.right.length = r.right) := Lib.hid List.take_length
  have HSN := Lib.hid (fun (k : Nat) (s : Int) (hh : r.right[k]? = some s) => map_snoc (fun x => StrV (g.name x)) hh)
  clear h hT hN hR hsm hv hc hi
  generalize r.left = rl at *
  generalize g.T.length = nT at *
  generalize g.N.length = nN at *
  generalize g.R.length = nR at *
  generalize g.s = gs at *
  generalize str (g.rightL r.right) = res at *
  generalize r.right = l at *
  go_enter Try.func14, Try.ntmps14
  go_wp2
  go_loopw [5, 11] (fun o i wr => ∃ k : Nat, k ≤ l.length ∧ i = .int .i64 k ∧ OutAt 9 ((w.alloc (.cells #[.slice AT nT cT, .slice AN nN cN, .slice AR nR cR, .int .i64 gs] 25)).alloc (.cells #[.int .i64 rl, .slice A l.length c] 28)) ((l.take k).map fun x => StrV (g.name x)) o wr) (fun _ i _ => l.length - (intOf i).toNat)
  case atStart => exact ⟨0, Nat.zero_le _, rfl, OutAt.nil _ _⟩
  case round =>
    obtain ⟨k, hk, rfl, A', oc, rfl, ho, hbw⟩ := hrel
    have HO := Lib.hid ho
    have HB := Lib.hid hbw
    have hwb := hbw.size
    have HW := Lib.hid ((below_more (below_alloc w _) _).trans (hbw.mono (below_more (below_alloc w _) _).size))
    have hxl : ((l.take k).map fun x => StrV (g.name x)).length = k := by rw [List.length_map, List.length_take]; omega
    by_cases hlt : k < l.length
    · have hs := List.getElem?_eq_getElem hlt
      generalize l[k] = s at hs
      obtain ⟨b, off, hA, hlt0, hcell⟩ := HC.out k s hs
      subst hA
      have e1 := (HW.out.cell (p := ⟨b, off + k, none⟩) hlt0).trans hcell
      simp only [IntV] at e1
      obtain ⟨d0, d1, d2, d3⟩ := ((HG.out.later (below_alloc _ _)).later hbw).four
      have HCALL := Lib.hid (HNM.out s (HI.out s (List.mem_of_getElem? hs)) wr HW.out)
      have HN := Lib.hid (HSN.out k s hs)
      generalize hxs : ((l.take k).map fun x => StrV (g.name x)) = xs at *
      have HXS := Lib.hid hxs
      generalize g.name s = nm at *
      clear hs hcell ho hbw hxs
      rw [hxl] at HO ⊢
      go_wp2_with fail
      refine HCALL.out.mono ?_
      rintro e w1 ⟨rfl, hb1⟩
      have HB1 := Lib.hid (HB.out.trans (hb1.mono HB.out.size))
      have HO1 := Lib.hid (own_below HO.out hb1)
      have HS1 := Lib.hid (one_src 9 (.string nm) rfl)
      have hws := HB1.out.size
      clear hb1 d0 d1 d2 d3
      go_wp2_with (at_builtin; refine wpList_app ElStr (.tmp 15) (.tmp 19) rfl rfl (base := ((w.alloc (.cells #[.slice AT nT cT, .slice AN nN cN, .slice AR nR cR, .int .i64 gs] 25)).alloc (.cells #[.int .i64 rl, .slice (some ⟨b, off, none⟩) l.length c] 28)).heap.size) (n := k) (m := 1) (N := k + 1) (xs := xs) (news := [.string nm]) rfl rfl (HO1.out.alloc _) (HS1.out _) rfl (by unfold maxLen; omega) (by omega) (by simp at hws ⊢; omega) ?_; intro A2 c2 w2 r1 r2 r3; have HF := Lib.hid (out_app (HB1.out.trans ((below_alloc _ _).mono HB1.out.size)) (by simp [hxl]) r1 r2); clear r1 r2 r3)
      go_roundw
      case rel => exact ⟨k + 1, by omega, by go_num, by rw [HN.out]; exact HF.out⟩
      case measure => simp [intOf]; omega
    · obtain rfl : k = l.length := by omega
      have hfin : OutAt 9 ((w.alloc (.cells #[.slice AT nT cT, .slice AN nN cN, .slice AR nR cR, .int .i64 gs] 25)).alloc (.cells #[.int .i64 rl, .slice A l.length c] 28)) ((l.map g.name).map StrV) (.slice A' l.length oc) wr := by
        have h1 : OutAt 9 ((w.alloc (.cells #[.slice AT nT cT, .slice AN nN cN, .slice AR nR cR, .int .i64 gs] 25)).alloc (.cells #[.int .i64 rl, .slice A l.length c] 28)) ((l.take l.length).map fun x => StrV (g.name x)) (.slice A' ((l.take l.length).map fun x => StrV (g.name x)).length oc) wr := ⟨A', oc, rfl, ho, hbw⟩
        rw [hxl, HTK.out] at h1
        rw [List.map_map]
        exact h1
      have HSS := Lib.hid (HBL.out wr _ HW.out (hfin.arr (by rw [List.length_map]; omega)))
      rw [hxl]
      clear ho hbw HO HB hfin hxl
      go_wp2_with fail
      refine HSS.out.mono ?_
      rintro e w1 ⟨rfl, hb1⟩
      have HB1 := Lib.hid (HW.out.trans (hb1.mono HW.out.size))
      clear hb1
      go_wp2
      go_ret
      exact ⟨rfl, HB1.out⟩
theorem str_three (a : ByteArray) (l m : List UInt8) : a ++ str l ++ str m = str (a.data.toList ++ (l ++ m)) := by
  rw [← str_append, ← str_append, str_data]
  apply ByteArray.ext
  simp [Array.append_assoc]
theorem str_lit (l : List UInt8) : (⟨l.toArray⟩ : ByteArray) = str l := rfl
theorem rightL_len (g : Gm) (h : g.small) (l : List Int) (hl : l.length ≤ 1048576) : (g.rightL l).length ≤ 1099512676352 := by
  rw [rightL_map]
  have h1 := blanksL_len (l.map g.name) 1048576 (fun s hs => by
    obtain ⟨x, _, rfl⟩ := List.mem_map.1 hs
    exact Gm.name_size h x)
  rw [List.length_map] at h1
  exact Nat.le_trans h1 (Nat.le_trans (Nat.mul_le_mul_right _ hl) (by decide))
set_option maxRecDepth 100000 in
set_option maxHeartbeats 3200000 in
theorem rule_any {w : World} {v u : Value} {g : Gm} {r : Ru} (h : GrR w v g) (hr : RuR w u r) (hl : r.right.length ≤ 1048576) (hi : ∀ s ∈ r.right, -9223372036854775808 ≤ s) (hi0 : -9223372036854775808 ≤ r.left) : Calls Try.prog 8 #[v, u] w (Text w (str (g.ruleL r.left r.right))) := by
  have HNM := Lib.hid (fun y (hy : Below w.heap.size w y) => gname_any (h.later hy) r.left hi0)
  have HRT := Lib.hid (fun y (hy : Below w.heap.size w y) => right_any (h.later hy) (hr.later hy) hl hi)
  have hs1 := Gm.name_size h.small r.left
  have hs2 := rightL_len g h.small r.right hl
  have HRES : Hid (str (g.ruleL r.left r.right) = g.name r.left ++ str [32, 58] ++ str (g.rightL r.right)) := Lib.hid (by rw [str_three]; rfl)
  obtain ⟨AT, cT, AN, cN, AR, cR, rfl, hT, hN, hR⟩ := h.open_
  obtain ⟨rfl, ⟨A, c, hv, hc⟩, hsr, _⟩ := hr
  unfold RuV at *
  rw [hv] at HRT ⊢
  have hs3 : (str (g.rightL r.right)).size ≤ 1099512676352 := by rw [str_size]; exact hs2
  clear h hT hN hR hv hc hs2
  generalize str (g.ruleL r.left r.right) = res at *
  generalize r.left = rl at *
  generalize g.T.length = nT at *
  generalize g.N.length = nN at *
  generalize g.R.length = nR at *
  generalize g.s = gs at *
  generalize g.name rl = nm at *
  generalize str (g.rightL r.right) = rt at *
  generalize r.right.length = rn at *
  have HK : Hid (∀ w', Below ((w.alloc (.cells #[.slice AT nT cT, .slice AN nN cN, .slice AR nR cR, .int .i64 gs] 25)).alloc (.cells #[.int .i64 rl, .slice A rn c] 28)).heap.size ((w.alloc (.cells #[.slice AT nT cT, .slice AN nN cN, .slice AR nR cR, .int .i64 gs] 25)).alloc (.cells #[.int .i64 rl, .slice A rn c] 28)) w' →
      w'.cell? ⟨w.heap.size, 0, none⟩ = some (.slice AT nT cT) ∧ w'.cell? ⟨w.heap.size, 1, none⟩ = some (.slice AN nN cN) ∧ w'.cell? ⟨w.heap.size, 2, none⟩ = some (.slice AR nR cR) ∧ w'.cell? ⟨w.heap.size, 3, none⟩ = some (.int .i64 gs) ∧ w'.cell? ⟨w.heap.size + 1, 0, none⟩ = some (.int .i64 rl) ∧ w'.cell? ⟨w.heap.size + 1, 1, none⟩ = some (.slice A rn c)) := Lib.hid (fun w' hb => by
    obtain ⟨d0, d1, d2, d3⟩ := (((GBox.new w 25 (.agg #[.slice AT nT cT, .slice AN nN cN, .slice AR nR cR, .int .i64 gs])).later (below_alloc _ (.cells #[.int .i64 rl, .slice A rn c] 28))).later hb).four
    refine ⟨d0, d1, d2, d3, (hb.cell (p := ⟨w.heap.size + 1, 0, none⟩) (by simp)).trans ?_, (hb.cell (p := ⟨w.heap.size + 1, 1, none⟩) (by simp)).trans ?_⟩
    · exact (World.cell?_alloc_at _ _ _ _ (by simp)).trans rfl
    · exact (World.cell?_alloc_at _ _ _ _ (by simp)).trans rfl)
  have hq1 : ¬ (9223372036854775807 < nm.size + 2) := by omega
  have hq2 : ¬ (9223372036854775807 < nm.size + 2 + rt.size) := by omega
  have hq3 : nm.size + 2 ≤ 9223372036854775807 := by omega
  have hq4 : nm.size + 2 + rt.size ≤ 9223372036854775807 := by omega
  go_enter Try.func8, Try.ntmps8
  go_wp2_with fail
  go_region_held3 (fun w' => w'.cell? ⟨w.heap.size, 0, none⟩ = some (.slice AT nT cT) ∧ w'.cell? ⟨w.heap.size, 1, none⟩ = some (.slice AN nN cN) ∧ w'.cell? ⟨w.heap.size, 2, none⟩ = some (.slice AR nR cR) ∧ w'.cell? ⟨w.heap.size, 3, none⟩ = some (.int .i64 gs) ∧ w'.cell? ⟨w.heap.size + 1, 0, none⟩ = some (.int .i64 rl) ∧ w'.cell? ⟨w.heap.size + 1, 1, none⟩ = some (.slice A rn c))
    (first | exact HK.out _ HZ2.out | exact HK.out _ HZ1.out | exact HK.out _ ⟨rfl, rfl, rfl, Nat.le_refl _, fun _ _ => rfl⟩)
    (first
      | (go_at_call 20; refine (HNM.out _ (below_drew (below_more (below_alloc w _) _))).mono ?_; rintro e w1 ⟨rfl, hb1⟩; have HB1 := Lib.hid ((below_drew (below_more (below_alloc w _) _)).trans (hb1.mono (below_drew (below_more (below_alloc w _) _)).size)); have HZ1 := Lib.hid ((below_drew (Below.refl _ _)).trans (hb1.mono (Nat.le_refl _))); clear hb1)
      | (go_at_call 14; refine (HRT.out _ HB1.out).mono ?_; rintro e w2 ⟨rfl, hb2⟩; have HB2 := Lib.hid (HB1.out.trans (hb2.mono HB1.out.size)); have HZ2 := Lib.hid (HZ1.out.trans (hb2.mono HZ1.out.size)); clear hb2))
  all_goals go_wp2
  all_goals go_ret
  all_goals exact ⟨by rw [HRES.out]; rfl, HB2.out⟩
set_option maxRecDepth 100000 in
set_option maxHeartbeats 3200000 in
theorem heads_any {w : World} {v : Value} {g : Gm} (h : GrR w v g) (hi : -9223372036854775808 ≤ g.s) : Calls Try.prog 13 #[v] w (Text w (str g.headsL)) := by
  have HNM := Lib.hid (fun y (hy : Below w.heap.size w y) => gname_any (h.later hy) g.s hi)
  have hsm := h.small
  have hs1 := Gm.name_size hsm g.s
  have HG := Lib.hid (GBox.new w 25 v)
  have HST : Hid (str g.startL = str [37, 115, 116, 97, 114, 116, 32] ++ g.name g.s ++ str [10, 37, 37, 10]) := Lib.hid (by unfold Gm.startL; rw [← str_append, ← str_append, str_data]; apply ByteArray.ext; simp [Array.append_assoc])
  have HHD : Hid (g.T ≠ [] → str g.headsL = str [37, 116, 111, 107, 101, 110] ++ str (blanksL g.T) ++ str [10] ++ str g.startL) := Lib.hid (fun hn => by unfold Gm.headsL; rw [if_neg hn, ← str_append, ← str_append, ← str_append]; apply ByteArray.ext; simp [Array.append_assoc])
  have HH0 : Hid (g.T = [] → str g.headsL = str g.startL) := Lib.hid (fun hn => by unfold Gm.headsL; rw [if_pos hn])
  obtain ⟨AT, cT, AN, cN, AR, cR, rfl, hT, hN, hR⟩ := h.open_
  have HBL := Lib.hid (fun y (hy : Below w.heap.size w y) => blanks_any (hT.later hy) hsm.2.2.1 hsm.1)
  have hbl : (str (blanksL g.T)).size ≤ 1099512676352 := by
    rw [str_size]
    exact Nat.le_trans (blanksL_len g.T 1048576 hsm.1) (Nat.le_trans (Nat.mul_le_mul_right _ hsm.2.2.1) (by decide))
  have HE : Hid (g.T.length = 0 → g.T = []) := Lib.hid List.eq_nil_of_length_eq_zero
  have HE2 : Hid (g.T.length ≠ 0 → g.T ≠ []) := Lib.hid (fun hh e => hh (by rw [e]; rfl))
  clear h hT hN hR hsm
  generalize str g.headsL = res at *
  generalize str g.startL = st at *
  generalize g.name g.s = nm at *
  generalize str (blanksL g.T) = bl at *
  generalize g.T.length = nT at *
  generalize g.N.length = nN at *
  generalize g.R.length = nR at *
  generalize g.s = gs at *
  by_cases h0 : nT = 0
  · have HR := Lib.hid (HH0.out (HE.out h0))
    subst h0
    go_enter Try.func13, Try.ntmps13
    go_wp2_with fail
    refine (HNM.out _ (below_alloc w _)).mono ?_
    rintro e w1 ⟨rfl, hb1⟩
    have HB1 := Lib.hid (below_alloc_trans hb1)
    obtain ⟨d0, d1, d2, d3⟩ := (HG.out.later hb1).four
    clear hb1
    go_wp2
    go_ret
    exact ⟨by rw [HR.out, HST.out]; rfl, HB1.out⟩
  · have HR := Lib.hid (HHD.out (HE2.out h0))
    have h1 : ((nT : Int) == 0) = false := by rw [beq_eq_false_iff_ne]; omega
    clear h0
    go_enter Try.func13, Try.ntmps13
    go_wp2_with fail
    refine (HNM.out _ (below_alloc w _)).mono ?_
    rintro e w1 ⟨rfl, hb1⟩
    have HB1 := Lib.hid (below_alloc_trans hb1)
    obtain ⟨d0, d1, d2, d3⟩ := (HG.out.later hb1).four
    clear hb1
    go_wp2_with fail
    refine (HBL.out _ HB1.out).mono ?_
    rintro e w2 ⟨rfl, hb2⟩
    have HB2 := Lib.hid (HB1.out.trans (hb2.mono HB1.out.size))
    clear hb2 d0 d1 d2 d3
    go_wp2
    go_ret
    exact ⟨by rw [HR.out, HST.out]; rfl, HB2.out⟩
end Go.Proofs.Ytdbmeocpjopdhaa
