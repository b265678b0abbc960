/- Contracts of package conchref37: Step. -/
import Derived.Test.YtmjgleopmnplbaaX3
namespace Go.Proofs.Ytmjgleopmnplbaa
open Go.RowKit
set_option linter.unusedVariables false

theorem rstep_empty {w : World} {B g : Nat} {sl : Value} {n : Nat} (h : Ref w B g sl [] n) :
    Calls Try.prog 14 #[.pointer (some ⟨g, 0, none⟩)] w fun e w' => e = .returned (.bool false) ∧ w = w' := by
  obtain ⟨a, c, rfl⟩ := h.slice
  have h0 := h.blk.cell 0
  simp only [List.getElem?_toArray, List.getElem?_cons_zero] at h0
  clear h
  go_enter Try.func14, Try.ntmps14
  go_wp2
  go_ret
  exact ⟨rfl, rfl⟩

/-- What the first statements of Step leave. -/
theorem rstep_mid {w : World} {B g b c n : Nat} {vs : List RV} {v : RV} {bl : Array Value} (h : Ref w B g (.slice (some ⟨b, 0, none⟩) (vs.length + 1) c) (vs ++ [v]) n) (hbg : b ≠ g) :
    Blk (((w.setCell ⟨g, 1, none⟩ (.int .i64 (n + 1 : Nat))).alloc (.cells bl 50)).alloc (.cells #[] 50)) g 35 #[.slice (some ⟨b, 0, none⟩) (vs.length + 1) c, .int .i64 (n + 1 : Nat)] ∧
    Blk (((w.setCell ⟨g, 1, none⟩ (.int .i64 (n + 1 : Nat))).alloc (.cells bl 50)).alloc (.cells #[] 50)) w.heap.size 50 bl ∧
    Keeps B [35, 50] w (((w.setCell ⟨g, 1, none⟩ (.int .i64 (n + 1 : Nat))).alloc (.cells bl 50)).alloc (.cells #[] 50)) ∧
    (((w.setCell ⟨g, 1, none⟩ (.int .i64 (n + 1 : Nat))).alloc (.cells bl 50)).alloc (.cells #[] 50)).ownsRow B 50 3 (.slice (some ⟨w.heap.size + 1, 0, none⟩) 0 0) 0 [] ∧
    (((w.setCell ⟨g, 1, none⟩ (.int .i64 (n + 1 : Nat))).alloc (.cells bl 50)).alloc (.cells #[] 50)).ownsRow B 50 3 (.slice (some ⟨b, 0, none⟩) vs.length c) vs.length (vs.flatMap RV.cells) := by
  obtain ⟨hb, hB, ho⟩ := h
  rw [List.length_append, List.length_cons, List.length_nil, Nat.zero_add] at ho
  have hb1 := hb.set_ 1 (.int .i64 (n + 1 : Nat))
  have ho1 := own_far ho (p := ⟨g, 1, none⟩) (by simp [Value.ownBlock, hbg]) (.int .i64 (n + 1 : Nat))
  have hsz : (w.setCell ⟨g, 1, none⟩ (.int .i64 (n + 1 : Nat))).heap.size = w.heap.size := by simp [World.setCell]
  have hnb : Blk ((w.setCell ⟨g, 1, none⟩ (.int .i64 (n + 1 : Nat))).alloc (.cells bl 50)) w.heap.size 50 bl := by
    have := Blk.new (w.setCell ⟨g, 1, none⟩ (.int .i64 (n + 1 : Nat))) 50 bl
    rwa [hsz] at this
  have hot := own_take (k := vs.length) ho1 (by omega)
  rw [fm_take RV.cells 3 RV.len, List.take_left] at hot
  refine ⟨(hb1.alloc _).alloc _, hnb.alloc _, ((((Keeps.refl B [35, 50] w).setBlk hb hB (by simp) 1 _).alloc _).alloc _), own_made (by simp [World.setCell]) (by have := hb.lt; omega) (by decide) rfl, (hot.alloc _).alloc _⟩

theorem rstep_last {w : World} {B g : Nat} {sl : Value} {vs : List RV} {v : RV} {n : Nat} (h : Ref w B g sl (vs ++ [v]) n) (hk : v.left.size = 1) (hn1 : n + 1 ≤ maxLen) (hl : vs.length ≤ 1000) :
    Calls Try.prog 14 #[.pointer (some ⟨g, 0, none⟩)] w fun e w' => e = .returned (.bool v.blank) ∧ Keeps B [35, 50] w w' ∧ ∃ sl', Ref w' B g sl' vs (n + 1) := by
  unfold maxLen at hn1
  have hn := h.max
  obtain ⟨b, c, rfl, hBb, hbs, hbg, e0, e1, e2⟩ := h.at_ vs.length (by simp)
  have h0 := h.blk.cell 0
  have h1 := h.blk.cell 1
  have f1 := h.blk.frozen 1
  have f0 := h.blk.frozen 0
  have hg := h.blk.lt
  have hcap : vs.length + 1 ≤ c := by
    rcases own_form h.own with ⟨x, _⟩ | ⟨b', c', x, _, _, x2, _⟩
    · cases x
    · cases x; simpa using x2
  simp only [List.getElem?_toArray, List.getElem?_cons_zero, List.getElem?_cons_succ] at h0 h1
  simp only [List.length_append, List.length_cons, List.length_nil, Nat.zero_add] at h
  have H := hide h
  clear h
  simp only [List.getElem_append_right, Nat.le_refl, Nat.sub_self, List.getElem_cons_zero, List.length_append, List.length_cons, List.length_nil] at *
  obtain ⟨nm, tx, bl⟩ := v
  dsimp only at *
  have hE : (tx.extract 1 tx.size).toList.isEmpty = true := by
    rw [Lib.extract_toList, hk]; simp
  have hl0 : (((vs.length : Int) + 1) == 0) = false := by simp; omega
  have HK := hide hk
  have hk1 : 1 ≤ tx.size := by omega
  clear hk
  have hBw : B ≤ w.heap.size := by omega
  go_enter Try.func14, Try.ntmps14
  have hm := rstep_mid (bl := #[.string nm, .string (tx.extract 1 tx.size), .bool bl]) H.out hbg
  have HM := hide hm
  clear hm
  go_wp2_with (first
    | (at_builtin; refine wpList_app El33 (.tmp 36) (.tmp 42) rfl rfl (base := B) (n := 0) (m := vs.length) (N := vs.length) (v := .slice (some ⟨w.heap.size + 1, 0, none⟩) 0 0) (src := .slice (some ⟨b, 0, none⟩) vs.length c) (xs := []) (news := vs.flatMap RV.cells) rfl rfl HM.out.2.2.2.1 (SrcOK.own HM.out.2.2.2.2 (rcell_one vs)) (by omega) (by unfold maxLen; omega) (by omega) (by simp; omega) ?_; intro A1 c1 w2 r1 r2 r3
       rw [List.nil_append] at r1
       have hb2 := HM.out.1.grown r3.1 (by simp [Value.ownBlock]; omega)
       have hv2 := HM.out.2.1.grown r3.1 (by simp [Value.ownBlock])
       have hk2 := HM.out.2.2.1.trans (r2.mono (Nat.le_refl _) (by simp))
       have k0 := hb2.cell 0
       have k1 := hb2.frozen 0
       have j1 := hv2.cell 1
       have j2 := hv2.cell 2
       simp only [List.getElem?_toArray, List.getElem?_cons_zero, List.getElem?_cons_succ] at k0 j1 j2
       have hfin := ref_done (vs := vs) hk2 H.out.base hb2 r1
       have HF := hide hfin
       clear r1 r2 r3 hb2 hv2 hk2 hfin))
  go_ret
  exact ⟨rfl, HF.out.1, _, HF.out.2⟩

theorem rstep_more {w : World} {B g : Nat} {sl : Value} {vs : List RV} {v : RV} {n : Nat} (h : Ref w B g sl (vs ++ [v]) n) (hk : 2 ≤ v.left.size) (hn1 : n + 1 ≤ maxLen) (hl : vs.length ≤ 1000) :
    Calls Try.prog 14 #[.pointer (some ⟨g, 0, none⟩)] w fun e w' => e = .returned (.bool false) ∧ Keeps B [35, 50] w w' ∧ ∃ sl', Ref w' B g sl' (vs ++ [{ v with left := v.left.extract 1 v.left.size }]) (n + 1) := by
  unfold maxLen at hn1
  have hn := h.max
  obtain ⟨b, c, rfl, hBb, hbs, hbg, e0, e1, e2⟩ := h.at_ vs.length (by simp)
  have h0 := h.blk.cell 0
  have h1 := h.blk.cell 1
  have f1 := h.blk.frozen 1
  have f0 := h.blk.frozen 0
  have hg := h.blk.lt
  have hcap : vs.length + 1 ≤ c := by
    rcases own_form h.own with ⟨x, _⟩ | ⟨b', c', x, _, _, x2, _⟩
    · cases x
    · cases x; simpa using x2
  simp only [List.getElem?_toArray, List.getElem?_cons_zero, List.getElem?_cons_succ] at h0 h1
  simp only [List.length_append, List.length_cons, List.length_nil, Nat.zero_add] at h
  have H := hide h
  clear h
  simp only [List.getElem_append_right, Nat.le_refl, Nat.sub_self, List.getElem_cons_zero, List.length_append, List.length_cons, List.length_nil] at *
  obtain ⟨nm, tx, bl⟩ := v
  dsimp only at *
  have hE : (tx.extract 1 tx.size).toList.isEmpty = false := by
    rw [Lib.extract_toList]
    have := Lib.size_eq tx
    cases hh : List.take (tx.size - 1) (List.drop 1 tx.data.toList) with
    | nil => have h2 := congrArg List.length hh; simp only [List.length_take, List.length_drop, List.length_nil] at h2; omega
    | cons => rfl
  have hl0 : (((vs.length : Int) + 1) == 0) = false := by simp; omega
  have HK := hide hk
  have hk1 : 1 ≤ tx.size := by omega
  clear hk
  have hBw : B ≤ w.heap.size := by omega
  go_enter Try.func14, Try.ntmps14
  have hm := rstep_mid (bl := #[.string nm, .string (tx.extract 1 tx.size), .bool bl]) H.out hbg
  have HM := hide hm
  clear hm
  go_wp2_with (first
    | (at_builtin; refine wpList_app El33 (.tmp 36) (.tmp 42) rfl rfl (base := B) (n := 0) (m := vs.length) (N := vs.length) (v := .slice (some ⟨w.heap.size + 1, 0, none⟩) 0 0) (src := .slice (some ⟨b, 0, none⟩) vs.length c) (xs := []) (news := vs.flatMap RV.cells) rfl rfl HM.out.2.2.2.1 (SrcOK.own HM.out.2.2.2.2 (rcell_one vs)) (by omega) (by unfold maxLen; omega) (by omega) (by simp; omega) ?_; intro A1 c1 w2 r1 r2 r3
       rw [List.nil_append] at r1
       have hb2 := HM.out.1.grown r3.1 (by simp [Value.ownBlock]; omega)
       have hv2 := HM.out.2.1.grown r3.1 (by simp [Value.ownBlock])
       have hk2 := HM.out.2.2.1.trans (r2.mono (Nat.le_refl _) (by simp))
       have k0 := hb2.cell 0
       have k1 := hb2.frozen 0
       have j1 := hv2.cell 1
       have j2 := hv2.cell 2
       simp only [List.getElem?_toArray, List.getElem?_cons_zero, List.getElem?_cons_succ] at k0 j1 j2
       have hfin := ref_done (vs := vs) hk2 H.out.base hb2 r1
       have HV := hide (hv2.far (p := ⟨g, 0, none⟩) (by simp; omega) (.slice A1 vs.length c1))
       have HF := hide hfin
       clear r1 r2 r3 hb2 hv2 hk2 hfin))
  generalize w2.setCell ⟨g, 0, none⟩ (.slice A1 vs.length c1) = w3 at *
  clear k0 k1 j1 j2
  have k0 := HF.out.2.blk.cell 0
  have k1 := HF.out.2.blk.frozen 0
  have l0 := HV.out.cell 0
  have l1 := HV.out.cell 1
  have l2 := HV.out.cell 2
  simp only [List.getElem?_toArray, List.getElem?_cons_zero, List.getElem?_cons_succ] at k0 l0 l1 l2
  have hgw : g < w3.heap.size := HF.out.2.blk.lt
  have hlw : w.heap.size < w3.heap.size := HV.out.lt
  clear h0 h1 f0 f1 e0 e1 e2
  generalize w.heap.size = lw at *
  go_region_law (first
    | (refine step_app El33 (.tmp 53) (.tmp 55) ?_ ?_ (base := B) (n := vs.length) (m := 1) (N := vs.length + 1) (v := .slice A1 vs.length c1) (src := .slice (some ⟨w3.heap.size, 0, none⟩) 1 1) (xs := vs.flatMap RV.cells) (news := [.string nm, .string (tx.extract 1 tx.size), .bool bl]) ?_ ?_ ?_ ?_ ?_ ?_ ?_ ?_ ?_
       · rfl
       · rfl
       · rfl
       · rfl
       · exact HF.out.2.own.alloc _
       · exact SrcOK.blk (Blk.new _ _ _) rfl (by simp [Value.oneCell'])
       · rfl
       · unfold maxLen; omega
       · omega
       · simp; omega
       intro A4 c4 w4 r1 r2 r3
       have hb4 : Blk w4 g 35 #[.slice A1 vs.length c1, .int .i64 (n + 1 : Nat)] := r2.blk (HF.out.2.blk.alloc _) (.inr (by decide))
       have hk4 : Keeps B [35, 50] w w4 := ((HF.out.1.alloc _).drew).trans (r2.mono (Nat.le_refl _) (by simp))
       have k4 := hb4.cell 0
       have k5 := hb4.frozen 0
       simp only [List.getElem?_toArray, List.getElem?_cons_zero] at k4
       have hfin := ref_done (A := .slice A4 (vs.length + 1) c4) (vs := vs ++ [⟨nm, tx.extract 1 tx.size, bl⟩]) hk4 HF.out.2.base hb4 (by rw [List.length_append, List.flatMap_append, List.flatMap_singleton]; exact r1)
       have HF4 := hide hfin
       clear r1 r2 r3 hb4 hk4 hfin))
  all_goals go_wp2
  all_goals go_ret
  all_goals exact ⟨rfl, HF4.out.1, _, HF4.out.2⟩
end Go.Proofs.Ytmjgleopmnplbaa
