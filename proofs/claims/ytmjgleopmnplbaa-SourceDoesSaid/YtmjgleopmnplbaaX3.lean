/- Contracts of package conchref37: Enter, Step. -/
import Derived.Test.YtmjgleopmnplbaaX2
namespace Go.Proofs.Ytmjgleopmnplbaa
open Go.RowKit
set_option linter.unusedVariables false

def mayEnterR (vs : List RV) (s t : ByteArray) : Bool := !(vs.any (namedR s)) && decide (vs.length < 40) && decide (t.size ≤ 200)
theorem mayEnterR_yes {vs : List RV} {s t : ByteArray} (h : mayEnterR vs s t = true) : vs.any (namedR s) = false ∧ vs.length < 40 ∧ t.size ≤ 200 := by
  simpa [mayEnterR, and_assoc] using h
def enteredR (s t : ByteArray) : RV := ⟨s, t ++ ⟨#[32]⟩, blankEnd t⟩

theorem renter_no {w : World} {B g : Nat} {sl : Value} {vs : List RV} {n : Nat} (h : Ref w B g sl vs n) (s t : ByteArray) (hno : mayEnterR vs s t = false) (ht : t.size ≤ maxLen) :
    Calls Try.prog 13 #[.pointer (some ⟨g, 0, none⟩), .string s, .string t] w fun e w' => e = .returned (.bool false) ∧ w = w' := by
  have hx := ractive h s
  have hn := h.max
  have h0 := h.blk.cell 0
  obtain ⟨a, c, rfl⟩ := h.slice
  simp only [List.getElem?_toArray, List.getElem?_cons_zero] at h0
  clear h
  unfold maxLen at ht
  cases ha : vs.any (namedR s)
  · rw [ha] at hx
    have HX := hide hx
    clear hx
    simp only [mayEnterR, ha, Bool.not_false, Bool.true_and, Bool.and_eq_false_iff, decide_eq_false_iff_not] at hno
    clear ha
    by_cases hlen : vs.length < 40
    · have hsz : 200 < t.size := by omega
      clear hno
      go_enter Try.func13, Try.ntmps13
      go_wp2_with fail
      refine HX.out.mono ?_
      rintro e w1 ⟨rfl, rfl⟩
      go_wp2
      go_ret
      exact ⟨rfl, rfl⟩
    · clear hno
      go_enter Try.func13, Try.ntmps13
      go_wp2_with fail
      refine HX.out.mono ?_
      rintro e w1 ⟨rfl, rfl⟩
      go_wp2
      go_ret
      exact ⟨rfl, rfl⟩
  · rw [ha] at hx
    have HX := hide hx
    clear hx ha hno
    go_enter Try.func13, Try.ntmps13
    go_wp2_with fail
    refine HX.out.mono ?_
    rintro e w1 ⟨rfl, rfl⟩
    go_wp2
    go_ret
    exact ⟨rfl, rfl⟩

theorem Try.info50 : (Try.prog.info? 50).map (fun i => (i.zero, i.size, i.bytes)) = some (some (.agg #[.string ByteArray.empty, .string ByteArray.empty, .bool false]), 3, 40) := by kernel_rfl
theorem El33 : El Try.prog 33 50 3 40 := El.of Try.underlying33 Try.info50 rfl (by decide)

theorem blank_cases (t : ByteArray) : (¬ 0 < t.size ∧ blankEnd t = false) ∨ (0 < t.size ∧ ∃ h, t[t.size - 1]'h = 32 ∧ blankEnd t = true) ∨ (0 < t.size ∧ ∃ h, t[t.size - 1]'h = 9 ∧ blankEnd t = true) ∨
    (0 < t.size ∧ ∃ h, (((t[t.size - 1]'h).toNat : Int) == 32) = false ∧ (((t[t.size - 1]'h).toNat : Int) == 9) = false ∧ blankEnd t = false) := by
  by_cases hz : 0 < t.size
  · have h : t.size - 1 < t.size := by omega
    have hl := (Lib.size_eq t).symm
    have e : ∀ c, endsIn t c = (t[t.size - 1]'h == c) := fun c => by
      unfold endsIn
      rw [List.getLast?_eq_getElem?, hl, List.getElem?_eq_getElem (by omega)]
      rfl
    generalize hb : t[t.size - 1]'h = b at e
    by_cases h1 : b = 32
    · exact .inr (.inl ⟨hz, h, by rw [hb, h1], by simp [blankEnd, e, h1]⟩)
    · by_cases h2 : b = 9
      · exact .inr (.inr (.inl ⟨hz, h, by rw [hb, h2], by simp [blankEnd, e, h2]⟩))
      · refine .inr (.inr (.inr ⟨hz, h, ?_, ?_, by simp [blankEnd, e, h1, h2]⟩))
        · rw [hb, beq_eq_false_iff_ne]
          intro h3
          exact h1 (UInt8.toNat_inj.1 (by simpa using Int.ofNat_inj.1 h3))
        · rw [hb, beq_eq_false_iff_ne]
          intro h3
          exact h2 (UInt8.toNat_inj.1 (by simpa using Int.ofNat_inj.1 h3))
  · have hl := (Lib.size_eq t).symm
    have : t.data.toList = [] := List.eq_nil_of_length_eq_zero (by omega)
    exact .inl ⟨hz, by simp [blankEnd, endsIn, this]⟩

theorem rcell_one (vs : List RV) : ∀ u ∈ vs.flatMap RV.cells, u.oneCell' = true := by
  intro u hu
  obtain ⟨v, _, hv⟩ := List.mem_flatMap.1 hu
  simp [RV.cells] at hv
  rcases hv with rfl | rfl | rfl <;> rfl

theorem src_entered (s t : ByteArray) (b : Bool) (hb : blankEnd t = b) (W : World) : SrcOK (W.alloc (.cells #[.string s, .string (t ++ ⟨#[32]⟩), .bool b] 50)) (.slice (some ⟨W.heap.size, 0, none⟩) 1 1) 1 3 (enteredR s t).cells := by
  subst hb
  exact SrcOK.blk (Blk.new W 50 #[.string s, .string (t ++ ⟨#[32]⟩), .bool (blankEnd t)]) rfl (by simp [RV.cells, Value.oneCell'])
/-- What the last store leaves, of either function. -/
theorem ref_done {w w1 : World} {B g n : Nat} {sl A : Value} {vs : List RV} (hk : Keeps B [35, 50] w w1) (hB : B ≤ g) (hb : Blk w1 g 35 #[sl, .int .i64 n]) (ho : w1.ownsRow B 50 3 A vs.length (vs.flatMap RV.cells)) :
    Keeps B [35, 50] w (w1.setCell ⟨g, 0, none⟩ A) ∧ Ref (w1.setCell ⟨g, 0, none⟩ A) B g A vs n :=
  ⟨hk.setBlk hb hB (by simp) 0 _, hb.set_ 0 _, hB, own_far ho (p := ⟨g, 0, none⟩) (own_blk_ne ho hb (by decide)) A⟩

set_option maxHeartbeats 800000 in
theorem renter_yes {w : World} {B g : Nat} {sl : Value} {vs : List RV} {n : Nat} (h : Ref w B g sl vs n) (s t : ByteArray) (hyes : mayEnterR vs s t = true) :
    Calls Try.prog 13 #[.pointer (some ⟨g, 0, none⟩), .string s, .string t] w fun e w' => e = .returned (.bool true) ∧ Keeps B [35, 50] w w' ∧ ∃ sl', Ref w' B g sl' (vs ++ [enteredR s t]) n := by
  have hx := ractive h s
  have hn := h.max
  have h0 := h.blk.cell 0
  have f0 := h.blk.frozen 0
  obtain ⟨ha, hlen, ht⟩ := mayEnterR_yes hyes
  clear hyes
  rw [ha] at hx
  have HX := hide hx
  clear hx ha
  have hg := h.blk.lt
  obtain ⟨a, c, rfl⟩ := h.slice
  simp only [List.getElem?_toArray, List.getElem?_cons_zero] at h0
  have H := hide h
  clear h
  have hcat : ¬ (9223372036854775807 < t.size + 1) := by omega
  have h40 : decide ((40 : Int) ≤ (vs.length : Int)) = false := by simp; omega
  have h200 : decide ((200 : Int) < (t.size : Int)) = false := by simp; omega
  rcases blank_cases t with ⟨hz, hbl⟩ | ⟨hz, hzz, e1, hbl⟩ | ⟨hz, hzz, e1, hbl⟩ | ⟨hz, hzz, e1, e2, hbl⟩
  all_goals
  have HBL := hide hbl
  clear hbl
  go_enter Try.func13, Try.ntmps13
  go_wp2_with fail
  refine HX.out.mono ?_
  rintro e w1 ⟨rfl, rfl⟩
  have hBw : B ≤ w.heap.size := Nat.le_trans H.out.base (Nat.le_of_lt hg)
  go_wp2_with (first
    | (at_builtin; refine wpList_app El33 (.tmp 44) (.tmp 48) rfl rfl (base := B) (n := 0) (m := vs.length) (N := vs.length) (v := .slice (some ⟨w.heap.size, 0, none⟩) 0 0) (src := .slice a vs.length c) (xs := []) (news := vs.flatMap RV.cells) rfl rfl (World.ownsRow_made w #[] 0 hBw (by decide) rfl) (SrcOK.own (H.out.own.alloc _) (rcell_one vs)) (by omega) (by unfold maxLen; omega) (by omega) (by simp; omega) ?_; intro A1 c1 w2 r1 r2 _
       rw [List.nil_append] at r1
       have hb2 : Blk w2 g 35 #[.slice a vs.length c, .int .i64 n] := r2.blk (H.out.blk.alloc _) (.inr (by decide))
       have hk2 : Keeps B [35, 50] w w2 := ((Keeps.refl B [35, 50] w).alloc (.cells #[] 50)).trans (r2.mono (Nat.le_refl _) (by simp))
       have hBw2 : B ≤ w2.heap.size := Nat.le_trans hBw hk2.size
       have HR1 := hide r1
       have HB2 := hide hb2
       have HK2 := hide hk2
       clear r1 r2 hb2 hk2)
    | (at_builtin; refine wpList_app El33 (.tmp 49) (.tmp 55) rfl rfl (base := B) (n := vs.length) (m := 1) (N := vs.length + 1) (v := .slice A1 vs.length c1) (src := .slice (some ⟨w2.heap.size, 0, none⟩) 1 1) (news := (enteredR s t).cells) rfl rfl (HR1.out.alloc _) (src_entered s t _ HBL.out _) rfl (by unfold maxLen; omega) (by omega) (by simp; omega) ?_; intro A3 c3 w3 r1 r2 _
       have hb3 : Blk w3 g 35 #[.slice a vs.length c, .int .i64 n] := r2.blk (HB2.out.alloc _) (.inr (by decide))
       have hk3 : Keeps B [35, 50] w w3 := (HK2.out.alloc _).trans (r2.mono (Nat.le_refl _) (by simp))
       have k0 := hb3.cell 0
       have k1 := hb3.frozen 0
       simp only [List.getElem?_toArray, List.getElem?_cons_zero] at k0
       have hfin := ref_done (A := .slice A3 (vs.length + 1) c3) (vs := vs ++ [enteredR s t]) hk3 H.out.base hb3 (by rw [List.length_append, List.flatMap_append, List.flatMap_singleton]; exact r1)
       have HF := hide hfin
       clear r1 r2 hb3 hk3 hfin))
  go_ret
  exact ⟨rfl, HF.out.1, _, HF.out.2⟩
end Go.Proofs.Ytmjgleopmnplbaa
