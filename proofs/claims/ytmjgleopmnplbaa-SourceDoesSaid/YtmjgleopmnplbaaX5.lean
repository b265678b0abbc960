/- Package source and its reference, side by side: one state, and what each call answers of it. -/
import Derived.Test.YtmjgleopmnplbaaX4
namespace Go.Proofs.Ytmjgleopmnplbaa
open Go.RowKit
set_option linter.unusedVariables false

/-- A value as the reference holds it. -/
def SV.toRV (v : SV) : RV := ⟨v.name, v.text.extract v.pos v.text.size, v.blank⟩
/-- What is true of a source's values. -/
structure Inv (vs : List SV) : Prop where
  each : ∀ v ∈ vs, v.pos < v.text.size ∧ v.text.size ≤ 201
  len : vs.length ≤ 40

def afterEnter (vs : List SV) (s t : ByteArray) : List SV := if mayEnter vs s t then vs ++ [entered s t] else vs
def stepTo (vs : List SV) : List SV := match vs.getLast? with | none => [] | some v => stepped vs.dropLast v
def stepRes (vs : List SV) : Bool := match vs.getLast? with | none => false | some v => stepAns v
def countTo (vs : List SV) (n : Nat) : Nat := match vs.getLast? with | none => n | some _ => n + 1
def peekOf (vs : List SV) : UInt8 × Bool := match vs.getLast? with | none => (0, false) | some v => (v.text.data.toList.getD v.pos 0, true)

theorem snoc_cases {α : Type} (l : List α) : l = [] ∨ ∃ m x, l = m ++ [x] := by
  rcases List.eq_nil_or_concat l with h | ⟨m, x, h⟩
  · exact .inl h
  · exact .inr ⟨m, x, by rw [h, List.concat_eq_append]⟩

theorem mayEnterR_map (vs : List SV) (s t : ByteArray) : mayEnterR (vs.map SV.toRV) s t = mayEnter vs s t := by
  unfold mayEnterR mayEnter
  rw [List.any_map, List.length_map]; rfl
theorem entered_toRV (s t : ByteArray) : (entered s t).toRV = enteredR s t := by
  unfold SV.toRV entered enteredR
  congr 1
  simp only [ByteArray.extract_zero_size]
theorem afterEnter_inv {vs : List SV} (h : Inv vs) (s t : ByteArray) : Inv (afterEnter vs s t) := by
  unfold afterEnter
  split
  · rename_i hm
    obtain ⟨_, h1, h2⟩ := mayEnter_yes hm
    refine ⟨fun v hv => ?_, by rw [List.length_append, List.length_cons, List.length_nil]; omega⟩
    rcases List.mem_append.1 hv with hv | hv
    · exact h.each v hv
    · obtain rfl : v = entered s t := by simpa using hv
      rw [entered_size]
      exact ⟨by show 0 < _; omega, by omega⟩
  · exact h
theorem stepTo_snoc (vs : List SV) (v : SV) : stepTo (vs ++ [v]) = stepped vs v := by simp [stepTo]
theorem stepTo_inv {vs : List SV} (h : Inv vs) : Inv (stepTo vs) := by
  rcases snoc_cases vs with rfl | ⟨m, v, rfl⟩
  · exact h
  · rw [stepTo_snoc]
    unfold stepped
    have h1 := h.len
    rw [List.length_append] at h1
    split
    · refine ⟨fun u hu => ?_, by rw [List.length_append]; exact h1⟩
      rcases List.mem_append.1 hu with hu | hu
      · exact h.each u (by simp [hu])
      · obtain rfl : u = { v with pos := v.pos + 1 } := by simpa using hu
        exact ⟨by assumption, (h.each v (by simp)).2⟩
    · exact ⟨fun u hu => h.each u (by simp [hu]), by omega⟩

section
variable {w : World} {B g : Nat} {sl : Value} {vs : List SV} {n : Nat}
theorem enter_any (h : Src w B g sl vs n) (s t : ByteArray) (ht : t.size ≤ maxLen) :
    Calls Try.prog 8 #[.pointer (some ⟨g, 0, none⟩), .string s, .string t] w fun e w' => e = .returned (.bool (mayEnter vs s t)) ∧ Keeps B [45, 47] w w' ∧ ∃ sl', Src w' B g sl' (afterEnter vs s t) n := by
  cases hm : mayEnter vs s t
  · refine (enter_no h s t hm ht).mono ?_
    rintro e w' ⟨rfl, hb⟩
    refine ⟨rfl, Keeps.of_below hb, sl, ?_⟩
    rw [afterEnter, hm]
    exact h.keeps (Keeps.of_below hb (B := 0) (T := [])) (by simp) (by simp)
  · refine (enter_yes h s t hm).mono ?_
    rintro e w' ⟨rfl, hk, sl', hS⟩
    refine ⟨rfl, hk, sl', ?_⟩
    rw [afterEnter, hm]
    exact hS
theorem renter_any (h : Ref w B g sl (vs.map SV.toRV) n) (s t : ByteArray) (ht : t.size ≤ maxLen) :
    Calls Try.prog 13 #[.pointer (some ⟨g, 0, none⟩), .string s, .string t] w fun e w' => e = .returned (.bool (mayEnter vs s t)) ∧ Keeps B [35, 50] w w' ∧ ∃ sl', Ref w' B g sl' ((afterEnter vs s t).map SV.toRV) n := by
  have hmm := mayEnterR_map vs s t
  cases hm : mayEnter vs s t
  · refine (renter_no h s t (hmm.trans hm) ht).mono ?_
    rintro e w' ⟨rfl, rfl⟩
    refine ⟨rfl, Keeps.refl _ _ _, sl, ?_⟩
    rw [afterEnter, hm]
    exact h
  · refine (renter_yes h s t (hmm.trans hm)).mono ?_
    rintro e w' ⟨rfl, hk, sl', hS⟩
    refine ⟨rfl, hk, sl', ?_⟩
    rw [afterEnter, hm, if_pos rfl, List.map_append, List.map_cons, List.map_nil, entered_toRV]
    exact hS
theorem step_all (h : Src w B g sl vs n) (hi : Inv vs) (hn : n ≤ 1000000) :
    Calls Try.prog 10 #[.pointer (some ⟨g, 0, none⟩)] w fun e w' => e = .returned (.bool (stepRes vs)) ∧ Keeps B [45, 47] w w' ∧ ∃ sl', Src w' B g sl' (stepTo vs) (countTo vs n) := by
  rcases snoc_cases vs with rfl | ⟨m, v, rfl⟩
  · refine (step_empty h).mono ?_
    rintro e w' ⟨rfl, rfl⟩
    exact ⟨rfl, Keeps.refl _ _ _, sl, h⟩
  · obtain ⟨h1, h2⟩ := hi.each v (by simp)
    refine (step_any h h1 (by unfold maxLen; omega) (by unfold maxLen; omega)).mono ?_
    rintro e w' ⟨rfl, hk, sl', hS⟩
    refine ⟨ret_bool (by simp [stepRes]), hk, sl', ?_⟩
    rw [stepTo_snoc]
    have : countTo (m ++ [v]) n = n + 1 := by simp [countTo]
    rw [this]; exact hS
theorem extract_more (t : ByteArray) (p : Nat) (hp : p < t.size) : (t.extract p t.size).extract 1 (t.extract p t.size).size = t.extract (p + 1) t.size := by
  apply ByteArray.ext
  apply Array.toList_inj.1
  have hl := (Lib.size_eq t).symm
  have h1 : (t.extract p t.size).data.toList = t.data.toList.drop p := by rw [Lib.extract_data, List.take_of_length_le]; simp [hl]
  rw [Lib.extract_data, h1, Lib.extract_data, List.drop_drop, List.take_of_length_le, List.take_of_length_le]
  · rw [List.length_drop]; omega
  · rw [Lib.size_eq, h1]; simp; omega
theorem extract_size' (t : ByteArray) (p : Nat) : (t.extract p t.size).size = t.size - p := by simp
theorem rstep_all (h : Ref w B g sl (vs.map SV.toRV) n) (hi : Inv vs) (hn : n ≤ 1000000) :
    Calls Try.prog 14 #[.pointer (some ⟨g, 0, none⟩)] w fun e w' => e = .returned (.bool (stepRes vs)) ∧ Keeps B [35, 50] w w' ∧ ∃ sl', Ref w' B g sl' ((stepTo vs).map SV.toRV) (countTo vs n) := by
  rcases snoc_cases vs with rfl | ⟨m, v, rfl⟩
  · refine (rstep_empty h).mono ?_
    rintro e w' ⟨rfl, rfl⟩
    exact ⟨rfl, Keeps.refl _ _ _, sl, h⟩
  · obtain ⟨h1, h2⟩ := hi.each v (by simp)
    have hl := hi.len
    rw [List.length_append] at hl
    rw [List.map_append, List.map_cons, List.map_nil] at h
    have hc : countTo (m ++ [v]) n = n + 1 := by simp [countTo]
    rw [stepTo_snoc, hc]
    have hsz : v.toRV.left.size = v.text.size - v.pos := extract_size' _ _
    by_cases h3 : v.pos + 1 < v.text.size
    · refine (rstep_more h (by omega) (by unfold maxLen; omega) (by rw [List.length_map]; omega)).mono ?_
      rintro e w' ⟨rfl, hk, sl', hS⟩
      refine ⟨ret_bool (by simp [stepRes, stepAns, h3]), hk, sl', ?_⟩
      rw [stepped, if_pos h3, List.map_append, List.map_cons, List.map_nil]
      have : ({ v.toRV with left := v.toRV.left.extract 1 v.toRV.left.size } : RV) = SV.toRV { v with pos := v.pos + 1 } := by
        unfold SV.toRV
        dsimp only
        rw [extract_more _ _ h1]
      rw [← this]; exact hS
    · refine (rstep_last h (by omega) (by unfold maxLen; omega) (by rw [List.length_map]; omega)).mono ?_
      rintro e w' ⟨rfl, hk, sl', hS⟩
      refine ⟨ret_bool (by simp [stepRes, stepAns, h3, SV.toRV]), hk, sl', ?_⟩
      rw [stepped, if_neg h3]; exact hS
theorem peek_all (h : Src w B g sl vs n) (hi : Inv vs) :
    Calls Try.prog 9 #[.pointer (some ⟨g, 0, none⟩)] w fun e w' => e = .returned (.tuple #[.int .u8 (peekOf vs).1.toNat, .bool (peekOf vs).2]) ∧ ∃ m, w' = w.drewN m := by
  rcases snoc_cases vs with rfl | ⟨m, v, rfl⟩
  · exact (peek_empty h).mono fun e w' ⟨h1, h2⟩ => ⟨h1, 0, h2.symm⟩
  · obtain ⟨h1, h2⟩ := hi.each v (by simp)
    have hp : peekOf (m ++ [v]) = (v.text.data.toList.getD v.pos 0, true) := by simp [peekOf]
    rw [hp]
    exact peek_ok h h1 (by unfold maxLen; omega) _ rfl
theorem rpeek_all (h : Ref w B g sl (vs.map SV.toRV) n) (hi : Inv vs) :
    Calls Try.prog 15 #[.pointer (some ⟨g, 0, none⟩)] w fun e w' => e = .returned (.tuple #[.int .u8 (peekOf vs).1.toNat, .bool (peekOf vs).2]) ∧ ∃ m, w' = w.drewN m := by
  rcases snoc_cases vs with rfl | ⟨m, v, rfl⟩
  · exact (rpeek_empty h).mono fun e w' ⟨h1, h2⟩ => ⟨h1, 0, h2.symm⟩
  · obtain ⟨h1, h2⟩ := hi.each v (by simp)
    have hp : peekOf (m ++ [v]) = (v.text.data.toList.getD v.pos 0, true) := by simp [peekOf]
    rw [hp]
    rw [List.map_append, List.map_cons, List.map_nil] at h
    have hsz : 0 < v.toRV.left.size := by rw [show v.toRV.left.size = v.text.size - v.pos from extract_size' _ _]; omega
    have hb : v.toRV.left[0] = v.text.data.toList.getD v.pos 0 := by
      rw [List.getD_eq_getElem?_getD, List.getElem?_eq_getElem (by rw [← Lib.size_eq]; exact h1)]
      have h5 : 0 < (v.text.extract v.pos v.text.size).size := hsz
      show (v.text.extract v.pos v.text.size)[0]'h5 = _
      rw [ByteArray.getElem_extract]
      simp
      rfl
    rw [← hb]
    exact rpeek h hsz
theorem left_same (vs : List SV) : leftR (vs.map SV.toRV) = leftOf vs := by
  unfold leftR leftOf
  rw [List.map_map]
  congr 1
  apply List.map_congr_left
  intro v _
  exact extract_size' _ _
theorem active_same (vs : List SV) (s : ByteArray) : (vs.map SV.toRV).any (namedR s) = vs.any (named s) := by rw [List.any_map]; rfl
theorem names_same (vs : List SV) : (vs.map SV.toRV).map RV.name = vs.map SV.name := by rw [List.map_map]; rfl
end
end Go.Proofs.Ytmjgleopmnplbaa
