/- SourceReads: what a value within a value reads as. -/
import Derived.Test.YtmjgleopmnplbaaW5
namespace Go.Proofs.Ytmjgleopmnplbaa
open Go.RowKit
set_option linter.unusedVariables false

theorem getD_app_l {α : Type} (l m : List α) (n : Nat) (d : α) (h : n < l.length) : (l ++ m).getD n d = l.getD n d := by
  rw [List.getD_eq_getElem?_getD, List.getD_eq_getElem?_getD, List.getElem?_append_left h]
theorem getD_app_r {α : Type} (l m : List α) (n : Nat) (d : α) (h : l.length ≤ n) : (l ++ m).getD n d = m.getD (n - l.length) d := by
  rw [List.getD_eq_getElem?_getD, List.getD_eq_getElem?_getD, List.getElem?_append_right h]
/-- What a step leaves of the values. -/
def stepped (vs : List SV) (v : SV) : List SV := if v.pos + 1 < v.text.size then vs ++ [{ v with pos := v.pos + 1 }] else vs
def stepAns (v : SV) : Bool := !decide (v.pos + 1 < v.text.size) && v.blank

theorem step_any {w : World} {B g : Nat} {sl : Value} {vs : List SV} {v : SV} {n : Nat} (h : Src w B g sl (vs ++ [v]) n) (hk : v.pos < v.text.size) (hs : v.text.size ≤ maxLen) (hn1 : n + 1 ≤ maxLen) :
    Calls Try.prog 10 #[.pointer (some ⟨g, 0, none⟩)] w fun e w' => e = .returned (.bool (stepAns v)) ∧ Keeps B [45, 47] w w' ∧ ∃ sl', Src w' B g sl' (stepped vs v) (n + 1) := by
  by_cases h1 : v.pos + 1 < v.text.size
  · refine (step_more h h1 hs hn1).mono ?_
    rintro e w' ⟨rfl, hk', hS⟩
    exact ⟨ret_bool (by simp [stepAns, h1]), hk', sl, by rw [stepped, if_pos h1]; exact hS⟩
  · refine (step_last h (by omega) hs hn1).mono ?_
    rintro e w' ⟨rfl, hk', sl', hS⟩
    exact ⟨ret_bool (by simp [stepAns, h1]), hk', sl', by rw [stepped, if_neg h1]; exact hS⟩

abbrev nmV : ByteArray := ⟨#[118]⟩
abbrev nmW : ByteArray := ⟨#[119]⟩
section
variable (v w : ByteArray) (a : Nat)
def pV (p : Nat) : SV := { entered nmV v with pos := p }
def pW (p : Nat) : SV := { entered nmW w with pos := p }
/-- The values at the peek of round n. -/
def midSt (n : Nat) : List SV :=
  if n < a then [pV v n] else if n - a < w.size + 1 then [pV v a, pW w (n - a)] else if n - (w.size + 1) < v.size + 1 then [pV v (n - (w.size + 1))] else []
/-- The values at the head of round n. -/
def preSt (n : Nat) : List SV := if n ≤ a then [pV v n] else midSt v w a n
/-- What is read. -/
def readBytes : List UInt8 := v.data.toList.take a ++ w.data.toList ++ [32] ++ v.data.toList.drop a ++ [32]
variable {v w a}
theorem pV_size (p : Nat) : (pV v p).text.size = v.size + 1 := entered_size nmV v
theorem pW_size (p : Nat) : (pW w p).text.size = w.size + 1 := entered_size nmW w
theorem readBytes_len (ha : a ≤ v.size) : (readBytes v w a).length = v.size + w.size + 2 := by
  have h1 := (Lib.size_eq v).symm
  have h2 := (Lib.size_eq w).symm
  simp only [readBytes, List.length_append, List.length_take, List.length_drop, List.length_cons, List.length_nil, h1, h2]
  omega
theorem midSt_step (ha : a ≤ v.size) (n : Nat) (hn : n < v.size + w.size + 2) :
    ∃ vs x, midSt v w a n = vs ++ [x] ∧ x.pos < x.text.size ∧ x.text.size ≤ v.size + w.size + 1 ∧ x.text.data.toList.getD x.pos 0 = (readBytes v w a).getD n 0 ∧ stepped vs x = preSt v w a (n + 1) := by
  have e1 := (Lib.size_eq v).symm
  have e2 := (Lib.size_eq w).symm
  have hR : readBytes v w a = v.data.toList.take a ++ ((w.data.toList ++ [32]) ++ (v.data.toList.drop a ++ [32])) := by simp [readBytes]
  have lt : (v.data.toList.take a).length = a := by rw [List.length_take]; omega
  by_cases h1 : n < a
  · refine ⟨[], pV v n, by simp [midSt, h1], by rw [pV_size]; show n < _; omega, by rw [pV_size]; omega, ?_, ?_⟩
    · show ((v ++ (⟨#[32]⟩ : ByteArray)).data.toList).getD n 0 = _
      rw [ByteArray.data_append, Array.toList_append]
      unfold readBytes
      simp only [List.append_assoc]
      rw [getD_app_l _ _ _ _ (by omega), getD_app_l _ _ _ _ (by rw [List.length_take]; omega)]
      simp [List.getD, h1]
    · rw [stepped, pV_size, if_pos (by show n + 1 < _; omega), preSt, if_pos (by omega)]; rfl
  · by_cases h2 : n - a < w.size + 1
    · refine ⟨[pV v a], pW w (n - a), by simp [midSt, h1, h2], by rw [pW_size]; exact h2, by rw [pW_size]; omega, ?_, ?_⟩
      · show ((w ++ (⟨#[32]⟩ : ByteArray)).data.toList).getD (n - a) 0 = _
        rw [ByteArray.data_append, Array.toList_append]
        rw [hR, getD_app_r (l := v.data.toList.take a) (h := by rw [lt]; omega), lt, getD_app_l (l := w.data.toList ++ [32]) (h := by rw [List.length_append, e2]; exact h2)]
      · rw [stepped, pW_size]
        by_cases h3 : (pW w (n - a)).pos + 1 < w.size + 1
        · have h4 : n - a + 1 < w.size + 1 := h3
          rw [if_pos h3, preSt, if_neg (by omega), midSt, if_neg (by omega), if_pos (by omega)]
          show _ = [pV v a, pW w (n + 1 - a)]
          rw [show n + 1 - a = n - a + 1 by omega]; rfl
        · have h4 : ¬ n - a + 1 < w.size + 1 := h3
          rw [if_neg h3, preSt, if_neg (by omega), midSt, if_neg (by omega), if_neg (by omega), if_pos (by omega), show n + 1 - (w.size + 1) = a by omega]
    · refine ⟨[], pV v (n - (w.size + 1)), ?_, by rw [pV_size]; show n - (w.size + 1) < _; omega, by rw [pV_size]; omega, ?_, ?_⟩
      · rw [midSt, if_neg h1, if_neg h2, if_pos (by omega)]; rfl
      · show ((v ++ (⟨#[32]⟩ : ByteArray)).data.toList).getD (n - (w.size + 1)) 0 = _
        rw [ByteArray.data_append, Array.toList_append]
        rw [hR, getD_app_r (l := v.data.toList.take a) (h := by rw [lt]; omega), lt, getD_app_r (l := w.data.toList ++ [32]) (h := by rw [List.length_append, e2]; show w.size + 1 ≤ _; omega)]
        have hd : v.data.toList ++ [32] = v.data.toList.take a ++ (v.data.toList.drop a ++ [32]) := by rw [← List.append_assoc, List.take_append_drop]
        show (v.data.toList ++ [32]).getD _ 0 = _
        rw [hd, getD_app_r (l := v.data.toList.take a) (h := by rw [lt]; omega), lt, List.length_append, e2]
        congr 1
        show n - (w.size + 1) - a = n - a - (w.size + 1)
        omega
      · rw [stepped, pV_size]
        by_cases h3 : (pV v (n - (w.size + 1))).pos + 1 < v.size + 1
        · have h4 : n - (w.size + 1) + 1 < v.size + 1 := h3
          rw [if_pos h3, preSt, if_neg (by omega), midSt, if_neg (by omega), if_neg (by omega), if_pos (by omega), show n + 1 - (w.size + 1) = n - (w.size + 1) + 1 by omega]; rfl
        · have h4 : ¬ n - (w.size + 1) + 1 < v.size + 1 := h3
          rw [if_neg h3, preSt, if_neg (by omega), midSt, if_neg (by omega), if_neg (by omega), if_neg (by omega)]
theorem midSt_end (ha : a ≤ v.size) : preSt v w a (v.size + w.size + 2) = [] := by
  rw [preSt, if_neg (by omega), midSt, if_neg (by omega), if_neg (by omega), if_neg (by omega)]
theorem preSt_mid (n : Nat) (h : n ≠ a) : preSt v w a n = midSt v w a n := by
  unfold preSt
  split
  · rw [midSt, if_pos (by omega)]
  · rfl
theorem preSt_at : preSt v w a a = [pV v a] := by rw [preSt, if_pos (Nat.le_refl _)]
theorem midSt_at : midSt v w a a = [pV v a] ++ [entered nmW w] := by rw [midSt, if_neg (by omega), if_pos (by omega), Nat.sub_self]; rfl
end

theorem peek_ok {w : World} {B g : Nat} {sl : Value} {vs : List SV} {v : SV} {n : Nat} (h : Src w B g sl (vs ++ [v]) n) (hk : v.pos < v.text.size) (hs : v.text.size ≤ maxLen) (b : UInt8) (hb : v.text.data.toList.getD v.pos 0 = b) :
    Calls Try.prog 9 #[.pointer (some ⟨g, 0, none⟩)] w fun e w' => e = .returned (.tuple #[.int .u8 b.toNat, .bool true]) ∧ ∃ m, w' = w.drewN m := by
  have e : v.text[v.pos] = b := by
    rw [← hb, List.getD_eq_getElem?_getD, List.getElem?_eq_getElem (by rw [← Lib.size_eq]; exact hk)]
    rfl
  rw [← e]
  exact peek_any h hk hs
end Go.Proofs.Ytmjgleopmnplbaa
