/- The reference's literal: may a text be a literal at a place? -/
import Derived.Test.YtpadnckmheippaaTc
namespace Go.Proofs.Ytpadnckmheippaa
open Go.RowKit
set_option linter.unusedVariables false
set_option linter.unusedSimpArgs false
/-- What is asked of a byte, with the next one. -/
def litAt (place : Nat) (c : UInt8) (d : Option UInt8) : Bool :=
  classOf c != 0 && (c != 36 || (match d with | none => true | some d => okAfter d)) &&
  (place != 0 || (classOf c == 3 || classOf c == 4 || classOf c == 8 || classOf c == 7)) &&
  (place != 2 || (c != 125 && classOf c != 6)) &&
  (place != 1 || (c != 34 && c != 96 && (c != 92 || (match d with | none => false | some d => !quotes d && d != 10))))
theorem litOne_at (place : Nat) (c : UInt8) (r : List UInt8) : litOne place c r = litAt place c r.head? := by
  unfold litOne litAt
  cases r <;> rfl
theorem byte_test (c d : UInt8) : ((c.toNat : Int) == (d.toNat : Int)) = (c == d) := by
  by_cases h : c = d
  · subst h; simp
  · rw [byte_ne h]; exact (beq_eq_false_iff_ne.2 h).symm
/-- The same in numbers. -/
def litN (p : Nat) (n q : Int) (b1 b2 : Bool) : Bool :=
  !(q == 0) && (!(n == 36) || b1) && (p != 0 || (q == 3 || q == 4 || q == 8 || q == 7)) && (p != 2 || (!(n == 125) && !(q == 6))) && (p != 1 || (!(n == 34) && !(n == 96) && (!(n == 92) || b2)))
theorem nat_test (a b : Nat) : ((a : Int) == (b : Int)) = (a == b) := by
  rw [Bool.eq_iff_iff, beq_iff_eq, beq_iff_eq]; omega
theorem litAt_some (p : Nat) (c d : UInt8) : litAt p c (some d) = litN p c.toNat (classOf c) (okAfter d) (!quotes d && !((d.toNat : Int) == 10)) := by
  unfold litAt litN
  have t : ∀ k : UInt8, (c == k) = ((c.toNat : Int) == (k.toNat : Int)) := fun k => (byte_test c k).symm
  have u : (d == 10) = ((d.toNat : Int) == 10) := (byte_test d 10).symm
  have q : ∀ k : Nat, (classOf c == k) = ((classOf c : Int) == (k : Int)) := fun k => (nat_test _ _).symm
  simp only [bne, t, q, u]
  rfl
theorem litAt_none (p : Nat) (c : UInt8) : litAt p c none = litN p c.toNat (classOf c) true false := by
  unfold litAt litN
  have t : ∀ k : UInt8, (c == k) = ((c.toNat : Int) == (k.toNat : Int)) := fun k => (byte_test c k).symm
  have q : ∀ k : Nat, (classOf c == k) = ((classOf c : Int) == (k : Int)) := fun k => (nat_test _ _).symm
  simp only [bne, t, q]
  rfl
theorem bool_int (b : Bool) : ∃ x : Int, b = (x == 1) := ⟨if b then 1 else 0, by cases b <;> rfl⟩
/-- One more byte. -/
def LitGoes (p : Nat) (s : ByteArray) (k : Nat) : Prop := litGo p s.data.toList = litGo p (s.data.toList.drop k)
theorem lit_step {p : Nat} {s : ByteArray} {k : Nat} (h : LitGoes p s k) (hk : k < s.size) : litGo p s.data.toList = (litAt p s[k] (s.data.toList.drop (k + 1)).head? && litGo p (s.data.toList.drop (k + 1))) := by
  have h1 : litGo p s.data.toList = litGo p (s.data.toList.drop k) := h
  rw [h1, drop_at s k hk, ← litOne_at]; rfl
theorem lit_next {p : Nat} {s : ByteArray} {k : Nat} (h : LitGoes p s k) (hk : k < s.size) (hn : k + 1 < s.size) : litGo p s.data.toList = (litN p s[k].toNat (classOf s[k]) (okAfter s[k + 1]) (!quotes s[k + 1] && !((s[k + 1].toNat : Int) == 10)) && litGo p (s.data.toList.drop (k + 1))) := by
  rw [lit_step h hk, ← litAt_some, drop_at s (k + 1) hn]; rfl
theorem lit_last {p : Nat} {s : ByteArray} {k : Nat} (h : LitGoes p s k) (hk : k < s.size) (hn : ¬ k + 1 < s.size) : litGo p s.data.toList = (litN p s[k].toNat (classOf s[k]) true false && litGo p (s.data.toList.drop (k + 1))) := by
  rw [lit_step h hk, ← litAt_none, List.drop_of_length_le (by simp; omega)]; rfl
theorem lit_no {p : Nat} {s : ByteArray} {x y : Bool} (h : Hid (litGo p s.data.toList = (x && y))) (hx : x = false) : Ending.returned (.bool false) = .returned (.bool (litB p s.data.toList)) := by
  unfold litB
  rw [h.out, hx, Bool.false_and, Bool.and_false]
theorem lit_yes {p : Nat} {s : ByteArray} {k : Nat} {x : Bool} (h : Hid (litGo p s.data.toList = (x && litGo p (s.data.toList.drop k)))) (hx : x = true) : LitGoes p s k := by
  unfold LitGoes
  rw [h.out, hx, Bool.true_and]
set_option maxRecDepth 100000 in
set_option maxHeartbeats 6400000 in
theorem literal_at (s : ByteArray) (hs : s.size ≤ 4611686018427387904) (p : Nat) (q0 : Int) (HP : Hid ((p : Int) = q0)) (hp0 : 0 ≤ q0) (hp : q0 ≤ 2) (w : World) : Calls Try.prog 54 #[.string s, .int .i64 q0] w fun e w' => e = .returned (.bool (litB p s.data.toList)) ∧ w = w' := by
  have hpp : q0 = 0 ∨ q0 = 1 ∨ q0 = 2 := by omega
  clear hp hp0
  rcases hpp with rfl | rfl | rfl
  all_goals
    go_enter Try.func54, Try.ntmps54
    go_wp2
    go_loop [5, 6] (fun i _ => ∃ k : Nat, k ≤ s.size ∧ i = .int .i64 k ∧ LitGoes p s k) (fun i _ => s.size - (intOf i).toNat)
    case atStart => exact ⟨0, Nat.zero_le _, rfl, rfl⟩
    case round =>
      obtain ⟨k, hk, rfl, hl⟩ := hrel
      have HL := Lib.hid hl
      clear hl
      by_cases hlt : k < s.size
      · have HC := Lib.hid (rclass_any s[k] w)
        by_cases hnx : k + 1 < s.size
        · have HE := Lib.hid (lit_next HL.out hlt hnx)
          have HD := Lib.hid (rdollar_any s[k + 1] w)
          have HQ := Lib.hid (rquotes_any s[k + 1] w)
          generalize classOf s[k] = q at *
          obtain ⟨x1, hx1⟩ := bool_int (okAfter s[k + 1])
          obtain ⟨x2, hx2⟩ := bool_int (quotes s[k + 1])
          rw [hx1] at HD HE
          rw [hx2] at HQ HE
          clear hx1 hx2
          go_wp2_with (first
            | (go_at_call 80; refine HC.out.mono ?_; rintro e w' ⟨rfl, rfl⟩)
            | (go_at_call 81; refine HD.out.mono ?_; rintro e w' ⟨rfl, rfl⟩)
            | (go_at_call 55; refine HQ.out.mono ?_; rintro e w' ⟨rfl, rfl⟩))
          all_goals first
            | (go_ret
               exact ⟨lit_no HE (by (have hpq := HP.out; rw [Bool.eq_false_iff]; intro hh; simp only [litN, Bool.and_eq_true, Bool.or_eq_true, Bool.and_eq_false_iff, Bool.or_eq_false_iff, Bool.not_eq_true', Bool.not_eq_false', beq_iff_eq, beq_eq_false_iff_ne, bne_iff_ne, bne_eq_false_iff_eq, ne_eq, Bool.not_true, Bool.not_false, Bool.true_and, Bool.and_true, Bool.false_or, Bool.or_false, Bool.true_or, Bool.or_true, Bool.false_and, Bool.and_false, Bool.false_eq_true, Bool.true_eq_false, reduceCtorEq, not_true, not_false_iff, true_and, and_true, false_or, or_false, true_or, or_true, false_and, and_false] at * <;> omega)), rfl⟩)
            | (go_round
               case rel => exact ⟨k + 1, by omega, by go_num, lit_yes HE (by (have hpq := HP.out; simp only [litN, Bool.and_eq_true, Bool.or_eq_true, Bool.and_eq_false_iff, Bool.or_eq_false_iff, Bool.not_eq_true', Bool.not_eq_false', beq_iff_eq, beq_eq_false_iff_ne, bne_iff_ne, bne_eq_false_iff_eq, ne_eq, Bool.not_true, Bool.not_false, Bool.true_and, Bool.and_true, Bool.false_or, Bool.or_false, Bool.true_or, Bool.or_true, Bool.false_and, Bool.and_false, Bool.false_eq_true, Bool.true_eq_false, reduceCtorEq, not_true, not_false_iff, true_and, and_true, false_or, or_false, true_or, or_true, false_and, and_false] at * <;> omega))⟩
               case measure => simp [intOf]; omega)
        · have HE := Lib.hid (lit_last HL.out hlt hnx)
          have hgk : (s.size : Int) ≤ (k : Int) + 1 := by omega
          generalize classOf s[k] = q at *
          go_wp2_with (first
            | (go_at_call 80; refine HC.out.mono ?_; rintro e w' ⟨rfl, rfl⟩))
          all_goals first
            | (go_ret
               exact ⟨lit_no HE (by (have hpq := HP.out; rw [Bool.eq_false_iff]; intro hh; simp only [litN, Bool.and_eq_true, Bool.or_eq_true, Bool.and_eq_false_iff, Bool.or_eq_false_iff, Bool.not_eq_true', Bool.not_eq_false', beq_iff_eq, beq_eq_false_iff_ne, bne_iff_ne, bne_eq_false_iff_eq, ne_eq, Bool.not_true, Bool.not_false, Bool.true_and, Bool.and_true, Bool.false_or, Bool.or_false, Bool.true_or, Bool.or_true, Bool.false_and, Bool.and_false, Bool.false_eq_true, Bool.true_eq_false, reduceCtorEq, not_true, not_false_iff, true_and, and_true, false_or, or_false, true_or, or_true, false_and, and_false] at * <;> omega)), rfl⟩)
            | (go_round
               case rel => exact ⟨k + 1, by omega, by go_num, lit_yes HE (by (have hpq := HP.out; simp only [litN, Bool.and_eq_true, Bool.or_eq_true, Bool.and_eq_false_iff, Bool.or_eq_false_iff, Bool.not_eq_true', Bool.not_eq_false', beq_iff_eq, beq_eq_false_iff_ne, bne_iff_ne, bne_eq_false_iff_eq, ne_eq, Bool.not_true, Bool.not_false, Bool.true_and, Bool.and_true, Bool.false_or, Bool.or_false, Bool.true_or, Bool.or_true, Bool.false_and, Bool.and_false, Bool.false_eq_true, Bool.true_eq_false, reduceCtorEq, not_true, not_false_iff, true_and, and_true, false_or, or_false, true_or, or_true, false_and, and_false] at * <;> omega))⟩
               case measure => simp [intOf]; omega)
      · obtain rfl : k = s.size := by omega
        have HS := Lib.hid (show litGo p s.data.toList = true from HL.out.trans (by rw [drop_end]; rfl))
        clear HL
        go_wp2
        go_ret
        refine ⟨ret_bool ?_, rfl⟩
        unfold litB
        rw [HS.out, Bool.and_true, toList_data]
theorem literal_any (s : ByteArray) (hs : s.size ≤ 4611686018427387904) (p : Nat) (hp : p ≤ 2) (w : World) : Calls Try.prog 54 #[.string s, .int .i64 p] w fun e w' => e = .returned (.bool (litB p s.data.toList)) ∧ w = w' :=
  literal_at s hs p p (Lib.hid rfl) (by omega) (by omega) w
end Go.Proofs.Ytpadnckmheippaa
