/- Operators and reserved words: the program's tables. Operators: the document's. Operators' terminals and reserved words: the document's. Reserved words: the document's. How a terminal is written: the document's. -/
import Derived.Test.YtnpjhndgdlihjaaDoorRows
import Derived.WalkKit
import Derived.Below
import Derived.Lib.Hide
import Derived.Lib.Strings
namespace Go.Proofs.YtnpjhndgdlihjaaDoor
open Go.RowKit
set_option linter.unusedVariables false
def opersL : List (List UInt8) := [[], [38, 38], [124, 124], [59, 59], [59], [38], [124], [40], [41], [60], [62], [62, 62], [60, 60], [60, 60, 45], [60, 38], [62, 38], [60, 62], [62, 124]]
def wordsL : List (List UInt8) := [[105, 102], [116, 104, 101, 110], [101, 108, 115, 101], [101, 108, 105, 102], [102, 105], [100, 111], [100, 111, 110, 101], [99, 97, 115, 101], [101, 115, 97, 99], [119, 104, 105, 108, 101], [117, 110, 116, 105, 108], [102, 111, 114], [123], [125], [33], [105, 110]]
def bs (l : List UInt8) : ByteArray := ⟨l.toArray⟩
/-- The tables, as the program's variables hold them. -/
def HasTabs (w : World) : Prop := (∀ k (h : k < opersL.length), w.cell? ⟨1, k, none⟩ = some (.string (bs opersL[k]))) ∧ (∀ k (h : k < wordsL.length), w.cell? ⟨0, k, none⟩ = some (.string (bs wordsL[k])))
theorem HasTabs.later {w w' : World} (h : HasTabs w) (hb : Below w.heap.size w w') : HasTabs w' :=
  ⟨fun k hk => (hb.cell (p := ⟨1, k, none⟩) (World.block_lt_of_cell? w _ (h.1 k hk))).trans (h.1 k hk), fun k hk => (hb.cell (p := ⟨0, k, none⟩) (World.block_lt_of_cell? w _ (h.2 k hk))).trans (h.2 k hk)⟩
/-- An operator's text. -/
def opT (op : Int) : ByteArray := if op < 0 then bs [] else bs (opersL.getD op.toNat [])
theorem opText_any (op : Int) {w : World} (h : HasTabs w) : Calls Tryd.prog 20 #[.int .i64 op] w fun e w' => e = .returned (.string (opT op)) ∧ w = w' := by
  unfold opT
  by_cases h0 : op < 0
  · rw [if_pos h0]
    go_enter Tryd.func20, Tryd.ntmps20
    go_wp2
    go_ret
    exact ⟨rfl, rfl⟩
  · rw [if_neg h0]
    obtain ⟨k, rfl⟩ : ∃ k : Nat, op = k := ⟨op.toNat, by omega⟩
    by_cases h1 : 18 ≤ k
    · have q1 : (18 : Int) ≤ (k : Int) := by omega
      have hd : opersL.getD (k : Int).toNat [] = [] := by
        rw [List.getD_eq_getElem?_getD, List.getElem?_eq_none (by simp [opersL]; omega)]
        rfl
      rw [hd]
      go_enter Tryd.func20, Tryd.ntmps20
      go_wp2
      go_ret
      exact ⟨rfl, rfl⟩
    · have q1 : ¬ (18 : Int) ≤ (k : Int) := by omega
      have q2 : (k : Int) < 18 := by omega
      have hk : k < opersL.length := by show k < 18; omega
      have hc := h.1 k hk
      have hd : opersL.getD (k : Int).toNat [] = opersL[k] := by
        rw [List.getD_eq_getElem?_getD, Int.toNat_natCast, List.getElem?_eq_getElem hk]
        rfl
      rw [hd]
      generalize bs opersL[k] = t at *
      go_enter Tryd.func20, Tryd.ntmps20
      go_wp2
      go_ret
      exact ⟨rfl, rfl⟩
/-- An operator's terminal. -/
def opI (op : Int) : Int := if 1 ≤ op ∧ op ≤ 17 then 5 + op else 0
theorem opT_empty (op : Int) : (opT op).toList.isEmpty = !decide (1 ≤ op ∧ op ≤ 17) := by
  rw [Lib.toList_data]
  unfold opT
  by_cases h0 : op < 0
  · rw [if_pos h0, decide_eq_false (by omega)]; rfl
  · rw [if_neg h0]
    obtain ⟨k, rfl⟩ : ∃ k : Nat, op = k := ⟨op.toNat, by omega⟩
    by_cases h1 : 18 ≤ k
    · rw [List.getD_eq_getElem?_getD, List.getElem?_eq_none (by simp [opersL]; omega), decide_eq_false (by omega)]
      rfl
    · have this : (List.range 18).all (fun j : Nat => (bs (opersL.getD (j : Int).toNat [])).data.toList.isEmpty == !decide (1 ≤ (j : Int) ∧ (j : Int) ≤ 17)) = true := by decide +kernel
      exact beq_iff_eq.1 (List.all_eq_true.1 this k (List.mem_range.2 (by omega)))
theorem pOp_any (op : Int) {w : World} (h : HasTabs w) : Calls Tryd.prog 6 #[.int .i64 op] w fun e w' => e = .returned (.int .i64 (opI op)) ∧ w = w' := by
  have HO := Lib.hid (opText_any op h)
  have he := opT_empty op
  unfold opI
  generalize opT op = t at *
  by_cases h1 : 1 ≤ op ∧ op ≤ 17
  · rw [if_pos h1]
    rw [decide_eq_true h1] at he
    obtain ⟨a, b⟩ := h1
    go_enter Tryd.func6, Tryd.ntmps6
    go_wp2_with (go_at_call 20; refine HO.out.mono ?_; rintro e w' ⟨rfl, rfl⟩)
    go_ret
    exact ⟨rfl, rfl⟩
  · rw [if_neg h1]
    rw [decide_eq_false h1] at he
    clear h1
    go_enter Tryd.func6, Tryd.ntmps6
    go_wp2_with (go_at_call 20; refine HO.out.mono ?_; rintro e w' ⟨rfl, rfl⟩)
    go_ret
    exact ⟨rfl, rfl⟩
/-- A reserved word's terminal. -/
def resI (s : ByteArray) : Int := if wordsL.findIdx (fun l => (bs l).toList == s.toList) < 16 then 23 + (wordsL.findIdx (fun l => (bs l).toList == s.toList) : Nat) else 0
set_option maxHeartbeats 800000 in
theorem pRes_any (s : ByteArray) {w : World} (h : HasTabs w) : Calls Tryd.prog 8 #[.string s] w fun e w' => e = .returned (.int .i64 (resI s)) ∧ w = w' := by
  have HC := Lib.hid h.2
  clear h
  go_enter Tryd.func8, Tryd.ntmps8
  go_wp2
  go_loop [4] (fun i => ∃ k : Nat, k ≤ 16 ∧ i = .int .i64 k ∧ Hid (∀ j (hj : j < wordsL.length), j < k → ((bs wordsL[j]).toList == s.toList) = false)) (fun i => 16 - (intOf i).toNat)
  case atStart => exact ⟨0, by omega, rfl, Lib.hid (fun j hj h => absurd h (Nat.not_lt_zero _))⟩
  case round =>
    obtain ⟨k, hk, rfl, HS⟩ := hrel
    by_cases hlt : k < 16
    · have hkl : k < wordsL.length := hlt
      have hc := HC.out k hkl
      cases hb : ((bs wordsL[k]).toList == s.toList) with
      | true =>
        have HN : Hid (resI s = 23 + (k : Int)) := Lib.hid (by
          have hf : wordsL.findIdx (fun l => (bs l).toList == s.toList) = k := by
            rw [List.findIdx_eq hkl]
            exact ⟨hb, fun j hj => HS.out j (by omega) hj⟩
          unfold resI
          rw [hf, if_pos hlt])
        generalize bs wordsL[k] = t at *
        go_wp2
        go_ret
        rw [HN.out]
        exact ⟨rfl, rfl⟩
      | false =>
        have HN : Hid (∀ j (hj : j < wordsL.length), j < k + 1 → ((bs wordsL[j]).toList == s.toList) = false) := Lib.hid (fun j hj h => by
          rcases Nat.lt_or_ge j k with h1 | h1
          · exact HS.out j hj h1
          · obtain rfl : j = k := by omega
            exact hb)
        generalize bs wordsL[k] = t at *
        go_wp2
        go_round
        case rel => exact ⟨k + 1, by omega, by go_num, HN⟩
        case measure => simp [intOf]; omega
    · have HN : Hid (resI s = 0) := Lib.hid (by
        have hf : wordsL.findIdx (fun l => (bs l).toList == s.toList) = wordsL.length := by
          rw [List.findIdx_eq_length]
          intro x hx
          obtain ⟨j, hj, rfl⟩ := List.getElem_of_mem hx
          exact HS.out j hj (by have : wordsL.length = 16 := rfl; omega)
        unfold resI
        rw [hf, if_neg (by decide)])
      obtain rfl : k = 16 := by omega
      go_wp2
      go_ret
      rw [HN.out]
      exact ⟨rfl, rfl⟩
/-- How a terminal is written. -/
def spT (t : Int) : ByteArray := if t = 1 then ⟨#[39, 39]⟩ else if t = 2 then ⟨#[120, 61]⟩ else if t = 3 then ⟨#[120]⟩ else if t = 4 then ⟨#[49]⟩ else if t = 5 then ⟨#[10]⟩ else
  if 23 ≤ t ∧ t ≤ 38 then bs (wordsL.getD (t - 23).toNat []) else if 5 < t ∧ t < 23 then opT (t - 5) else ⟨#[]⟩
set_option maxHeartbeats 1600000 in
theorem pSpell_any (t : Int) (h1 : -9223372036854775808 ≤ t) {w : World} (h : HasTabs w) : Calls Tryd.prog 10 #[.int .i64 t] w fun e w' => e = .returned (.string (spT t)) ∧ w = w' := by
  have HO := Lib.hid (opText_any (t - 5) h)
  have HC := Lib.hid h.2
  clear h
  unfold spT
  by_cases e1 : t = 1
  · subst e1
    go_enter Tryd.func10, Tryd.ntmps10
    go_wp2
    go_ret
    exact ⟨rfl, rfl⟩
  by_cases e2 : t = 2
  · subst e2
    go_enter Tryd.func10, Tryd.ntmps10
    go_wp2
    go_ret
    exact ⟨rfl, rfl⟩
  by_cases e3 : t = 3
  · subst e3
    go_enter Tryd.func10, Tryd.ntmps10
    go_wp2
    go_ret
    exact ⟨rfl, rfl⟩
  by_cases e4 : t = 4
  · subst e4
    go_enter Tryd.func10, Tryd.ntmps10
    go_wp2
    go_ret
    exact ⟨rfl, rfl⟩
  by_cases e5 : t = 5
  · subst e5
    go_enter Tryd.func10, Tryd.ntmps10
    go_wp2
    go_ret
    exact ⟨rfl, rfl⟩
  rw [if_neg e1, if_neg e2, if_neg e3, if_neg e4, if_neg e5]
  have q1 : (t == 1) = false := beq_eq_false_iff_ne.2 e1
  have q2 : (t == 2) = false := beq_eq_false_iff_ne.2 e2
  have q3 : (t == 3) = false := beq_eq_false_iff_ne.2 e3
  have q4 : (t == 4) = false := beq_eq_false_iff_ne.2 e4
  have q5 : (t == 5) = false := beq_eq_false_iff_ne.2 e5
  clear e1 e2 e3 e4 e5
  by_cases hw : 23 ≤ t ∧ t ≤ 38
  · rw [if_pos hw]
    obtain ⟨a, b⟩ := hw
    obtain ⟨k, rfl⟩ : ∃ k : Nat, t = (k : Int) + 23 := ⟨(t - 23).toNat, by omega⟩
    have hk : k < wordsL.length := by show k < 16; omega
    have hc := HC.out k hk
    have hd : wordsL.getD ((k : Int) + 23 - 23).toNat [] = wordsL[k] := by
      rw [show ((k : Int) + 23 - 23).toNat = k by omega, List.getD_eq_getElem?_getD, List.getElem?_eq_getElem hk]
      rfl
    rw [hd]
    generalize bs wordsL[k] = x at *
    have hk' : k < 16 := hk
    have hs : (k : Int) + 23 - 23 = (k : Int) := by omega
    go_enter Tryd.func10, Tryd.ntmps10
    go_wp2
    go_ret
    exact ⟨rfl, rfl⟩
  rw [if_neg hw]
  by_cases ho : 5 < t ∧ t < 23
  · rw [if_pos ho]
    obtain ⟨a, b⟩ := ho
    have c : ¬ 23 ≤ t := by omega
    clear hw
    go_enter Tryd.func10, Tryd.ntmps10
    go_wp2_with (go_at_call 20; refine HO.out.mono ?_; rintro e w' ⟨rfl, rfl⟩)
    go_ret
    exact ⟨rfl, rfl⟩
  rw [if_neg ho]
  rcases Int.lt_or_le 38 t with c | c
  · have c2 : ¬ t ≤ 38 := by omega
    have c3 : 23 ≤ t := by omega
    have c4 : ¬ t < 23 := by omega
    have c5 : 5 < t := by omega
    clear hw ho
    go_enter Tryd.func10, Tryd.ntmps10
    go_wp2
    go_ret
    exact ⟨rfl, rfl⟩
  · have c2 : ¬ 23 ≤ t := by omega
    have c5 : ¬ 5 < t := by omega
    clear hw ho
    go_enter Tryd.func10, Tryd.ntmps10
    go_wp2
    go_ret
    exact ⟨rfl, rfl⟩
end Go.Proofs.YtnpjhndgdlihjaaDoor

namespace Go.Proofs.YtnpjhndgdlihjaaDoor
open Go.RowKit
set_option linter.unusedVariables false
theorem opT_out {op : Int} (h : ¬ (1 ≤ op ∧ op ≤ 17)) : opT op = ⟨#[]⟩ := by
  unfold opT
  by_cases h0 : op < 0
  · rw [if_pos h0]; rfl
  · rw [if_neg h0]
    by_cases h1 : op = 0
    · subst h1; rfl
    · rw [List.getD_eq_getElem?_getD, List.getElem?_eq_none (by simp [opersL]; omega)]
      rfl
set_option maxHeartbeats 3200000 in
theorem rText_any (op : Int) (w : World) : Calls Tryd.prog 17 #[.int .i64 op] w fun e w' => e = .returned (.string (opT op)) ∧ w = w' := by
  by_cases e1 : op = 1
  · subst e1
    go_enter Tryd.func17, Tryd.ntmps17
    go_wp2
    go_ret
    exact ⟨rfl, rfl⟩
  have q1 : (op == 1) = false := beq_eq_false_iff_ne.2 e1
  by_cases e2 : op = 2
  · subst e2
    go_enter Tryd.func17, Tryd.ntmps17
    go_wp2
    go_ret
    exact ⟨rfl, rfl⟩
  have q2 : (op == 2) = false := beq_eq_false_iff_ne.2 e2
  by_cases e3 : op = 3
  · subst e3
    go_enter Tryd.func17, Tryd.ntmps17
    go_wp2
    go_ret
    exact ⟨rfl, rfl⟩
  have q3 : (op == 3) = false := beq_eq_false_iff_ne.2 e3
  by_cases e4 : op = 4
  · subst e4
    go_enter Tryd.func17, Tryd.ntmps17
    go_wp2
    go_ret
    exact ⟨rfl, rfl⟩
  have q4 : (op == 4) = false := beq_eq_false_iff_ne.2 e4
  by_cases e5 : op = 5
  · subst e5
    go_enter Tryd.func17, Tryd.ntmps17
    go_wp2
    go_ret
    exact ⟨rfl, rfl⟩
  have q5 : (op == 5) = false := beq_eq_false_iff_ne.2 e5
  by_cases e6 : op = 6
  · subst e6
    go_enter Tryd.func17, Tryd.ntmps17
    go_wp2
    go_ret
    exact ⟨rfl, rfl⟩
  have q6 : (op == 6) = false := beq_eq_false_iff_ne.2 e6
  by_cases e7 : op = 7
  · subst e7
    go_enter Tryd.func17, Tryd.ntmps17
    go_wp2
    go_ret
    exact ⟨rfl, rfl⟩
  have q7 : (op == 7) = false := beq_eq_false_iff_ne.2 e7
  by_cases e8 : op = 8
  · subst e8
    go_enter Tryd.func17, Tryd.ntmps17
    go_wp2
    go_ret
    exact ⟨rfl, rfl⟩
  have q8 : (op == 8) = false := beq_eq_false_iff_ne.2 e8
  by_cases e9 : op = 9
  · subst e9
    go_enter Tryd.func17, Tryd.ntmps17
    go_wp2
    go_ret
    exact ⟨rfl, rfl⟩
  have q9 : (op == 9) = false := beq_eq_false_iff_ne.2 e9
  by_cases e10 : op = 10
  · subst e10
    go_enter Tryd.func17, Tryd.ntmps17
    go_wp2
    go_ret
    exact ⟨rfl, rfl⟩
  have q10 : (op == 10) = false := beq_eq_false_iff_ne.2 e10
  by_cases e11 : op = 11
  · subst e11
    go_enter Tryd.func17, Tryd.ntmps17
    go_wp2
    go_ret
    exact ⟨rfl, rfl⟩
  have q11 : (op == 11) = false := beq_eq_false_iff_ne.2 e11
  by_cases e12 : op = 12
  · subst e12
    go_enter Tryd.func17, Tryd.ntmps17
    go_wp2
    go_ret
    exact ⟨rfl, rfl⟩
  have q12 : (op == 12) = false := beq_eq_false_iff_ne.2 e12
  by_cases e13 : op = 13
  · subst e13
    go_enter Tryd.func17, Tryd.ntmps17
    go_wp2
    go_ret
    exact ⟨rfl, rfl⟩
  have q13 : (op == 13) = false := beq_eq_false_iff_ne.2 e13
  by_cases e14 : op = 14
  · subst e14
    go_enter Tryd.func17, Tryd.ntmps17
    go_wp2
    go_ret
    exact ⟨rfl, rfl⟩
  have q14 : (op == 14) = false := beq_eq_false_iff_ne.2 e14
  by_cases e15 : op = 15
  · subst e15
    go_enter Tryd.func17, Tryd.ntmps17
    go_wp2
    go_ret
    exact ⟨rfl, rfl⟩
  have q15 : (op == 15) = false := beq_eq_false_iff_ne.2 e15
  by_cases e16 : op = 16
  · subst e16
    go_enter Tryd.func17, Tryd.ntmps17
    go_wp2
    go_ret
    exact ⟨rfl, rfl⟩
  have q16 : (op == 16) = false := beq_eq_false_iff_ne.2 e16
  by_cases e17 : op = 17
  · subst e17
    go_enter Tryd.func17, Tryd.ntmps17
    go_wp2
    go_ret
    exact ⟨rfl, rfl⟩
  have q17 : (op == 17) = false := beq_eq_false_iff_ne.2 e17
  rw [opT_out (by omega)]
  clear e1 e2 e3 e4 e5 e6 e7 e8 e9 e10 e11 e12 e13 e14 e15 e16 e17
  go_enter Tryd.func17, Tryd.ntmps17
  go_wp2
  go_ret
  exact ⟨rfl, rfl⟩
end Go.Proofs.YtnpjhndgdlihjaaDoor

namespace Go.Proofs.YtnpjhndgdlihjaaDoor
open Go.RowKit
set_option linter.unusedVariables false
theorem rOp_any (op : Int) (w : World) : Calls Tryd.prog 7 #[.int .i64 op] w fun e w' => e = .returned (.int .i64 (opI op)) ∧ w = w' := by
  have HO := Lib.hid (rText_any op w)
  have he := opT_empty op
  unfold opI
  generalize opT op = t at *
  by_cases h1 : 1 ≤ op ∧ op ≤ 17
  · rw [if_pos h1]
    rw [decide_eq_true h1] at he
    obtain ⟨a, b⟩ := h1
    go_enter Tryd.func7, Tryd.ntmps7
    go_wp2_with (go_at_call 17; refine HO.out.mono ?_; rintro e w' ⟨rfl, rfl⟩)
    go_ret
    exact ⟨rfl, rfl⟩
  · rw [if_neg h1]
    rw [decide_eq_false h1] at he
    clear h1
    go_enter Tryd.func7, Tryd.ntmps7
    go_wp2_with (go_at_call 17; refine HO.out.mono ?_; rintro e w' ⟨rfl, rfl⟩)
    go_ret
    exact ⟨rfl, rfl⟩
def wordsV : Array Value := (wordsL.map fun l => Value.string (bs l)).toArray
theorem rWords_any (w : World) : Calls Tryd.prog 21 #[] w fun e w' => e = .returned (.slice (some ⟨w.heap.size, 0, none⟩) 16 16) ∧ w' = w.alloc (.cells wordsV 9) := by
  go_enter Tryd.func21, Tryd.ntmps21
  go_wp2
  go_ret
  exact ⟨rfl, rfl⟩
end Go.Proofs.YtnpjhndgdlihjaaDoor

namespace Go.Proofs.YtnpjhndgdlihjaaDoor
open Go.RowKit
set_option linter.unusedVariables false
theorem words_cell (w : World) (k : Nat) (hk : k < wordsL.length) : (w.alloc (.cells wordsV 9)).cell? ⟨w.heap.size, k, none⟩ = some (.string (bs wordsL[k])) := by
  have : wordsV[k]? = some (.string (bs wordsL[k])) := by
    unfold wordsV
    rw [List.getElem?_toArray, List.getElem?_map, List.getElem?_eq_getElem hk]
    rfl
  simp [this]
set_option maxHeartbeats 1600000 in
theorem rRes_any (s : ByteArray) (w : World) : Calls Tryd.prog 9 #[.string s] w fun e w' => e = .returned (.int .i64 (resI s)) ∧ Below w.heap.size w w' := by
  have HW := Lib.hid (rWords_any w)
  have HC := Lib.hid (words_cell w)
  have HB := Lib.hid ((Below.refl _ w).alloc (Nat.le_refl _) (.cells wordsV 9))
  go_enter Tryd.func9, Tryd.ntmps9
  go_wp2_with (go_at_call 21; refine HW.out.mono ?_; rintro e w1 ⟨rfl, rfl⟩)
  generalize w.alloc (.cells wordsV 9) = W at *
  go_loop [4] (fun i => ∃ k : Nat, k ≤ 16 ∧ i = .int .i64 k ∧ Hid (∀ j (hj : j < wordsL.length), j < k → ((bs wordsL[j]).toList == s.toList) = false)) (fun i => 16 - (intOf i).toNat)
  case atStart => exact ⟨0, by omega, rfl, Lib.hid (fun j hj h => absurd h (Nat.not_lt_zero _))⟩
  case round =>
    obtain ⟨k, hk, rfl, HS⟩ := hrel
    by_cases hlt : k < 16
    · have hkl : k < wordsL.length := hlt
      have hc := HC.out k hkl
      cases hb : ((bs wordsL[k]).toList == s.toList) with
      | true =>
        have HN : Hid (resI s = 23 + (k : Int)) := Lib.hid (by
          have hf : wordsL.findIdx (fun l => (bs l).toList == s.toList) = k := by
            rw [List.findIdx_eq hkl]
            exact ⟨hb, fun j hj => HS.out j (by omega) hj⟩
          unfold resI
          rw [hf, if_pos hlt])
        generalize bs wordsL[k] = t at *
        go_wp2
        go_ret
        rw [HN.out]
        exact ⟨rfl, HB.out⟩
      | false =>
        have HN : Hid (∀ j (hj : j < wordsL.length), j < k + 1 → ((bs wordsL[j]).toList == s.toList) = false) := Lib.hid (fun j hj h => by
          rcases Nat.lt_or_ge j k with h1 | h1
          · exact HS.out j hj h1
          · obtain rfl : j = k := by omega
            exact hb)
        generalize bs wordsL[k] = t at *
        go_wp2
        go_round
        case rel => exact ⟨k + 1, by omega, by go_num, HN⟩
        case measure => simp [intOf]; omega
    · have HN : Hid (resI s = 0) := Lib.hid (by
        have hf : wordsL.findIdx (fun l => (bs l).toList == s.toList) = wordsL.length := by
          rw [List.findIdx_eq_length]
          intro x hx
          obtain ⟨j, hj, rfl⟩ := List.getElem_of_mem hx
          exact HS.out j hj (by have : wordsL.length = 16 := rfl; omega)
        unfold resI
        rw [hf, if_neg (by decide)])
      obtain rfl : k = 16 := by omega
      go_wp2
      go_ret
      rw [HN.out]
      exact ⟨rfl, HB.out⟩
end Go.Proofs.YtnpjhndgdlihjaaDoor

namespace Go.Proofs.YtnpjhndgdlihjaaDoor
open Go.RowKit
set_option linter.unusedVariables false
set_option maxHeartbeats 1600000 in
theorem rSpell_any (t : Int) (h1 : -9223372036854775808 ≤ t) (w : World) : Calls Tryd.prog 11 #[.int .i64 t] w fun e w' => e = .returned (.string (spT t)) ∧ Below w.heap.size w w' := by
  have HO := Lib.hid (rText_any (t - 5) w)
  have HWD := Lib.hid (rWords_any w)
  have HC := Lib.hid (words_cell w)
  have HB := Lib.hid ((Below.refl _ w).alloc (Nat.le_refl _) (.cells wordsV 9))
  unfold spT
  by_cases e1 : t = 1
  · subst e1
    go_enter Tryd.func11, Tryd.ntmps11
    go_wp2
    go_ret
    exact ⟨rfl, Below.refl _ _⟩
  by_cases e2 : t = 2
  · subst e2
    go_enter Tryd.func11, Tryd.ntmps11
    go_wp2
    go_ret
    exact ⟨rfl, Below.refl _ _⟩
  by_cases e3 : t = 3
  · subst e3
    go_enter Tryd.func11, Tryd.ntmps11
    go_wp2
    go_ret
    exact ⟨rfl, Below.refl _ _⟩
  by_cases e4 : t = 4
  · subst e4
    go_enter Tryd.func11, Tryd.ntmps11
    go_wp2
    go_ret
    exact ⟨rfl, Below.refl _ _⟩
  by_cases e5 : t = 5
  · subst e5
    go_enter Tryd.func11, Tryd.ntmps11
    go_wp2
    go_ret
    exact ⟨rfl, Below.refl _ _⟩
  rw [if_neg e1, if_neg e2, if_neg e3, if_neg e4, if_neg e5]
  have q1 : (t == 1) = false := beq_eq_false_iff_ne.2 e1
  have q2 : (t == 2) = false := beq_eq_false_iff_ne.2 e2
  have q3 : (t == 3) = false := beq_eq_false_iff_ne.2 e3
  have q4 : (t == 4) = false := beq_eq_false_iff_ne.2 e4
  have q5 : (t == 5) = false := beq_eq_false_iff_ne.2 e5
  clear e1 e2 e3 e4 e5
  by_cases hw : 23 ≤ t ∧ t ≤ 38
  · rw [if_pos hw]
    obtain ⟨a, b⟩ := hw
    obtain ⟨k, rfl⟩ : ∃ k : Nat, t = (k : Int) + 23 := ⟨(t - 23).toNat, by omega⟩
    have hk : k < wordsL.length := by show k < 16; omega
    have hc := HC.out k hk
    have hd : wordsL.getD ((k : Int) + 23 - 23).toNat [] = wordsL[k] := by
      rw [show ((k : Int) + 23 - 23).toNat = k by omega, List.getD_eq_getElem?_getD, List.getElem?_eq_getElem hk]
      rfl
    rw [hd]
    generalize bs wordsL[k] = x at *
    have hk' : k < 16 := hk
    have hs : (k : Int) + 23 - 23 = (k : Int) := by omega
    go_enter Tryd.func11, Tryd.ntmps11
    go_wp2_with (go_at_call 21; refine HWD.out.mono ?_; rintro e w1 ⟨rfl, rfl⟩)
    go_ret
    exact ⟨rfl, HB.out⟩
  rw [if_neg hw]
  by_cases ho : 5 < t ∧ t < 23
  · rw [if_pos ho]
    obtain ⟨a, b⟩ := ho
    have c : ¬ 23 ≤ t := by omega
    clear hw
    go_enter Tryd.func11, Tryd.ntmps11
    go_wp2_with (go_at_call 17; refine HO.out.mono ?_; rintro e w' ⟨rfl, rfl⟩)
    go_ret
    exact ⟨rfl, Below.refl _ _⟩
  rw [if_neg ho]
  rcases Int.lt_or_le 38 t with c | c
  · have c2 : ¬ t ≤ 38 := by omega
    have c3 : 23 ≤ t := by omega
    have c4 : ¬ t < 23 := by omega
    have c5 : 5 < t := by omega
    clear hw ho
    go_enter Tryd.func11, Tryd.ntmps11
    go_wp2
    go_ret
    exact ⟨rfl, Below.refl _ _⟩
  · have c2 : ¬ 23 ≤ t := by omega
    have c5 : ¬ 5 < t := by omega
    clear hw ho
    go_enter Tryd.func11, Tryd.ntmps11
    go_wp2
    go_ret
    exact ⟨rfl, Below.refl _ _⟩
end Go.Proofs.YtnpjhndgdlihjaaDoor
