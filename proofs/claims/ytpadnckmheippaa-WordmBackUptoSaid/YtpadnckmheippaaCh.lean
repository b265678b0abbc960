/- Classes of bytes: Class, Special, and the index of a byte in a string. -/
import Derived.Test.YtpadnckmheippaaRows
import Derived.Test.YtpadnckmheippaaBase
import Derived.Test.YtpadnckmheippaaMach
import Derived.WalkSpells
import Derived.WalkLawsBesides
import Derived.BigQuiet
import Derived.Deep.QuietTactic
import Derived.Laws.EntriesVeiled
import Derived.Lib.Bytealg
namespace Go.Proofs.Ytpadnckmheippaa
open Go.RowKit
set_option linter.unusedVariables false

set_option maxHeartbeats 1000000 in
theorem lindex_any (s : ByteArray) (c : Int) (w : World) : Calls Try.prog 76 #[.string s, .int .u8 c] w fun e w' => e = .returned (.int .i64 (Lib.indexByte s.data.toList c.toNat.toUInt8)) ∧ w' = w := by
  go_enter Try.func76, Try.ntmps76
  go_wp2
  rw [run_callFunc_extern Try.func92 (by kernel_rfl) (by kernel_rfl) (by kernel_rfl) (e := Extern.BytealgIndexByte.indexByte) (by kernel_rfl), Lib.run_indexByteString]
  simp only [Result.andThen]
  rw [Oper.upon_value]
  go_wp2
  go_ret
  exact ⟨rfl, rfl⟩
theorem sindex_any (s : ByteArray) (c : Int) (w : World) : Calls Try.prog 52 #[.string s, .int .u8 c] w fun e w' => e = .returned (.int .i64 (Lib.indexByte s.data.toList c.toNat.toUInt8)) ∧ w' = w := by
  go_enter Try.func52, Try.ntmps52
  go_wp2_with fail
  refine (lindex_any _ _ _).mono ?_
  rintro e w' ⟨rfl, rfl⟩
  go_wp2
  go_ret
  exact ⟨rfl, rfl⟩
theorem index_nat (l : List UInt8) (c : UInt8) : decide (0 ≤ Lib.indexByte l c) = l.contains c := by
  induction l with
  | nil => rfl
  | cons b l ih =>
    have hge := Lib.indexByte_ge l c
    unfold Lib.indexByte
    rw [List.contains_cons]
    by_cases h : (b == c) = true
    · have h2 : (c == b) = true := beq_iff_eq.2 (beq_iff_eq.1 h).symm
      rw [if_pos h, h2]
      rfl
    · have h2 : (c == b) = false := beq_eq_false_iff_ne.2 (fun e => h (beq_iff_eq.2 e.symm))
      have h3 : (b == c) = false := by simpa using h
      rw [h3, h2, Bool.false_or, ← ih]
      by_cases h4 : Lib.indexByte l c = -1
      · have h5 : (Lib.indexByte l c == -1) = true := beq_iff_eq.2 h4
        rw [if_neg (by decide), if_pos h5, h4]
      · have h5 : ¬ (Lib.indexByte l c == -1) = true := fun e => h4 (beq_iff_eq.1 e)
        rw [if_neg (by decide), if_neg h5]
        have h6 : 0 ≤ Lib.indexByte l c := by omega
        rw [decide_eq_true h6, decide_eq_true (by omega)]
theorem byte_back (c : UInt8) : ((c.toNat : Int)).toNat.toUInt8 = c := by simp
theorem special_any (c : UInt8) (w : World) : Calls Try.prog 71 #[.int .u8 c.toNat] w fun e w' => e = .returned (.bool (special c)) ∧ w' = w := by
  go_enter Try.func71, Try.ntmps71
  go_wp2_with fail
  refine (sindex_any _ _ _).mono ?_
  rintro e w' ⟨rfl, rfl⟩
  go_wp2
  go_ret
  exact ⟨congrArg (fun b => Ending.returned (Value.bool b)) (index_nat [64, 42, 35, 63, 45, 36, 33] c), rfl⟩
/-- The class of a letter, in numbers; o: the letter with the bit 32. -/
def letterN (n o : Int) : Nat := if 48 ≤ n ∧ n ≤ 57 then 3 else if n = 95 ∨ (97 ≤ o ∧ o ≤ 122) then 4 else 8
def classN (n o : Int) : Nat :=
  if n = 0 then 0 else if n = 32 ∨ n = 9 then 1 else if n = 10 then 2
  else if n = 38 ∨ n = 124 ∨ n = 59 ∨ n = 60 ∨ n = 62 ∨ n = 40 ∨ n = 41 then 5
  else if n = 39 ∨ n = 34 ∨ n = 92 ∨ n = 96 then 6
  else if n = 36 then 7 else letterN n o
def allBytes : List UInt8 := (List.range 256).map UInt8.ofNat
theorem mem_bytes (c : UInt8) : c ∈ allBytes := List.mem_map.2 ⟨c.toNat, List.mem_range.2 c.toNat_lt, by simp⟩
theorem class_all : allBytes.all (fun c => classN c.toNat (bits .or .u8 c.toNat 32) == classOf c) = true := by kernel_rfl
theorem class_eq (c : UInt8) : classN c.toNat (bits .or .u8 c.toNat 32) = classOf c := by
  have := List.all_eq_true.1 class_all c (mem_bytes c)
  exact beq_iff_eq.1 this
theorem letter_any (c : UInt8) (w : World) : Calls Try.prog 91 #[.int .u8 c.toNat] w fun e w' => e = .returned (.int .i64 (letterN c.toNat (bits .or .u8 c.toNat 32))) ∧ w' = w := by
  go_enter Try.func91, Try.ntmps91
  generalize (c.toNat : Int) = n
  go_wp2
  all_goals go_ret
  all_goals refine ⟨?_, rfl⟩
  all_goals refine congrArg (fun k : Int => Ending.returned (Value.int .i64 k)) ?_
  all_goals (
    unfold letterN
    try simp only [beq_iff_eq, beq_eq_false_iff_ne] at *
    repeat' split
    all_goals first | rfl | (exfalso; omega))
theorem class_any (c : UInt8) (w : World) : Calls Try.prog 65 #[.int .u8 c.toNat] w fun e w' => e = .returned (.int .i64 (classOf c)) ∧ w' = w := by
  rw [← class_eq]
  have HL := Lib.hid (letter_any c)
  go_enter Try.func65, Try.ntmps65
  go_wp2_with (go_at_call 91; refine (HL.out _).mono ?_; rintro e w' ⟨rfl, rfl⟩)
  all_goals go_ret
  all_goals refine ⟨?_, rfl⟩
  all_goals refine congrArg (fun k : Int => Ending.returned (Value.int .i64 k)) ?_
  all_goals clear HL
  all_goals generalize (c.toNat : Int) = n at *
  all_goals (
    unfold classN
    try simp only [beq_iff_eq, beq_eq_false_iff_ne] at *
    repeat' split
    all_goals first | rfl | (exfalso; omega))
end Go.Proofs.Ytpadnckmheippaa
