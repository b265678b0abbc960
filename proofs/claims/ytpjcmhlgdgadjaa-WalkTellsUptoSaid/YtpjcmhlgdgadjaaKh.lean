/- Classes of bytes, names. PRINTED by gen16.py. A name; what stands ahead of the first =. Parameters' names, as an iterator. -/
import Derived.Test.YtpjcmhlgdgadjaaProg
import Derived.Test.YtpjcmhlgdgadjaaKa
import Derived.WalkSpells
import Derived.WalkLawsBesides
import Derived.BigQuiet
import Derived.Deep.QuietTactic
import Derived.Laws.EntriesVeiled
import Derived.Lib.Bytealg
import Derived.Test.YtpjcmhlgdgadjaaKf
import Derived.Laws.Closers25b
import Derived.Laws.RangeString
import Derived.Laws.RangeAny
namespace Go.Proofs.Ytpjcmhlgdgadjaa
open Go.RowKit
set_option linter.unusedVariables false
/-- The class of a byte. -/
def classOf (c : UInt8) : Nat :=
  if c = 0 then 0 else if c = 32 ∨ c = 9 then 1 else if c = 10 then 2
  else if c = 38 ∨ c = 124 ∨ c = 59 ∨ c = 60 ∨ c = 62 ∨ c = 40 ∨ c = 41 then 5
  else if c = 39 ∨ c = 34 ∨ c = 92 ∨ c = 96 then 6
  else if c = 36 then 7
  else if 48 ≤ c ∧ c ≤ 57 then 3
  else if c = 95 ∨ (97 ≤ c ||| 32 ∧ c ||| 32 ≤ 122) then 4
  else 8
def nameB : List UInt8 → Bool
  | [] => false
  | c :: r => classOf c == 4 && r.all fun d => classOf d == 4 || classOf d == 3
theorem drop_cons (s : ByteArray) (k : Nat) (h : k < s.size) : s.data.toList.drop k = s[k] :: s.data.toList.drop (k + 1) := by
  rw [List.drop_eq_getElem_cons (by simpa using h)]; rfl
set_option maxHeartbeats 1000000 in
theorem lindex_any (s : ByteArray) (c : Int) (w : World) : Calls Try.prog 75 #[.string s, .int .u8 c] w fun e w' => e = .returned (.int .i64 (Lib.indexByte s.data.toList c.toNat.toUInt8)) ∧ w' = w := by
  go_enter Try.func75, Try.ntmps75
  go_wp2
  rw [run_callFunc_extern Try.func78 (by kernel_rfl) (by kernel_rfl) (by kernel_rfl) (e := Extern.BytealgIndexByte.indexByte) (by kernel_rfl), Lib.run_indexByteString]
  simp only [Result.andThen]
  rw [Oper.upon_value]
  go_wp2
  go_ret
  exact ⟨rfl, rfl⟩
theorem sindex_any (s : ByteArray) (c : Int) (w : World) : Calls Try.prog 67 #[.string s, .int .u8 c] w fun e w' => e = .returned (.int .i64 (Lib.indexByte s.data.toList c.toNat.toUInt8)) ∧ w' = w := by
  go_enter Try.func67, Try.ntmps67
  go_wp2_with fail
  refine (lindex_any _ _ _).mono ?_
  rintro e w' ⟨rfl, rfl⟩
  go_wp2
  go_ret
  exact ⟨rfl, rfl⟩
theorem byte_back (c : UInt8) : ((c.toNat : Int)).toNat.toUInt8 = c := by simp
/-- The class of a letter, in numbers; o: the letter with the bit 32. -/
def letterN (n o : Int) : Nat := if 48 ≤ n ∧ n ≤ 57 then 3 else if n = 95 ∨ (97 ≤ o ∧ o ≤ 122) then 4 else 8
def classN (n o : Int) : Nat :=
  if n = 0 then 0 else if n = 32 ∨ n = 9 then 1 else if n = 10 then 2
  else if n = 38 ∨ n = 124 ∨ n = 59 ∨ n = 60 ∨ n = 62 ∨ n = 40 ∨ n = 41 then 5
  else if n = 39 ∨ n = 34 ∨ n = 92 ∨ n = 96 then 6
  else if n = 36 then 7 else letterN n o
def allBytes : List UInt8 := (List.range 256).map UInt8.ofNat
theorem mem_bytes (c : UInt8) : c ∈ allBytes := List.mem_map.2 ⟨c.toNat, List.mem_range.2 c.toNat_lt, by simp⟩
theorem class_all : allBytes.all (fun c => classN c.toNat (bits .or .u8 c.toNat 32) == classOf c) = true := by kernel_rfl
theorem class_eq (c : UInt8) : classN c.toNat (bits .or .u8 c.toNat 32) = classOf c := by
  have := List.all_eq_true.1 class_all c (mem_bytes c)
  exact beq_iff_eq.1 this
theorem letter_any (c : UInt8) (w : World) : Calls Try.prog 77 #[.int .u8 c.toNat] w fun e w' => e = .returned (.int .i64 (letterN c.toNat (bits .or .u8 c.toNat 32))) ∧ w' = w := by
  go_enter Try.func77, Try.ntmps77
  generalize (c.toNat : Int) = n
  go_wp2
  all_goals go_ret
  all_goals refine ⟨?_, rfl⟩
  all_goals refine congrArg (fun k : Int => Ending.returned (Value.int .i64 k)) ?_
  all_goals (
    unfold letterN
    try simp only [beq_iff_eq, beq_eq_false_iff_ne] at *
    repeat' split
    all_goals first | rfl | (exfalso; omega))
theorem class_any (c : UInt8) (w : World) : Calls Try.prog 73 #[.int .u8 c.toNat] w fun e w' => e = .returned (.int .i64 (classOf c)) ∧ w' = w := by
  rw [← class_eq]
  have HL := Lib.hid (letter_any c)
  go_enter Try.func73, Try.ntmps73
  go_wp2_with (go_at_call 77; refine (HL.out _).mono ?_; rintro e w' ⟨rfl, rfl⟩)
  all_goals go_ret
  all_goals refine ⟨?_, rfl⟩
  all_goals refine congrArg (fun k : Int => Ending.returned (Value.int .i64 k)) ?_
  all_goals clear HL
  all_goals generalize (c.toNat : Int) = n at *
  all_goals (
    unfold classN
    try simp only [beq_iff_eq, beq_eq_false_iff_ne] at *
    repeat' split
    all_goals first | rfl | (exfalso; omega))
def rclassN (n : Int) : Nat :=
  if n = 0 then 0 else if n = 32 ∨ n = 9 then 1 else if n = 10 then 2
  else if 48 ≤ n ∧ n ≤ 57 then 3
  else if (97 ≤ n ∧ n ≤ 122) ∨ (65 ≤ n ∧ n ≤ 90) ∨ n = 95 then 4
  else if n = 38 ∨ n = 124 ∨ n = 59 ∨ n = 60 ∨ n = 62 ∨ n = 40 ∨ n = 41 then 5
  else if n = 39 ∨ n = 34 ∨ n = 92 ∨ n = 96 then 6
  else if n = 36 then 7 else 8
theorem rclass_all : allBytes.all (fun c => rclassN c.toNat == classOf c) = true := by kernel_rfl
theorem rclass_eq (c : UInt8) : rclassN c.toNat = classOf c := by
  have := List.all_eq_true.1 rclass_all c (mem_bytes c)
  exact beq_iff_eq.1 this
theorem ret_nat {a b : Nat} (h : a = b) : Ending.returned (.int .i64 (a : Int)) = .returned (.int .i64 (b : Int)) := by rw [h]
set_option maxHeartbeats 6400000 in
theorem rclass_any (c : UInt8) (w : World) : Calls Try.prog 74 #[.int .u8 c.toNat] w fun e w' => e = .returned (.int .i64 (classOf c)) ∧ w = w' := by
  rw [← rclass_eq]
  generalize (c.toNat : Int) = n
  have hreg : (n < 48) ∨ (48 ≤ n ∧ n ≤ 57) ∨ (57 < n ∧ n < 65) ∨ (65 ≤ n ∧ n ≤ 90) ∨ (90 < n ∧ n < 97) ∨ (97 ≤ n ∧ n ≤ 122) ∨ (122 < n) := by omega
  rcases hreg with h | h | h | h | h | h | h
  · have q0 : n < 48 := by omega
    have q1 : n < 65 := by omega
    have q2 : n < 97 := by omega
    have r95 : (n == 95) = false := beq_eq_false_iff_ne.2 (by omega)
    have r124 : (n == 124) = false := beq_eq_false_iff_ne.2 (by omega)
    have r59 : (n == 59) = false := beq_eq_false_iff_ne.2 (by omega)
    have r60 : (n == 60) = false := beq_eq_false_iff_ne.2 (by omega)
    have r62 : (n == 62) = false := beq_eq_false_iff_ne.2 (by omega)
    have r92 : (n == 92) = false := beq_eq_false_iff_ne.2 (by omega)
    have r96 : (n == 96) = false := beq_eq_false_iff_ne.2 (by omega)
    clear h
    go_enter Try.func74, Try.ntmps74
    go_wp2
    all_goals go_ret
    all_goals refine ⟨ret_nat ?_, rfl⟩
    all_goals first
      | rfl
      | decide
      | (unfold rclassN
         try simp only [beq_iff_eq, beq_eq_false_iff_ne] at *
         repeat' split
         all_goals first | rfl | (exfalso; omega))
  · have q0 : 48 ≤ n := by omega
    have q1 : n ≤ 57 := by omega
    have r0 : (n == 0) = false := beq_eq_false_iff_ne.2 (by omega)
    have r32 : (n == 32) = false := beq_eq_false_iff_ne.2 (by omega)
    have r9 : (n == 9) = false := beq_eq_false_iff_ne.2 (by omega)
    have r10 : (n == 10) = false := beq_eq_false_iff_ne.2 (by omega)
    clear h
    go_enter Try.func74, Try.ntmps74
    go_wp2
    all_goals go_ret
    all_goals refine ⟨ret_nat ?_, rfl⟩
    all_goals first
      | rfl
      | decide
      | (unfold rclassN
         try simp only [beq_eq_false_iff_ne] at *
         repeat' split
         all_goals first | rfl | (exfalso; omega))
  · have q0 : 48 ≤ n := by omega
    have q1 : 57 < n := by omega
    have q2 : n < 65 := by omega
    have q3 : n < 97 := by omega
    have r0 : (n == 0) = false := beq_eq_false_iff_ne.2 (by omega)
    have r32 : (n == 32) = false := beq_eq_false_iff_ne.2 (by omega)
    have r9 : (n == 9) = false := beq_eq_false_iff_ne.2 (by omega)
    have r10 : (n == 10) = false := beq_eq_false_iff_ne.2 (by omega)
    have r95 : (n == 95) = false := beq_eq_false_iff_ne.2 (by omega)
    have r38 : (n == 38) = false := beq_eq_false_iff_ne.2 (by omega)
    have r124 : (n == 124) = false := beq_eq_false_iff_ne.2 (by omega)
    have r40 : (n == 40) = false := beq_eq_false_iff_ne.2 (by omega)
    have r41 : (n == 41) = false := beq_eq_false_iff_ne.2 (by omega)
    have r39 : (n == 39) = false := beq_eq_false_iff_ne.2 (by omega)
    have r34 : (n == 34) = false := beq_eq_false_iff_ne.2 (by omega)
    have r92 : (n == 92) = false := beq_eq_false_iff_ne.2 (by omega)
    have r96 : (n == 96) = false := beq_eq_false_iff_ne.2 (by omega)
    have r36 : (n == 36) = false := beq_eq_false_iff_ne.2 (by omega)
    clear h
    go_enter Try.func74, Try.ntmps74
    go_wp2
    all_goals go_ret
    all_goals refine ⟨ret_nat ?_, rfl⟩
    all_goals first
      | rfl
      | decide
      | (unfold rclassN
         try simp only [beq_iff_eq, beq_eq_false_iff_ne] at *
         repeat' split
         all_goals first | rfl | (exfalso; omega))
  · have q0 : 48 ≤ n := by omega
    have q1 : 57 < n := by omega
    have q2 : 65 ≤ n := by omega
    have q3 : n ≤ 90 := by omega
    have q4 : n < 97 := by omega
    have r0 : (n == 0) = false := beq_eq_false_iff_ne.2 (by omega)
    have r32 : (n == 32) = false := beq_eq_false_iff_ne.2 (by omega)
    have r9 : (n == 9) = false := beq_eq_false_iff_ne.2 (by omega)
    have r10 : (n == 10) = false := beq_eq_false_iff_ne.2 (by omega)
    clear h
    go_enter Try.func74, Try.ntmps74
    go_wp2
    all_goals go_ret
    all_goals refine ⟨ret_nat ?_, rfl⟩
    all_goals first
      | rfl
      | decide
      | (unfold rclassN
         try simp only [beq_eq_false_iff_ne] at *
         repeat' split
         all_goals first | rfl | (exfalso; omega))
  · have q0 : 48 ≤ n := by omega
    have q1 : 57 < n := by omega
    have q2 : 65 ≤ n := by omega
    have q3 : 90 < n := by omega
    have q4 : n < 97 := by omega
    have r0 : (n == 0) = false := beq_eq_false_iff_ne.2 (by omega)
    have r32 : (n == 32) = false := beq_eq_false_iff_ne.2 (by omega)
    have r9 : (n == 9) = false := beq_eq_false_iff_ne.2 (by omega)
    have r10 : (n == 10) = false := beq_eq_false_iff_ne.2 (by omega)
    have r38 : (n == 38) = false := beq_eq_false_iff_ne.2 (by omega)
    have r124 : (n == 124) = false := beq_eq_false_iff_ne.2 (by omega)
    have r59 : (n == 59) = false := beq_eq_false_iff_ne.2 (by omega)
    have r60 : (n == 60) = false := beq_eq_false_iff_ne.2 (by omega)
    have r62 : (n == 62) = false := beq_eq_false_iff_ne.2 (by omega)
    have r40 : (n == 40) = false := beq_eq_false_iff_ne.2 (by omega)
    have r41 : (n == 41) = false := beq_eq_false_iff_ne.2 (by omega)
    have r39 : (n == 39) = false := beq_eq_false_iff_ne.2 (by omega)
    have r34 : (n == 34) = false := beq_eq_false_iff_ne.2 (by omega)
    have r36 : (n == 36) = false := beq_eq_false_iff_ne.2 (by omega)
    clear h
    go_enter Try.func74, Try.ntmps74
    go_wp2
    all_goals go_ret
    all_goals refine ⟨ret_nat ?_, rfl⟩
    all_goals first
      | rfl
      | decide
      | (unfold rclassN
         try simp only [beq_iff_eq, beq_eq_false_iff_ne] at *
         repeat' split
         all_goals first | rfl | (exfalso; omega))
  · have q0 : 48 ≤ n := by omega
    have q1 : 57 < n := by omega
    have q2 : 97 ≤ n := by omega
    have q3 : n ≤ 122 := by omega
    have r0 : (n == 0) = false := beq_eq_false_iff_ne.2 (by omega)
    have r32 : (n == 32) = false := beq_eq_false_iff_ne.2 (by omega)
    have r9 : (n == 9) = false := beq_eq_false_iff_ne.2 (by omega)
    have r10 : (n == 10) = false := beq_eq_false_iff_ne.2 (by omega)
    clear h
    go_enter Try.func74, Try.ntmps74
    go_wp2
    all_goals go_ret
    all_goals refine ⟨ret_nat ?_, rfl⟩
    all_goals first
      | rfl
      | decide
      | (unfold rclassN
         try simp only [beq_eq_false_iff_ne] at *
         repeat' split
         all_goals first | rfl | (exfalso; omega))
  · have q0 : 48 ≤ n := by omega
    have q1 : 57 < n := by omega
    have q2 : 65 ≤ n := by omega
    have q3 : 90 < n := by omega
    have q4 : 97 ≤ n := by omega
    have q5 : 122 < n := by omega
    have r0 : (n == 0) = false := beq_eq_false_iff_ne.2 (by omega)
    have r32 : (n == 32) = false := beq_eq_false_iff_ne.2 (by omega)
    have r9 : (n == 9) = false := beq_eq_false_iff_ne.2 (by omega)
    have r10 : (n == 10) = false := beq_eq_false_iff_ne.2 (by omega)
    have r95 : (n == 95) = false := beq_eq_false_iff_ne.2 (by omega)
    have r38 : (n == 38) = false := beq_eq_false_iff_ne.2 (by omega)
    have r59 : (n == 59) = false := beq_eq_false_iff_ne.2 (by omega)
    have r60 : (n == 60) = false := beq_eq_false_iff_ne.2 (by omega)
    have r62 : (n == 62) = false := beq_eq_false_iff_ne.2 (by omega)
    have r40 : (n == 40) = false := beq_eq_false_iff_ne.2 (by omega)
    have r41 : (n == 41) = false := beq_eq_false_iff_ne.2 (by omega)
    have r39 : (n == 39) = false := beq_eq_false_iff_ne.2 (by omega)
    have r34 : (n == 34) = false := beq_eq_false_iff_ne.2 (by omega)
    have r92 : (n == 92) = false := beq_eq_false_iff_ne.2 (by omega)
    have r96 : (n == 96) = false := beq_eq_false_iff_ne.2 (by omega)
    have r36 : (n == 36) = false := beq_eq_false_iff_ne.2 (by omega)
    clear h
    go_enter Try.func74, Try.ntmps74
    go_wp2
    all_goals go_ret
    all_goals refine ⟨ret_nat ?_, rfl⟩
    all_goals first
      | rfl
      | decide
      | (unfold rclassN
         try simp only [beq_eq_false_iff_ne] at *
         repeat' split
         all_goals first | rfl | (exfalso; omega))
theorem ret_bool {a b : Bool} (h : a = b) : Ending.returned (.bool a) = .returned (.bool b) := by rw [h]

theorem drop_at (s : ByteArray) (k : Nat) (h : k < s.size) : s.data.toList.drop k = s[k] :: s.data.toList.drop (k + 1) := drop_cons s k h
theorem drop_end (s : ByteArray) : s.data.toList.drop s.size = [] := List.drop_of_length_le (by simp)
theorem list_empty (s : ByteArray) : s.data.toList.isEmpty = decide (s.size = 0) := by
  have h : s.data.toList.length = s.size := by simp
  cases hl : s.data.toList with
  | nil => rw [hl] at h; simp at h; simp [← h]
  | cons a l => rw [hl] at h; simp at h; simp [← h]
theorem size_pos (s : ByteArray) : decide (0 < s.size) = (!decide (s.size = 0) && true) := by
  rw [Bool.eq_iff_iff, Bool.and_true, Bool.not_eq_true', decide_eq_true_eq, decide_eq_false_iff_not]
  omega
theorem nz_false (s : ByteArray) (b : Bool) (h : s.size = 0) : (!decide (s.size = 0) && b) = false := by rw [decide_eq_true h]; rfl
theorem nz_true (s : ByteArray) (h : ¬ s.size = 0) : (!decide (s.size = 0) && true) = true := by rw [decide_eq_false h]; rfl
def namL (l : List UInt8) : Bool := l.all fun d => classOf d == 4 || classOf d == 3
/-- A name from place k on. -/
def namF (k : Nat) (l : List UInt8) : Bool := if k = 0 then (match l with | [] => true | c :: r => classOf c == 4 && namL r) else namL l
theorem nameB_eq (s : ByteArray) : nameB s.data.toList = (!decide (s.size = 0) && namF 0 s.data.toList) := by
  rw [← list_empty]
  cases s.data.toList with
  | nil => rfl
  | cons c r => simp [nameB, namF, namL]
set_option maxHeartbeats 1600000 in
theorem rname_any (s : ByteArray) (hs : s.size ≤ 9223372036854775807) (w : World) : Calls Try.prog 66 #[.string s] w fun e w' => e = .returned (.bool (nameB s.data.toList)) ∧ w = w' := by
  have HD0 := Lib.hid (nameB_eq s)
  go_enter Try.func66, Try.ntmps66
  go_wp2
  go_loop [3, 4] (fun i _ => ∃ k : Nat, k ≤ s.size ∧ i = .int .i64 k ∧ Hid (namF 0 s.data.toList = namF k (s.data.toList.drop k))) (fun i _ => s.size - (intOf i).toNat)
  case atStart => exact ⟨0, Nat.zero_le _, rfl, Lib.hid rfl⟩
  case round =>
    obtain ⟨k, hk, rfl, HL⟩ := hrel
    by_cases hlt : k < s.size
    · have HD := Lib.hid (drop_at s k hlt)
      have HC := Lib.hid (rclass_any s[k] w)
      have hz : s.size ≠ 0 := by omega
      by_cases hok : classOf s[k] = 4 ∨ (classOf s[k] = 3 ∧ k ≠ 0)
      · have HS : Hid (namF 0 s.data.toList = namF (k + 1) (s.data.toList.drop (k + 1))) := Lib.hid (by
          rw [HL.out, HD.out]
          unfold namF
          rw [if_neg (Nat.succ_ne_zero k)]
          by_cases hk0 : k = 0
          · rw [if_pos hk0]
            have h4 : classOf s[k] = 4 := by omega
            simp [h4]
          · rw [if_neg hk0]
            rcases hok with h | h
            · simp [namL, h]
            · simp [namL, h.1])
        rcases hok with h4 | ⟨h3, hk0⟩
        · rw [h4] at HC
          clear h4
          go_wp2_with (go_at_call 74; refine HC.out.mono ?_; rintro e w' ⟨rfl, rfl⟩)
          go_round
          case rel => exact ⟨k + 1, by omega, by go_num, HS⟩
          case measure => simp [intOf]; omega
        · rw [h3] at HC
          have hk1 : ((k : Int) == 0) = false := by simp; omega
          clear h3
          go_wp2_with (go_at_call 74; refine HC.out.mono ?_; rintro e w' ⟨rfl, rfl⟩)
          go_round
          case rel => exact ⟨k + 1, by omega, by go_num, HS⟩
          case measure => simp [intOf]; omega
      · have HS : Hid (namF 0 s.data.toList = false) := Lib.hid (by
          rw [HL.out, HD.out]
          unfold namF
          have h4 : classOf s[k] ≠ 4 := fun h => hok (.inl h)
          by_cases hk0 : k = 0
          · rw [if_pos hk0]
            simp [h4]
          · rw [if_neg hk0]
            have h3 : classOf s[k] ≠ 3 := fun h => hok (.inr ⟨h, hk0⟩)
            simp [namL, h4, h3])
        have hne4 : ((classOf s[k] : Int) != 4) = true := by
          have : classOf s[k] ≠ 4 := fun h => hok (.inl h)
          simp; omega
        by_cases h3 : classOf s[k] = 3
        · have hk0 : k = 0 := by omega
          subst hk0
          rw [h3] at HC
          clear h3 hok hne4
          go_wp2_with (go_at_call 74; refine HC.out.mono ?_; rintro e w' ⟨rfl, rfl⟩)
          go_ret
          exact ⟨ret_bool (by rw [HD0.out, HS.out, Bool.and_false]), rfl⟩
        · have hne3 : ((classOf s[k] : Int) != 3) = true := by simp; omega
          clear hok
          generalize classOf s[k] = q at *
          clear h3
          go_wp2_with (go_at_call 74; refine HC.out.mono ?_; rintro e w' ⟨rfl, rfl⟩)
          go_ret
          exact ⟨ret_bool (by rw [HD0.out, HS.out, Bool.and_false]), rfl⟩
    · obtain rfl : k = s.size := by omega
      have h1 : namF 0 s.data.toList = true := by
        rw [HL.out, drop_end]
        unfold namF
        split <;> rfl
      have H1 := Lib.hid h1
      clear h1 HL
      go_wp2
      go_ret
      refine ⟨ret_bool ?_, rfl⟩
      rw [HD0.out, H1.out]
      exact size_pos s
end Go.Proofs.Ytpjcmhlgdgadjaa

namespace Go.Proofs.Ytpjcmhlgdgadjaa
open Go.RowKit
set_option linter.unusedVariables false
def asciiB (l : List UInt8) : Bool := l.all (fun c => decide (c.toNat < 128))
theorem asciiB_cons (c : UInt8) (l : List UInt8) : asciiB (c :: l) = (decide (c.toNat < 128) && asciiB l) := rfl
theorem ascii_any (s : ByteArray) (hs : s.size ≤ 1048576) (w : World) : Calls Try.prog 70 #[.string s] w fun e w' => e = .returned (.bool (asciiB s.data.toList)) ∧ w' = w := by
  go_enter Try.func70, Try.ntmps70
  go_wp2
  go_loop [3, 6] (fun _ i => ∃ k : Nat, k ≤ s.size ∧ i = .int .i64 k ∧ Hid (asciiB s.data.toList = asciiB (s.data.toList.drop k))) (fun _ i => s.size - (intOf i).toNat)
  case atStart => exact ⟨0, Nat.zero_le _, rfl, Lib.hid rfl⟩
  case round =>
    obtain ⟨k, hk, rfl, HL⟩ := hrel
    by_cases hlt : k < s.size
    · have hd := drop_at s k hlt
      by_cases h128 : s[k].toNat < 128
      · have HS : Hid (asciiB s.data.toList = asciiB (s.data.toList.drop (k + 1))) := Lib.hid (by
          rw [HL.out, hd, asciiB_cons, decide_eq_true h128, Bool.true_and])
        have h1 : ¬ (128 : Int) ≤ s[k].toNat := by omega
        clear hd
        go_wp2
        go_round
        case rel => exact ⟨k + 1, by omega, by go_num, HS⟩
        case measure => simp [intOf]; omega
      · have HS : Hid (asciiB s.data.toList = false) := Lib.hid (by
          rw [HL.out, hd, asciiB_cons, decide_eq_false h128, Bool.false_and])
        have h1 : (128 : Int) ≤ s[k].toNat := by omega
        clear hd
        go_wp2
        go_ret
        exact ⟨ret_bool HS.out.symm, rfl⟩
    · obtain rfl : k = s.size := by omega
      have HS : Hid (asciiB s.data.toList = true) := Lib.hid (by rw [HL.out, drop_end]; rfl)
      go_wp2
      go_ret
      exact ⟨ret_bool HS.out.symm, rfl⟩
theorem name1_any (c : UInt8) (k : Nat) (hk : k ≤ 1048576) (w : World) : Calls Try.prog 72 #[.int .i64 k, .int .u8 c.toNat] w fun e w' => e = .returned (.bool (classOf c == 4 || (classOf c == 3 && decide (k ≠ 0)))) ∧ w' = w := by
  have HC := Lib.hid (class_any c w)
  by_cases h4 : classOf c = 4
  · rw [h4] at HC ⊢
    clear h4
    go_enter Try.func72, Try.ntmps72
    go_wp2_with (go_at_call 73; refine HC.out.mono ?_; rintro e w' ⟨rfl, rfl⟩)
    go_ret
    exact ⟨rfl, rfl⟩
  · have h4b : ((classOf c : Int) == 4) = false := by simp; omega
    have h4c : (classOf c == 4) = false := by simpa using h4
    rw [h4c]
    by_cases h3 : classOf c = 3
    · rw [h3] at HC ⊢
      clear h4b h4c h4 h3
      by_cases h0 : k = 0
      · subst h0
        go_enter Try.func72, Try.ntmps72
        go_wp2_with (go_at_call 73; refine HC.out.mono ?_; rintro e w' ⟨rfl, rfl⟩)
        go_ret
        exact ⟨rfl, rfl⟩
      · have hp : (0 : Int) < k := by omega
        have hb : (false || ((3 : Nat) == 3 && decide (k ≠ 0))) = true := by simp [h0]
        rw [hb]
        clear hb
        go_enter Try.func72, Try.ntmps72
        go_wp2_with (go_at_call 73; refine HC.out.mono ?_; rintro e w' ⟨rfl, rfl⟩)
        go_ret
        exact ⟨by simp; omega, rfl⟩
    · have h3b : ((classOf c : Int) == 3) = false := by simp; omega
      have h3c : (classOf c == 3) = false := by simpa using h3
      rw [h3c]
      generalize (classOf c : Int) = K at *
      go_enter Try.func72, Try.ntmps72
      go_wp2_with (go_at_call 73; refine HC.out.mono ?_; rintro e w' ⟨rfl, rfl⟩)
      go_ret
      exact ⟨rfl, rfl⟩
theorem namF_succ (k : Nat) (c : UInt8) (r : List UInt8) : namF k (c :: r) = ((classOf c == 4 || (classOf c == 3 && decide (k ≠ 0))) && namF (k + 1) r) := by
  unfold namF
  rw [if_neg (Nat.succ_ne_zero k)]
  by_cases h0 : k = 0
  · subst h0
    simp
  · rw [if_neg h0]
    simp [namL, h0]
theorem namF_nil (k : Nat) : namF k [] = true := by unfold namF; split <;> rfl
theorem iterPos_iter (w : World) (s : ByteArray) (pos : Nat) : (w.iter s pos).iterPos w.heap.size = pos := by simp [World.iterPos, World.iter_heap]
set_option maxHeartbeats 1600000 in
theorem each2_any (s : ByteArray) (hs : s.size ≤ 1048576) (ha : ∀ i (h : i < s.size), (s[i]'h).toNat < 128) (w : World) : Calls Try.prog 71 #[.string s, .func (.func 72) #[] #[]] w fun e w' => e = .returned (.bool (nameB s.data.toList)) ∧ Below w.heap.size w w' := by
  have HD0 := Lib.hid (nameB_eq s)
  have HA := Lib.hid ha
  clear ha
  go_enter Try.func71, Try.ntmps71
  go_wp2
  go_loopw [5, 8] (fun _ _ wr => ∃ k : Nat, k ≤ s.size ∧ wr = w.iter s k ∧ Hid (namF 0 s.data.toList = namF k (s.data.toList.drop k))) (fun _ _ wr => s.size - wr.iterPos w.heap.size)
  case atStart => exact ⟨0, Nat.zero_le _, rfl, Lib.hid rfl⟩
  case round =>
    obtain ⟨k, hk, rfl, HL⟩ := hrel
    by_cases hlt : k < s.size
    · have hd := drop_at s k hlt
      have hnx := fun ty => run_next_ascii (P := Try.prog) w s k ty hlt (HA.out k hlt)
      have hcl := name1_any s[k] k (by omega) (w.iter s (k + 1))
      have hst := namF_succ k s[k] (s.data.toList.drop (k + 1))
      rw [← hd] at hst
      cases hv : (classOf s[k] == 4 || (classOf s[k] == 3 && decide (k ≠ 0))) with
      | true =>
        rw [hv] at hcl hst
        have HS : Hid (namF 0 s.data.toList = namF (k + 1) (s.data.toList.drop (k + 1))) := Lib.hid (by rw [HL.out, hst, Bool.true_and])
        have HC := Lib.hid hcl
        have hmu := iterPos_iter w s k
        have hmu2 := iterPos_iter w s (k + 1)
        clear hd hcl hst hv
        go_wp2_with (go_at_call 72; refine HC.out.mono ?_; rintro e w' ⟨rfl, rfl⟩)
        go_roundw
        case rel => exact ⟨k + 1, by omega, rfl, HS⟩
        case measure => rw [hmu, hmu2]; omega
      | false =>
        rw [hv] at hcl hst
        have HS : Hid (nameB s.data.toList = false) := Lib.hid (by rw [HD0.out, HL.out, hst, Bool.false_and, Bool.and_false])
        have HC := Lib.hid hcl
        clear hd hcl hst hv
        go_wp2_with (go_at_call 72; refine HC.out.mono ?_; rintro e w' ⟨rfl, rfl⟩)
        go_ret
        exact ⟨ret_bool HS.out.symm, below_alloc _ _⟩
    · obtain rfl : k = s.size := by omega
      have hnx := fun ty => run_next_end (P := Try.prog) w s s.size ty (Nat.lt_irrefl _)
      have hn1 : namF 0 s.data.toList = true := by rw [HL.out, drop_end, namF_nil]
      by_cases h0 : s.size = 0
      · have hse : s = ⟨#[]⟩ := by
          cases s with
          | mk d => congr 1; exact Array.eq_empty_of_size_eq_zero h0
        have HS : Hid (nameB s.data.toList = false) := Lib.hid (by rw [HD0.out, decide_eq_true h0]; rfl)
        have HSE := Lib.hid hse
        clear h0 hn1 hse
        go_wp2
        go_ret
        refine ⟨ret_bool ?_, below_alloc _ _⟩
        have he : s.toList = [] := (toList_nil_iff_emptyBytes s).2 HSE.out
        rw [HS.out, he]
        rfl
      · have HS : Hid (nameB s.data.toList = true) := Lib.hid (by rw [HD0.out, decide_eq_false h0, hn1]; rfl)
        have hne : s ≠ ⟨#[]⟩ := fun h => h0 (by rw [h]; rfl)
        have hne2 : s.toList ≠ [] := fun h => hne ((toList_nil_iff_emptyBytes s).1 h)
        clear h0 hn1
        go_wp2
        go_ret
        refine ⟨ret_bool ?_, below_alloc _ _⟩
        rw [HS.out]
        simpa using hne2
theorem class_ascii : allBytes.all (fun c => decide (c.toNat < 128) || !(classOf c == 3 || classOf c == 4)) = true := by kernel_rfl
theorem class_lt {c : UInt8} (h : classOf c = 3 ∨ classOf c = 4) : c.toNat < 128 := by
  have h1 := List.all_eq_true.1 class_ascii c (mem_bytes c)
  rcases h with h | h <;> simpa [h] using h1
theorem namF_ascii : ∀ (l : List UInt8) (k : Nat), namF k l = true → asciiB l = true := by
  intro l
  induction l with
  | nil => intro _ _; rfl
  | cons c r ih =>
    intro k h
    rw [namF_succ, Bool.and_eq_true] at h
    rw [asciiB_cons, ih _ h.2, Bool.and_true]
    have h1 := h.1
    rw [Bool.or_eq_true, Bool.and_eq_true, beq_iff_eq, beq_iff_eq] at h1
    exact decide_eq_true (class_lt (h1.elim .inr (fun h => .inl h.1)))
theorem ascii_at {s : ByteArray} (h : asciiB s.data.toList = true) (i : Nat) (hi : i < s.size) : (s[i]'hi).toNat < 128 := by
  have h1 := List.all_eq_true.1 h (s[i]) (by
    have := drop_at s i hi
    exact List.mem_of_mem_drop (by rw [this]; exact List.mem_cons_self ..))
  simpa using h1
theorem name_any (s : ByteArray) (hs : s.size ≤ 1048576) (w : World) : Calls Try.prog 65 #[.string s] w fun e w' => e = .returned (.bool (nameB s.data.toList)) ∧ Below w.heap.size w w' := by
  have HC := Lib.hid (ascii_any s hs w)
  cases ha : asciiB s.data.toList with
  | true =>
    rw [ha] at HC
    have HE := Lib.hid (each2_any s hs (ascii_at ha) w)
    clear ha
    go_enter Try.func65, Try.ntmps65
    go_wp2_with (first
      | (go_at_call 70; refine HC.out.mono ?_; rintro e w' ⟨rfl, rfl⟩)
      | (go_at_call 71; refine HE.out.mono ?_; rintro e w' ⟨rfl, hb⟩))
    go_ret
    exact ⟨rfl, hb⟩
  | false =>
    rw [ha] at HC
    have HN : Hid (nameB s.data.toList = false) := Lib.hid (by
      rw [nameB_eq]
      cases h : namF 0 s.data.toList with
      | true => rw [namF_ascii _ _ h] at ha; cases ha
      | false => exact Bool.and_false _)
    clear ha
    go_enter Try.func65, Try.ntmps65
    go_wp2_with (go_at_call 70; refine HC.out.mono ?_; rintro e w' ⟨rfl, rfl⟩)
    go_ret
    exact ⟨ret_bool HN.out.symm, Below.refl _ _⟩
end Go.Proofs.Ytpjcmhlgdgadjaa

namespace Go.Proofs.Ytpjcmhlgdgadjaa
open Go.RowKit
set_option linter.unusedVariables false
attribute [local go_sem] Oper.semAt_some
def nameP (p : Tr) : List ByteArray := if p.k 0 = 5 ∧ nameB (p.s 1).data.toList = true then [p.s 1] else []
def namesL : List Tr → List ByteArray
  | [] => []
  | p :: r => nameP p ++ (namesL (p.r 3) ++ namesL r)
termination_by l => szL l
decreasing_by
  · have := p.sz_r 3; simp only [szL]; omega
  · have := p.sz_pos; simp only [szL]; omega
theorem namesL_nil : namesL [] = [] := by rw [namesL]
theorem namesL_cons (p : Tr) (r : List Tr) : namesL (p :: r) = nameP p ++ (namesL (p.r 3) ++ namesL r) := by rw [namesL]
theorem namesL_append (a b : List Tr) : namesL (a ++ b) = namesL a ++ namesL b := by
  induction a with
  | nil => rw [namesL_nil]; simp
  | cons p a ih => rw [List.cons_append, namesL_cons, namesL_cons, ih]; simp
theorem namesL_snoc (l : List Tr) (k : Nat) (h : k < l.length) : namesL (l.take (k + 1)) = namesL (l.take k) ++ (nameP l[k] ++ namesL (l[k].r 3)) := by
  rw [List.take_succ_eq_append_getElem h, namesL_append, namesL_cons, namesL_nil, List.append_nil]
theorem namesL_take (l : List Tr) (k : Nat) : namesL (l.take k) <+: namesL l := by
  conv => rhs; rw [← List.take_append_drop k l, namesL_append]
  exact List.prefix_append _ _
theorem nameP_len (p : Tr) : (nameP p).length ≤ 1 := by unfold nameP; split <;> simp
theorem namesL_len (N : Nat) : ∀ l, szL l ≤ N → (namesL l).length ≤ szL l := by
  induction N with
  | zero =>
    intro l h
    cases l with
    | nil => rw [namesL_nil]; simp
    | cons p r => have := p.sz_pos; simp only [szL] at h; omega
  | succ N ih =>
    intro l
    induction l with
    | nil => intro _; rw [namesL_nil]; simp
    | cons p r ihr =>
      intro h
      simp only [szL] at h ⊢
      have h1 := ih (p.r 3) (by have := p.sz_r 3; omega)
      have h2 := ihr (by omega)
      have h3 := nameP_len p
      have h4 := p.sz_r 3
      rw [namesL_cons, List.length_append, List.length_append]
      omega
def encS (s : ByteArray) : Array Value := #[.string s]
/-- What a call of 'all' promises. -/
def AllOK (l0 yb ab : Nat) (A0 : Nat → Prop) (xs : List ByteArray) (J : List ByteArray → (Nat → Prop) → World → Prop) (Jx : Unit → (Nat → Prop) → World → Prop) (l : List Tr) : Prop :=
  ∀ (pre : List ByteArray) (A : Nat → Prop) (W : World) (v : Value), pre ++ namesL l <+: xs → (∀ b, A0 b → A b) → (∀ b, A b → b < W.heap.size) → A yb → A ab → Blk W yb 80 #[.func (.yield l0) #[] #[]] → Blk W ab 81 #[.func (.func 64) #[] #[.pointer (some ⟨yb, 0, none⟩), .pointer (some ⟨ab, 0, none⟩)]] →
    RowAt A W 5 v l → (∀ x ∈ l, Lies A W .part x) → J pre A W →
    CallsIn Fence.wide 0 Try.prog 64 #[v, .pointer (some ⟨yb, 0, none⟩), .pointer (some ⟨ab, 0, none⟩)] W fun e W' => W.heap.size ≤ W'.heap.size ∧ Same A W W' ∧ ((e = .returned (.bool true) ∧ J (pre ++ namesL l) A W') ∨ (e = .returned (.bool false) ∧ Jx () A W'))
set_option maxRecDepth 100000 in
set_option maxHeartbeats 3200000 in
theorem named2_any {l0 yb ab B : Nat} {A0 : Nat → Prop} {xs : List ByteArray} {J : List ByteArray → (Nat → Prop) → World → Prop} {Jx : Unit → (Nat → Prop) → World → Prop} (hJ : Shy B J) (hJx : Shy B Jx)
    (hY : ∀ pre x A W1, J pre A W1 → pre ++ [x] <+: xs → (∀ b, A0 b → A b) → (∀ b, A b → b < W1.heap.size) → YieldAt Fence.wide 0 Try.prog l0 (encS x) W1 fun e W' => W1.heap.size ≤ W'.heap.size ∧ Same A W1 W' ∧ ((e = .returned (.bool true) ∧ J (pre ++ [x]) A W') ∨ (e = .returned (.bool false) ∧ Jx () A W')))
    (N : Nat) : ∀ l : List Tr, szL l ≤ N → AllOK l0 yb ab A0 xs J Jx l := by
  induction N with
  | zero =>
    intro l hl pre A W v hpre hsup hlt hyA haA hyb hab hr hk hj
    have hn : l = [] := by
      cases l with
      | nil => rfl
      | cons p r => have := p.sz_pos; simp only [szL] at hl; omega
    subst hn
    obtain ⟨a, c, rfl⟩ := hr.form
    clear hr hk hY
    rw [namesL_nil, List.append_nil]
    refine callsIn_of_wp Try.func64 rfl trivial ?_ rfl
    simp only [Try.ntmps64, List.size_toArray, List.length_cons, List.length_nil, Nat.reduceAdd, Nat.reduceSub, Array.replicate_succ, Array.replicate_zero, List.push_toArray, List.append_toArray, List.nil_append, List.cons_append]
    gi_wp2
    gi_loop [9] (fun i => i = .int .i64 0) (fun _ => 0)
    case atStart => rfl
    case round =>
      subst hrel
      gi_wp2
      refine bodyPost_ret (results_tmp rfl _ _ _) rfl ?_
      exact ⟨Nat.le_refl _, Same.refl _ _, .inl ⟨rfl, hj⟩⟩
  | succ N ih =>
    intro l hl pre A W v hpre hsup hlt hyA haA hyb hab hr hk hj
    have hlen := hr.len
    obtain ⟨a, c, rfl⟩ := hr.form
    have hIt : It A W A W := It.refl hlt
    have HIT := Lib.hid hIt
    have HJ := Lib.hid hJ
    have HJX := Lib.hid hJx
    have HY := Lib.hid hY
    have HIH := Lib.hid ih
    have HPRE := Lib.hid hpre
    have HSUP := Lib.hid hsup
    have HYB := Lib.hid hyb
    have HAB := Lib.hid hab
    have HR := Lib.hid hr
    have HK := Lib.hid hk
    have HJ0 := Lib.hid hj
    have HL := Lib.hid hl
    clear hIt hJ hJx hY ih hpre hsup hyb hab hr hk hj hl hlt
    refine callsIn_of_wp Try.func64 rfl trivial ?_ rfl
    simp only [Try.ntmps64, List.size_toArray, List.length_cons, List.length_nil, Nat.reduceAdd, Nat.reduceSub, Array.replicate_succ, Array.replicate_zero, List.push_toArray, List.append_toArray, List.nil_append, List.cons_append]
    gi_wp2
    gi_loopw [9] (fun i wr => ∃ k : Nat, k ≤ l.length ∧ i = .int .i64 k ∧ Hid (W.heap.size ≤ wr.heap.size ∧ Same A W wr ∧ J (pre ++ namesL (l.take k)) A wr)) (fun i _ => l.length - (intOf i).toNat)
    case atStart => exact ⟨0, Nat.zero_le _, rfl, Lib.hid ⟨Nat.le_refl _, Same.refl _ _, by rw [List.take_zero, namesL_nil, List.append_nil]; exact HJ0.out⟩⟩
    case round =>
      obtain ⟨k, hk, rfl, hS⟩ := hrel
      by_cases hlt : k < l.length
      · have HS := hS
        obtain ⟨hs0, hsm, hj⟩ := hS.out
        have hx := List.getElem?_eq_getElem hlt
        obtain ⟨b, off, rfl, hAb, hb0, hcell⟩ := cells_at (HIT.out.row HR.out |>.keep (A' := A) (fun _ => id) hs0 hsm) hx
        have hp : Lies A wr .part l[k] := (HK.out l[k] (List.getElem_mem hlt)).keep (fun _ => id) hs0 hsm
        have hsn := namesL_snoc l k hlt
        have hpk : pre ++ namesL (l.take (k + 1)) <+: xs := by
          obtain ⟨q, hq⟩ := namesL_take l (k + 1)
          obtain ⟨q2, hq2⟩ := HPRE.out
          exact ⟨q ++ q2, by rw [← hq2, ← hq]; simp [List.append_assoc]⟩
        rw [hsn] at hpk
        have hszk : szL (l[k].r 3) ≤ N := by
          have h1 := szL_mem (List.getElem_mem hlt)
          have h2 := (l[k]).sz_r 3
          have h3 := HL.out
          omega
        have HSN := Lib.hid hsn
        clear hsn hx
        generalize l[k] = p at *
        generalize namesL (l.take k) = Q at *
        have hih := HIH.out (p.r 3) hszk
        obtain ⟨pk, ps, po, pa, pc, na, nc, kids, ns, rfl, q1, q2, h3, h4, h5, h6⟩ := hp.part
        have hr3 : (Tr.mk [.int .i64 pk, .string ps, .string po, .slice pa kids.length pc, .slice na ns.length nc] [[], [], [], kids, ns]).r 3 = kids := rfl
        have hnp : nameP (.mk [.int .i64 pk, .string ps, .string po, .slice pa kids.length pc, .slice na ns.length nc] [[], [], [], kids, ns]) = if pk = 5 ∧ nameB ps.data.toList = true then [ps] else [] := rfl
        rw [hr3] at hih hpk HSN
        rw [hnp] at hpk HSN
        have e0 := hcell 0 (by omega)
        have e1 := hcell 1 (by omega)
        have e2 := hcell 2 (by omega)
        have e3 := hcell 3 (by omega)
        have e4 := hcell 4 (by omega)
        simp only [Tr.cs, List.getElem?_cons_zero, List.getElem?_cons_succ, Nat.add_zero] at e0 e1 e2 e3 e4
        have hbw := below_alloc wr (.cells #[.int .i64 pk, .string ps, .string po, .slice pa kids.length pc, .slice na ns.length nc] 52)
        have hlt7 : ∀ b, A b → b < wr.heap.size := fun b hb => by have := HIT.out.lt b hb; omega
        have hsz1 : (wr.alloc (.cells #[.int .i64 pk, .string ps, .string po, .slice pa kids.length pc, .slice na ns.length nc] 52)).heap.size = wr.heap.size + 1 := by simp
        have hbx1 := Blk.new wr 52 #[.int .i64 pk, .string ps, .string po, .slice pa kids.length pc, .slice na ns.length nc]
        obtain ⟨wb, hwb⟩ : ∃ wb, wr.alloc (.cells #[.int .i64 pk, .string ps, .string po, .slice pa kids.length pc, .slice na ns.length nc] 52) = wb := ⟨_, rfl⟩
        rw [hwb] at hbw hsz1 hbx1
        have hj1 := HJ.out.grow hj hbw
        have hA1 : ∀ b, Grow A wr wb b → b < wb.heap.size := grow_lt hlt7 hbw.size
        have hin : Grow A wr wb wr.heap.size := .inr ⟨Nat.le_refl _, by omega⟩
        have hsA : Same A W wb := hsm.trans (fun b hb => hbw.block b (hlt7 b hb))
        have HSAME : Hid (∀ {y : World}, Same (Grow A wr wb) wb y → Same A W y) := Lib.hid (fun h => hsA.trans (fun b hb => h b (.inl hb)))
        have hrk := h3.keep (A' := Grow A wr wb) (fun _ => .inl) hbw.size (fun b hb => hbw.block b (hlt7 b hb))
        have hkk : ∀ x ∈ kids, Lies (Grow A wr wb) wb .part x := fun x hx => (h5 x hx).keep (fun _ => .inl) hbw.size (fun b hb => hbw.block b (hlt7 b hb))
        have hybW : Blk wb yb 80 #[.func (.yield l0) #[] #[]] := (hsA yb hyA).trans HYB.out
        have habW : Blk wb ab 81 #[.func (.func 64) #[] #[.pointer (some ⟨yb, 0, none⟩), .pointer (some ⟨ab, 0, none⟩)]] := (hsA ab haA).trans HAB.out
        have HALL : Hid (∀ (y : World) (q : List ByteArray), wb.heap.size ≤ y.heap.size → Same (Grow A wr wb) wb y → q ++ namesL kids <+: xs → J q (Grow A wr wb) y → CallsIn Fence.wide 0 Try.prog 64 #[.slice pa kids.length pc, .pointer (some ⟨yb, 0, none⟩), .pointer (some ⟨ab, 0, none⟩)] y _) := Lib.hid (fun y q hz hsy hq hjq =>
          hih q (Grow A wr wb) y _ hq (fun b hb => .inl (HSUP.out b hb)) (fun b hb => by have := hA1 b hb; omega) (.inl hyA) (.inl haA) ((hsy yb (.inl hyA)).trans hybW) ((hsy ab (.inl haA)).trans habW) (hrk.keep (fun _ => id) hz hsy) (fun x hx => (hkk x hx).keep (fun _ => id) hz hsy) hjq)
        have HC : Hid (∀ y : World, Same (Grow A wr wb) wb y → y.cell? ⟨wr.heap.size, 1, none⟩ = some (.string ps) ∧ y.cell? ⟨wr.heap.size, 3, none⟩ = some (.slice pa kids.length pc) ∧ y.cell? ⟨ab, 0, none⟩ = some (.func (.func 64) #[] #[.pointer (some ⟨yb, 0, none⟩), .pointer (some ⟨ab, 0, none⟩)]) ∧ y.cell? ⟨yb, 0, none⟩ = some (.func (.yield l0) #[] #[])) := Lib.hid (fun y hsy => by
          have t1 : Blk y wr.heap.size 52 _ := (hsy _ hin).trans hbx1
          have t2 : Blk y ab 81 _ := (hsy ab (.inl haA)).trans habW
          have t3 : Blk y yb 80 _ := (hsy yb (.inl hyA)).trans hybW
          exact ⟨by simpa using t1.cell 1, by simpa using t1.cell 3, by simpa using t2.cell 0, by simpa using t3.cell 0⟩)
        have HJ1 := Lib.hid hj1
        have HBW := Lib.hid hbw
        have HA1 := Lib.hid hA1
        have HWB := Lib.hid hwb
        have hse := Same.refl (Grow A wr wb) wb
        obtain ⟨g1, g3, ga, gy⟩ := HC.out wb hse
        have g0 := hbx1.cell 0
        simp at g0
        clear hih hcell hp h3 h4 h5 h6 hr3 hnp hj hsm hbx1 hj1 hsA hrk hkk hybW habW hbw hA1 hin hb0 hAb hszk hS hlt7
        by_cases h5 : pk = 5
        · subst h5
          have hnm := name_any ps q1 wb
          cases hnb : nameB ps.data.toList with
          | true =>
            rw [hnb] at hnm
            have hif : (if (5 : Int) = 5 ∧ nameB ps.data.toList = true then [ps] else []) = [ps] := if_pos ⟨rfl, hnb⟩
            rw [hif] at hpk HSN
            have HNM := Lib.hid hnm
            have HPK := Lib.hid hpk
            clear hnm hif hpk hnb
            gi_wp2_with (refine ⟨trivial, rfl, ?_⟩; gi_at_call 65; refine (callsIn_wide.2 HNM.out).mono ?_; rintro e w2 ⟨rfl, hb2⟩
                         have hse2 : Same (Grow A wr wb) wb w2 := fun b hb => hb2.block b (HA1.out b hb)
                         obtain ⟨k1, k3, ka, ky⟩ := HC.out w2 hse2
                         have hj2 := HJ.out.step HJ1.out (Chg.of_below hb2)
                         have hz2 := hb2.size
                         obtain ⟨fn, tmps, assign, body, hy, hR⟩ := HY.out (pre ++ Q) ps _ w2 hj2 (by obtain ⟨q, hq⟩ := HPK.out; exact ⟨namesL kids ++ q, by rw [← hq]; simp [List.append_assoc]⟩) (fun b hb => .inl (HSUP.out b hb)) (fun b hb => by have := HA1.out b hb; omega)
                         unfold encS at hy
                         have HS2 := Lib.hid hse2
                         clear hj2 hse2 hb2)
            refine ⟨rfl, hR.mono ?_⟩
            clear hR hy
            rintro e w3 ⟨hs3, hsm3, (⟨rfl, hJ3⟩ | ⟨rfl, hJ3⟩)⟩
            · have hse3 := HS2.out.trans hsm3
              obtain ⟨k1, k3, ka, ky⟩ := HC.out w3 hse3
              have HJ3 := Lib.hid hJ3
              have HS3 := Lib.hid hse3
              have HPK2 : Hid (pre ++ Q ++ [ps] ++ namesL kids <+: xs) := Lib.hid (by simpa [List.append_assoc] using HPK.out)
              clear hJ3 hse3 hsm3
              gi_wp2_with (refine ⟨trivial, rfl, ?_⟩; gi_at_call 64; refine (HALL.out w3 _ (by omega) HS3.out HPK2.out HJ3.out).mono ?_; rintro e w4 ⟨hs4, hsm4, (⟨rfl, hJ4⟩ | ⟨rfl, hJ4⟩)⟩)
              · have HF := Lib.hid (HJ.out.less hJ4 (A' := A) (fun b hb => .inl hb))
                have hsz4 : W.heap.size ≤ w4.heap.size := by have h1 := HBW.out.size; have h2 := HS.out.1; omega
                have hsmF : Same A W w4 := HSAME.out (HS3.out.trans hsm4)
                have HSF := Lib.hid hsmF
                clear hJ4 hsm4 hsmF
                gi_wp2
                go_roundw
                case rel => exact ⟨k + 1, by omega, by go_num, Lib.hid ⟨hsz4, HSF.out, by rw [HSN.out]; simpa [List.append_assoc] using HF.out⟩⟩
                case measure => simp [intOf]; omega
              · have HF := Lib.hid (HJX.out.less hJ4 (A' := A) (fun b hb => .inl hb))
                have hsz4 : W.heap.size ≤ w4.heap.size := by have h1 := HBW.out.size; have h2 := HS.out.1; omega
                have hsmF : Same A W w4 := HSAME.out (HS3.out.trans hsm4)
                have HSF := Lib.hid hsmF
                clear hJ4 hsm4 hsmF
                gi_wp2
                refine bodyPost_ret (results_tmp rfl _ _ _) rfl ?_
                exact ⟨hsz4, HSF.out, .inr ⟨rfl, HF.out⟩⟩
            · have HF := Lib.hid (HJX.out.less hJ3 (A' := A) (fun b hb => .inl hb))
              have hsz4 : W.heap.size ≤ w3.heap.size := by have h1 := HBW.out.size; have h2 := HS.out.1; omega
              have hsmF : Same A W w3 := HSAME.out (HS2.out.trans hsm3)
              have HSF := Lib.hid hsmF
              clear hJ3 hsm3 hsmF
              gi_wp2
              refine ⟨fun _ h => (by cases h), ?_⟩
              gi_wp2
              refine bodyPost_ret (results_tmp rfl _ _ _) rfl ?_
              exact ⟨hsz4, HSF.out, .inr ⟨rfl, HF.out⟩⟩
          | false =>
            rw [hnb] at hnm
            have hif : (if (5 : Int) = 5 ∧ nameB ps.data.toList = true then [ps] else []) = [] := if_neg (by rw [hnb]; simp)
            rw [hif, List.nil_append] at hpk HSN
            have HNM := Lib.hid hnm
            have HPK2 : Hid (pre ++ Q ++ namesL kids <+: xs) := Lib.hid (by simpa [List.append_assoc] using hpk)
            clear hnm hif hpk hnb
            gi_wp2_with (refine ⟨trivial, rfl, ?_⟩; gi_at_call 65; refine (callsIn_wide.2 HNM.out).mono ?_; rintro e w2 ⟨rfl, hb2⟩
                         have hse2 : Same (Grow A wr wb) wb w2 := fun b hb => hb2.block b (HA1.out b hb)
                         obtain ⟨k1, k3, ka, ky⟩ := HC.out w2 hse2
                         have hj2 := HJ.out.step HJ1.out (Chg.of_below hb2)
                         have hz2 := hb2.size
                         have HJ2 := Lib.hid hj2
                         have HS2 := Lib.hid hse2
                         clear hj2 hse2 hb2)
            refine ⟨fun _ h => (by cases h), ?_⟩
            gi_wp2_with (refine ⟨trivial, rfl, ?_⟩; gi_at_call 64; refine (HALL.out w2 _ (by omega) HS2.out HPK2.out HJ2.out).mono ?_; rintro e w4 ⟨hs4, hsm4, (⟨rfl, hJ4⟩ | ⟨rfl, hJ4⟩)⟩)
            · have HF := Lib.hid (HJ.out.less hJ4 (A' := A) (fun b hb => .inl hb))
              have hsz4 : W.heap.size ≤ w4.heap.size := by have h1 := HBW.out.size; have h2 := HS.out.1; omega
              have hsmF : Same A W w4 := HSAME.out (HS2.out.trans hsm4)
              have HSF := Lib.hid hsmF
              clear hJ4 hsm4 hsmF
              gi_wp2
              go_roundw
              case rel => exact ⟨k + 1, by omega, by go_num, Lib.hid ⟨hsz4, HSF.out, by rw [HSN.out]; simpa [List.append_assoc] using HF.out⟩⟩
              case measure => simp [intOf]; omega
            · have HF := Lib.hid (HJX.out.less hJ4 (A' := A) (fun b hb => .inl hb))
              have hsz4 : W.heap.size ≤ w4.heap.size := by have h1 := HBW.out.size; have h2 := HS.out.1; omega
              have hsmF : Same A W w4 := HSAME.out (HS2.out.trans hsm4)
              have HSF := Lib.hid hsmF
              clear hJ4 hsm4 hsmF
              gi_wp2
              refine bodyPost_ret (results_tmp rfl _ _ _) rfl ?_
              exact ⟨hsz4, HSF.out, .inr ⟨rfl, HF.out⟩⟩
        · have h5b : (pk == 5) = false := by simpa using h5
          have hif : (if pk = 5 ∧ nameB ps.data.toList = true then [ps] else []) = [] := if_neg (fun h => h5 h.1)
          rw [hif, List.nil_append] at hpk HSN
          have HPK2 : Hid (pre ++ Q ++ namesL kids <+: xs) := Lib.hid (by simpa [List.append_assoc] using hpk)
          clear hif hpk
          gi_wp2
          refine ⟨trivial, ?_⟩
          gi_wp2
          refine ⟨fun _ h => (by cases h), ?_⟩
          gi_wp2_with (refine ⟨trivial, rfl, ?_⟩; gi_at_call 64; refine (HALL.out wb _ (Nat.le_refl _) hse HPK2.out HJ1.out).mono ?_; rintro e w4 ⟨hs4, hsm4, (⟨rfl, hJ4⟩ | ⟨rfl, hJ4⟩)⟩)
          · have HF := Lib.hid (HJ.out.less hJ4 (A' := A) (fun b hb => .inl hb))
            have hsz4 : W.heap.size ≤ w4.heap.size := by have h1 := HBW.out.size; have h2 := HS.out.1; omega
            have hsmF : Same A W w4 := HSAME.out (hse.trans hsm4)
            have HSF := Lib.hid hsmF
            clear hJ4 hsm4 hsmF
            gi_wp2
            go_roundw
            case rel => exact ⟨k + 1, by omega, by go_num, Lib.hid ⟨hsz4, HSF.out, by rw [HSN.out]; simpa [List.append_assoc] using HF.out⟩⟩
            case measure => simp [intOf]; omega
          · have HF := Lib.hid (HJX.out.less hJ4 (A' := A) (fun b hb => .inl hb))
            have hsz4 : W.heap.size ≤ w4.heap.size := by have h1 := HBW.out.size; have h2 := HS.out.1; omega
            have hsmF : Same A W w4 := HSAME.out (hse.trans hsm4)
            have HSF := Lib.hid hsmF
            clear hJ4 hsm4 hsmF
            gi_wp2
            refine bodyPost_ret (results_tmp rfl _ _ _) rfl ?_
            exact ⟨hsz4, HSF.out, .inr ⟨rfl, HF.out⟩⟩
      · obtain rfl : k = l.length := by omega
        rw [List.take_length] at hS
        gi_wp2
        refine bodyPost_ret (results_tmp rfl _ _ _) rfl ?_
        exact ⟨hS.out.1, hS.out.2.1, .inl ⟨rfl, hS.out.2.2⟩⟩
set_option maxRecDepth 100000 in
set_option maxHeartbeats 3200000 in
theorem named1_seq {A : Nat → Prop} {w : World} {v : Value} {l : List Tr} {bx : Nat} (hA : ∀ b, A b → b < w.heap.size) (hbx : A bx) (hr : RowAt A w 5 v l) (hk : ∀ x ∈ l, Lies A w .part x) (hb : Blk w bx 39 #[v]) :
    Seq Try.prog 63 #[.pointer (some ⟨bx, 0, none⟩)] encS (namesL l) A w := by
  intro l0 J Jx W hW hJ hJx hY h0
  obtain ⟨a, c, rfl⟩ := hr.form
  have hws := hW.size
  have hrW := hr.keep (A' := A) (fun _ => id) hws (fun b hb => hW.block b (hA b hb) id)
  have hkW : ∀ x ∈ l, Lies A W .part x := fun x hx => (hk x hx).keep (fun _ => id) hws (fun b hb => hW.block b (hA b hb) id)
  have hbW : Blk W bx 39 #[.slice a l.length c] := hW.blk hb id
  have hAW : ∀ b, A b → b < W.heap.size := fun b hb => Nat.lt_of_lt_of_le (hA b hb) hws
  obtain ⟨W0, hW0⟩ : ∃ W0, (W.alloc (.cells #[.func (.yield l0) #[] #[]] 80)).alloc (.cells #[.func (.func 64) #[] #[.pointer (some ⟨W.heap.size, 0, none⟩), .pointer (some ⟨W.heap.size + 1, 0, none⟩)]] 81) = W0 := ⟨_, rfl⟩
  have hb0 : Below W.heap.size W W0 := by rw [← hW0]; exact (below_alloc W _).alloc (by simp) _
  have hs0 : W0.heap.size = W.heap.size + 2 := by rw [← hW0]; simp
  have hyb : Blk W0 W.heap.size 80 #[.func (.yield l0) #[] #[]] := by rw [← hW0]; exact (Blk.new W 80 _).alloc _
  have hab : Blk W0 (W.heap.size + 1) 81 #[.func (.func 64) #[] #[.pointer (some ⟨W.heap.size, 0, none⟩), .pointer (some ⟨W.heap.size + 1, 0, none⟩)]] := by
    rw [← hW0]
    have := Blk.new (W.alloc (.cells #[.func (.yield l0) #[] #[]] 80)) 81 #[.func (.func 64) #[] #[.pointer (some ⟨W.heap.size, 0, none⟩), .pointer (some ⟨W.heap.size + 1, 0, none⟩)]]
    rwa [World.size_alloc] at this
  have hx0 : Blk W0 bx 39 #[.slice a l.length c] := hbW.below hb0 (hAW bx hbx)
  have hall := named2_any (l0 := l0) (yb := W.heap.size) (ab := W.heap.size + 1) hJ hJx hY (szL l) l (Nat.le_refl _) [] (Grow A W W0) W0 (.slice a l.length c) (by simp) (fun b hb => .inl hb) (grow_lt hAW hb0.size) (.inr ⟨Nat.le_refl _, by omega⟩) (.inr ⟨by omega, by omega⟩) hyb hab
    (hrW.keep (fun _ => .inl) hb0.size (fun b hb => hb0.block b (hAW b hb))) (fun x hx => (hkW x hx).keep (fun _ => .inl) hb0.size (fun b hb => hb0.block b (hAW b hb))) (hJ.grow h0 hb0)
  have y0 := hyb.cell 0
  have a0 := hab.cell 0
  have x0 := hx0.cell 0
  simp at y0 a0 x0
  have HALL := Lib.hid hall
  have HGL := Lib.hid (grow_lt hAW hb0.size)
  have HW0 := Lib.hid hW0
  have hbxlt := hAW bx hbx
  have xW := hbW.cell 0
  simp at xW
  clear hall hW0 hyb hab hx0 hb0 hAW hbW hkW hrW hb hk hr hJ hJx hY h0 hW hA
  refine callsIn_of_wp Try.func63 rfl trivial ?_ rfl
  simp only [Try.ntmps63, List.size_toArray, List.length_cons, List.length_nil, Nat.reduceAdd, Nat.reduceSub, Array.replicate_succ, Array.replicate_zero, List.push_toArray, List.append_toArray, List.nil_append, List.cons_append]
  gi_wp2_with (refine ⟨trivial, rfl, ?_⟩; gi_at_call 64; rw [HW0.out]; refine HALL.out.mono ?_; rintro e w2 ⟨hs2, hsm2, hj2⟩
               have HE : Hid (∃ A' : Nat → Prop, (∀ b, A b → A' b) ∧ (∀ b, A' b → b < w2.heap.size) ∧ (J (namesL l) A' w2 ∨ Jx () A' w2)) := Lib.hid ⟨Grow A W W0, fun b hb => .inl hb, fun b hb => by have := HGL.out b hb; omega, by
                 rcases hj2 with ⟨-, h⟩ | ⟨-, h⟩
                 · exact .inl h
                 · exact .inr h⟩
               have hv : ∃ v, e = .returned v := by
                 rcases hj2 with ⟨h, -⟩ | ⟨h, -⟩
                 · exact ⟨_, h⟩
                 · exact ⟨_, h⟩
               obtain ⟨v, rfl⟩ := hv
               clear hj2 hsm2)
  go_end0
  exact ⟨⟨_, rfl⟩, HE.out⟩
theorem named_fn {w : World} {a : Option Addr} {n c : Nat} : Calls Try.prog 53 #[.slice a n c] w fun e w' => e = .returned (.func (.func 63) #[] #[.pointer (some ⟨w.heap.size, 0, none⟩)]) ∧ w' = w.alloc (.cells #[.slice a n c] 39) := by
  go_enter Try.func53, Try.ntmps53
  go_wp2
  go_ret
  exact ⟨rfl, rfl⟩
end Go.Proofs.Ytpjcmhlgdgadjaa
