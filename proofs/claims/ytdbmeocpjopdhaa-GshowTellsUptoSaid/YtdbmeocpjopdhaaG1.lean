/- Bytes and names, of the program and of the document. -/
import Derived.Test.YtdbmeocpjopdhaaRows
import Derived.Test.YtdbmeocpjopdhaaBase
import Derived.WalkSpells
import Derived.WalkLawsBesides
import Derived.BigQuiet
import Derived.Deep.QuietTactic
namespace Go.Proofs.Ytdbmeocpjopdhaa
open Go.RowKit
set_option linter.unusedVariables false
theorem ret_bool {a b : Bool} (h : a = b) : Ending.returned (.bool a) = .returned (.bool b) := by rw [h]
/-- The class of a byte. -/
def classOf (c : UInt8) : Nat :=
  if c = 0 then 0 else if c = 32 ∨ c = 9 then 1 else if c = 10 then 2
  else if c = 38 ∨ c = 124 ∨ c = 59 ∨ c = 60 ∨ c = 62 ∨ c = 40 ∨ c = 41 then 5
  else if c = 39 ∨ c = 34 ∨ c = 92 ∨ c = 96 then 6
  else if c = 36 then 7
  else if 48 ≤ c ∧ c ≤ 57 then 3
  else if c = 95 ∨ (97 ≤ c ||| 32 ∧ c ||| 32 ≤ 122) then 4
  else 8
/-- The class of a letter, in numbers; o: the letter with the bit 32. -/
def letterN (n o : Int) : Nat := if 48 ≤ n ∧ n ≤ 57 then 3 else if n = 95 ∨ (97 ≤ o ∧ o ≤ 122) then 4 else 8
def classN (n o : Int) : Nat :=
  if n = 0 then 0 else if n = 32 ∨ n = 9 then 1 else if n = 10 then 2
  else if n = 38 ∨ n = 124 ∨ n = 59 ∨ n = 60 ∨ n = 62 ∨ n = 40 ∨ n = 41 then 5
  else if n = 39 ∨ n = 34 ∨ n = 92 ∨ n = 96 then 6
  else if n = 36 then 7 else letterN n o
def allBytes : List UInt8 := (List.range 256).map UInt8.ofNat
theorem mem_bytes (c : UInt8) : c ∈ allBytes := List.mem_map.2 ⟨c.toNat, List.mem_range.2 c.toNat_lt, by simp⟩
theorem class_all : allBytes.all (fun c => classN c.toNat (bits .or .u8 c.toNat 32) == classOf c) = true := by kernel_rfl
theorem class_eq (c : UInt8) : classN c.toNat (bits .or .u8 c.toNat 32) = classOf c := by
  have := List.all_eq_true.1 class_all c (mem_bytes c)
  exact beq_iff_eq.1 this
theorem letter_any (c : UInt8) (w : World) : Calls Try.prog 84 #[.int .u8 c.toNat] w fun e w' => e = .returned (.int .i64 (letterN c.toNat (bits .or .u8 c.toNat 32))) ∧ w' = w := by
  go_enter Try.func84, Try.ntmps84
  generalize (c.toNat : Int) = n
  go_wp2
  all_goals go_ret
  all_goals refine ⟨?_, rfl⟩
  all_goals refine congrArg (fun k : Int => Ending.returned (Value.int .i64 k)) ?_
  all_goals (
    unfold letterN
    try simp only [beq_iff_eq, beq_eq_false_iff_ne] at *
    repeat' split
    all_goals first | rfl | (exfalso; omega))
theorem class_any (c : UInt8) (w : World) : Calls Try.prog 73 #[.int .u8 c.toNat] w fun e w' => e = .returned (.int .i64 (classOf c)) ∧ w' = w := by
  rw [← class_eq]
  have HL := Lib.hid (letter_any c)
  go_enter Try.func73, Try.ntmps73
  go_wp2_with (go_at_call 84; refine (HL.out _).mono ?_; rintro e w' ⟨rfl, rfl⟩)
  all_goals go_ret
  all_goals refine ⟨?_, rfl⟩
  all_goals refine congrArg (fun k : Int => Ending.returned (Value.int .i64 k)) ?_
  all_goals clear HL
  all_goals generalize (c.toNat : Int) = n at *
  all_goals (
    unfold classN
    try simp only [beq_iff_eq, beq_eq_false_iff_ne] at *
    repeat' split
    all_goals first | rfl | (exfalso; omega))
def rclassN (n : Int) : Nat :=
  if n = 0 then 0 else if n = 32 ∨ n = 9 then 1 else if n = 10 then 2
  else if 48 ≤ n ∧ n ≤ 57 then 3
  else if (97 ≤ n ∧ n ≤ 122) ∨ (65 ≤ n ∧ n ≤ 90) ∨ n = 95 then 4
  else if n = 38 ∨ n = 124 ∨ n = 59 ∨ n = 60 ∨ n = 62 ∨ n = 40 ∨ n = 41 then 5
  else if n = 39 ∨ n = 34 ∨ n = 92 ∨ n = 96 then 6
  else if n = 36 then 7 else 8
theorem rclass_all : allBytes.all (fun c => rclassN c.toNat == classOf c) = true := by kernel_rfl
theorem rclass_eq (c : UInt8) : rclassN c.toNat = classOf c := by
  have := List.all_eq_true.1 rclass_all c (mem_bytes c)
  exact beq_iff_eq.1 this
theorem ret_nat {a b : Nat} (h : a = b) : Ending.returned (.int .i64 (a : Int)) = .returned (.int .i64 (b : Int)) := by rw [h]
set_option maxHeartbeats 6400000 in
theorem rclass_any (c : UInt8) (w : World) : Calls Try.prog 86 #[.int .u8 c.toNat] w fun e w' => e = .returned (.int .i64 (classOf c)) ∧ w = w' := by
  rw [← rclass_eq]
  generalize (c.toNat : Int) = n
  have hreg : (n < 48) ∨ (48 ≤ n ∧ n ≤ 57) ∨ (57 < n ∧ n < 65) ∨ (65 ≤ n ∧ n ≤ 90) ∨ (90 < n ∧ n < 97) ∨ (97 ≤ n ∧ n ≤ 122) ∨ (122 < n) := by omega
  rcases hreg with h | h | h | h | h | h | h
  · have q0 : n < 48 := by omega
    have q1 : n < 65 := by omega
    have q2 : n < 97 := by omega
    have r95 : (n == 95) = false := beq_eq_false_iff_ne.2 (by omega)
    have r124 : (n == 124) = false := beq_eq_false_iff_ne.2 (by omega)
    have r59 : (n == 59) = false := beq_eq_false_iff_ne.2 (by omega)
    have r60 : (n == 60) = false := beq_eq_false_iff_ne.2 (by omega)
    have r62 : (n == 62) = false := beq_eq_false_iff_ne.2 (by omega)
    have r92 : (n == 92) = false := beq_eq_false_iff_ne.2 (by omega)
    have r96 : (n == 96) = false := beq_eq_false_iff_ne.2 (by omega)
    clear h
    go_enter Try.func86, Try.ntmps86
    go_wp2
    all_goals go_ret
    all_goals refine ⟨ret_nat ?_, rfl⟩
    all_goals first
      | rfl
      | decide
      | (unfold rclassN
         try simp only [beq_iff_eq, beq_eq_false_iff_ne] at *
         repeat' split
         all_goals first | rfl | (exfalso; omega))
  · have q0 : 48 ≤ n := by omega
    have q1 : n ≤ 57 := by omega
    have r0 : (n == 0) = false := beq_eq_false_iff_ne.2 (by omega)
    have r32 : (n == 32) = false := beq_eq_false_iff_ne.2 (by omega)
    have r9 : (n == 9) = false := beq_eq_false_iff_ne.2 (by omega)
    have r10 : (n == 10) = false := beq_eq_false_iff_ne.2 (by omega)
    clear h
    go_enter Try.func86, Try.ntmps86
    go_wp2
    all_goals go_ret
    all_goals refine ⟨ret_nat ?_, rfl⟩
    all_goals first
      | rfl
      | decide
      | (unfold rclassN
         try simp only [beq_eq_false_iff_ne] at *
         repeat' split
         all_goals first | rfl | (exfalso; omega))
  · have q0 : 48 ≤ n := by omega
    have q1 : 57 < n := by omega
    have q2 : n < 65 := by omega
    have q3 : n < 97 := by omega
    have r0 : (n == 0) = false := beq_eq_false_iff_ne.2 (by omega)
    have r32 : (n == 32) = false := beq_eq_false_iff_ne.2 (by omega)
    have r9 : (n == 9) = false := beq_eq_false_iff_ne.2 (by omega)
    have r10 : (n == 10) = false := beq_eq_false_iff_ne.2 (by omega)
    have r95 : (n == 95) = false := beq_eq_false_iff_ne.2 (by omega)
    have r38 : (n == 38) = false := beq_eq_false_iff_ne.2 (by omega)
    have r124 : (n == 124) = false := beq_eq_false_iff_ne.2 (by omega)
    have r40 : (n == 40) = false := beq_eq_false_iff_ne.2 (by omega)
    have r41 : (n == 41) = false := beq_eq_false_iff_ne.2 (by omega)
    have r39 : (n == 39) = false := beq_eq_false_iff_ne.2 (by omega)
    have r34 : (n == 34) = false := beq_eq_false_iff_ne.2 (by omega)
    have r92 : (n == 92) = false := beq_eq_false_iff_ne.2 (by omega)
    have r96 : (n == 96) = false := beq_eq_false_iff_ne.2 (by omega)
    have r36 : (n == 36) = false := beq_eq_false_iff_ne.2 (by omega)
    clear h
    go_enter Try.func86, Try.ntmps86
    go_wp2
    all_goals go_ret
    all_goals refine ⟨ret_nat ?_, rfl⟩
    all_goals first
      | rfl
      | decide
      | (unfold rclassN
         try simp only [beq_iff_eq, beq_eq_false_iff_ne] at *
         repeat' split
         all_goals first | rfl | (exfalso; omega))
  · have q0 : 48 ≤ n := by omega
    have q1 : 57 < n := by omega
    have q2 : 65 ≤ n := by omega
    have q3 : n ≤ 90 := by omega
    have q4 : n < 97 := by omega
    have r0 : (n == 0) = false := beq_eq_false_iff_ne.2 (by omega)
    have r32 : (n == 32) = false := beq_eq_false_iff_ne.2 (by omega)
    have r9 : (n == 9) = false := beq_eq_false_iff_ne.2 (by omega)
    have r10 : (n == 10) = false := beq_eq_false_iff_ne.2 (by omega)
    clear h
    go_enter Try.func86, Try.ntmps86
    go_wp2
    all_goals go_ret
    all_goals refine ⟨ret_nat ?_, rfl⟩
    all_goals first
      | rfl
      | decide
      | (unfold rclassN
         try simp only [beq_eq_false_iff_ne] at *
         repeat' split
         all_goals first | rfl | (exfalso; omega))
  · have q0 : 48 ≤ n := by omega
    have q1 : 57 < n := by omega
    have q2 : 65 ≤ n := by omega
    have q3 : 90 < n := by omega
    have q4 : n < 97 := by omega
    have r0 : (n == 0) = false := beq_eq_false_iff_ne.2 (by omega)
    have r32 : (n == 32) = false := beq_eq_false_iff_ne.2 (by omega)
    have r9 : (n == 9) = false := beq_eq_false_iff_ne.2 (by omega)
    have r10 : (n == 10) = false := beq_eq_false_iff_ne.2 (by omega)
    have r38 : (n == 38) = false := beq_eq_false_iff_ne.2 (by omega)
    have r124 : (n == 124) = false := beq_eq_false_iff_ne.2 (by omega)
    have r59 : (n == 59) = false := beq_eq_false_iff_ne.2 (by omega)
    have r60 : (n == 60) = false := beq_eq_false_iff_ne.2 (by omega)
    have r62 : (n == 62) = false := beq_eq_false_iff_ne.2 (by omega)
    have r40 : (n == 40) = false := beq_eq_false_iff_ne.2 (by omega)
    have r41 : (n == 41) = false := beq_eq_false_iff_ne.2 (by omega)
    have r39 : (n == 39) = false := beq_eq_false_iff_ne.2 (by omega)
    have r34 : (n == 34) = false := beq_eq_false_iff_ne.2 (by omega)
    have r36 : (n == 36) = false := beq_eq_false_iff_ne.2 (by omega)
    clear h
    go_enter Try.func86, Try.ntmps86
    go_wp2
    all_goals go_ret
    all_goals refine ⟨ret_nat ?_, rfl⟩
    all_goals first
      | rfl
      | decide
      | (unfold rclassN
         try simp only [beq_iff_eq, beq_eq_false_iff_ne] at *
         repeat' split
         all_goals first | rfl | (exfalso; omega))
  · have q0 : 48 ≤ n := by omega
    have q1 : 57 < n := by omega
    have q2 : 97 ≤ n := by omega
    have q3 : n ≤ 122 := by omega
    have r0 : (n == 0) = false := beq_eq_false_iff_ne.2 (by omega)
    have r32 : (n == 32) = false := beq_eq_false_iff_ne.2 (by omega)
    have r9 : (n == 9) = false := beq_eq_false_iff_ne.2 (by omega)
    have r10 : (n == 10) = false := beq_eq_false_iff_ne.2 (by omega)
    clear h
    go_enter Try.func86, Try.ntmps86
    go_wp2
    all_goals go_ret
    all_goals refine ⟨ret_nat ?_, rfl⟩
    all_goals first
      | rfl
      | decide
      | (unfold rclassN
         try simp only [beq_eq_false_iff_ne] at *
         repeat' split
         all_goals first | rfl | (exfalso; omega))
  · have q0 : 48 ≤ n := by omega
    have q1 : 57 < n := by omega
    have q2 : 65 ≤ n := by omega
    have q3 : 90 < n := by omega
    have q4 : 97 ≤ n := by omega
    have q5 : 122 < n := by omega
    have r0 : (n == 0) = false := beq_eq_false_iff_ne.2 (by omega)
    have r32 : (n == 32) = false := beq_eq_false_iff_ne.2 (by omega)
    have r9 : (n == 9) = false := beq_eq_false_iff_ne.2 (by omega)
    have r10 : (n == 10) = false := beq_eq_false_iff_ne.2 (by omega)
    have r95 : (n == 95) = false := beq_eq_false_iff_ne.2 (by omega)
    have r38 : (n == 38) = false := beq_eq_false_iff_ne.2 (by omega)
    have r59 : (n == 59) = false := beq_eq_false_iff_ne.2 (by omega)
    have r60 : (n == 60) = false := beq_eq_false_iff_ne.2 (by omega)
    have r62 : (n == 62) = false := beq_eq_false_iff_ne.2 (by omega)
    have r40 : (n == 40) = false := beq_eq_false_iff_ne.2 (by omega)
    have r41 : (n == 41) = false := beq_eq_false_iff_ne.2 (by omega)
    have r39 : (n == 39) = false := beq_eq_false_iff_ne.2 (by omega)
    have r34 : (n == 34) = false := beq_eq_false_iff_ne.2 (by omega)
    have r92 : (n == 92) = false := beq_eq_false_iff_ne.2 (by omega)
    have r96 : (n == 96) = false := beq_eq_false_iff_ne.2 (by omega)
    have r36 : (n == 36) = false := beq_eq_false_iff_ne.2 (by omega)
    clear h
    go_enter Try.func86, Try.ntmps86
    go_wp2
    all_goals go_ret
    all_goals refine ⟨ret_nat ?_, rfl⟩
    all_goals first
      | rfl
      | decide
      | (unfold rclassN
         try simp only [beq_eq_false_iff_ne] at *
         repeat' split
         all_goals first | rfl | (exfalso; omega))
def nameB : List UInt8 → Bool
  | [] => false
  | c :: r => classOf c == 4 && r.all fun d => classOf d == 4 || classOf d == 3
theorem drop_at (s : ByteArray) (k : Nat) (h : k < s.size) : s.data.toList.drop k = s[k] :: s.data.toList.drop (k + 1) := by
  rw [List.drop_eq_getElem_cons (by simpa using h)]; rfl
theorem drop_end (s : ByteArray) : s.data.toList.drop s.size = [] := List.drop_of_length_le (by simp)
theorem list_empty (s : ByteArray) : s.data.toList.isEmpty = decide (s.size = 0) := by
  have h : s.data.toList.length = s.size := by simp
  cases hl : s.data.toList with
  | nil => rw [hl] at h; simp at h; simp [← h]
  | cons a l => rw [hl] at h; simp at h; simp [← h]
theorem size_pos (s : ByteArray) : decide (0 < s.size) = (!decide (s.size = 0) && true) := by
  rw [Bool.eq_iff_iff, Bool.and_true, Bool.not_eq_true', decide_eq_true_eq, decide_eq_false_iff_not]
  omega
theorem nz_false (s : ByteArray) (b : Bool) (h : s.size = 0) : (!decide (s.size = 0) && b) = false := by rw [decide_eq_true h]; rfl
theorem nz_true (s : ByteArray) (h : ¬ s.size = 0) : (!decide (s.size = 0) && true) = true := by rw [decide_eq_false h]; rfl
def namL (l : List UInt8) : Bool := l.all fun d => classOf d == 4 || classOf d == 3
/-- A name from place k on. -/
def namF (k : Nat) (l : List UInt8) : Bool := if k = 0 then (match l with | [] => true | c :: r => classOf c == 4 && namL r) else namL l
theorem nameB_eq (s : ByteArray) : nameB s.data.toList = (!decide (s.size = 0) && namF 0 s.data.toList) := by
  rw [← list_empty]
  cases s.data.toList with
  | nil => rfl
  | cons c r => simp [nameB, namF, namL]
set_option maxHeartbeats 1600000 in
theorem rname_any (s : ByteArray) (hs : s.size ≤ 9223372036854775807) (w : World) : Calls Try.prog 81 #[.string s] w fun e w' => e = .returned (.bool (nameB s.data.toList)) ∧ w = w' := by
  have HD0 := Lib.hid (nameB_eq s)
  go_enter Try.func81, Try.ntmps81
  go_wp2
  go_loop [3, 4] (fun i _ => ∃ k : Nat, k ≤ s.size ∧ i = .int .i64 k ∧ Hid (namF 0 s.data.toList = namF k (s.data.toList.drop k))) (fun i _ => s.size - (intOf i).toNat)
  case atStart => exact ⟨0, Nat.zero_le _, rfl, Lib.hid rfl⟩
  case round =>
    obtain ⟨k, hk, rfl, HL⟩ := hrel
    by_cases hlt : k < s.size
    · have HD := Lib.hid (drop_at s k hlt)
      have HC := Lib.hid (rclass_any s[k] w)
      have hz : s.size ≠ 0 := by omega
      by_cases hok : classOf s[k] = 4 ∨ (classOf s[k] = 3 ∧ k ≠ 0)
      · have HS : Hid (namF 0 s.data.toList = namF (k + 1) (s.data.toList.drop (k + 1))) := Lib.hid (by
          rw [HL.out, HD.out]
          unfold namF
          rw [if_neg (Nat.succ_ne_zero k)]
          by_cases hk0 : k = 0
          · rw [if_pos hk0]
            have h4 : classOf s[k] = 4 := by omega
            simp [h4]
          · rw [if_neg hk0]
            rcases hok with h | h
            · simp [namL, h]
            · simp [namL, h.1])
        rcases hok with h4 | ⟨h3, hk0⟩
        · rw [h4] at HC
          clear h4
          go_wp2_with (go_at_call 86; refine HC.out.mono ?_; rintro e w' ⟨rfl, rfl⟩)
          go_round
          case rel => exact ⟨k + 1, by omega, by go_num, HS⟩
          case measure => simp [intOf]; omega
        · rw [h3] at HC
          have hk1 : ((k : Int) == 0) = false := by simp; omega
          clear h3
          go_wp2_with (go_at_call 86; refine HC.out.mono ?_; rintro e w' ⟨rfl, rfl⟩)
          go_round
          case rel => exact ⟨k + 1, by omega, by go_num, HS⟩
          case measure => simp [intOf]; omega
      · have HS : Hid (namF 0 s.data.toList = false) := Lib.hid (by
          rw [HL.out, HD.out]
          unfold namF
          have h4 : classOf s[k] ≠ 4 := fun h => hok (.inl h)
          by_cases hk0 : k = 0
          · rw [if_pos hk0]
            simp [h4]
          · rw [if_neg hk0]
            have h3 : classOf s[k] ≠ 3 := fun h => hok (.inr ⟨h, hk0⟩)
            simp [namL, h4, h3])
        have hne4 : ((classOf s[k] : Int) != 4) = true := by
          have : classOf s[k] ≠ 4 := fun h => hok (.inl h)
          simp; omega
        by_cases h3 : classOf s[k] = 3
        · have hk0 : k = 0 := by omega
          subst hk0
          rw [h3] at HC
          clear h3 hok hne4
          go_wp2_with (go_at_call 86; refine HC.out.mono ?_; rintro e w' ⟨rfl, rfl⟩)
          go_ret
          exact ⟨ret_bool (by rw [HD0.out, HS.out, Bool.and_false]), rfl⟩
        · have hne3 : ((classOf s[k] : Int) != 3) = true := by simp; omega
          clear hok
          generalize classOf s[k] = q at *
          clear h3
          go_wp2_with (go_at_call 86; refine HC.out.mono ?_; rintro e w' ⟨rfl, rfl⟩)
          go_ret
          exact ⟨ret_bool (by rw [HD0.out, HS.out, Bool.and_false]), rfl⟩
    · obtain rfl : k = s.size := by omega
      have h1 : namF 0 s.data.toList = true := by
        rw [HL.out, drop_end]
        unfold namF
        split <;> rfl
      have H1 := Lib.hid h1
      clear h1 HL
      go_wp2
      go_ret
      refine ⟨ret_bool ?_, rfl⟩
      rw [HD0.out, H1.out]
      exact size_pos s
/-- May it be quoted? -/
def insideB (c : UInt8) : Bool := 33 ≤ c.toNat && c.toNat ≤ 126 && c.toNat != 39
def insideN (n : Int) : Bool := decide (33 ≤ n) && decide (n ≤ 126) && !(n == 39)
theorem inside_all : allBytes.all (fun c => insideN c.toNat == insideB c) = true := by kernel_rfl
theorem inside_eq (c : UInt8) : insideN c.toNat = insideB c := beq_iff_eq.1 (List.all_eq_true.1 inside_all c (mem_bytes c))
theorem inside_any (c : UInt8) (w : World) : Calls Try.prog 75 #[.int .u8 c.toNat] w fun e w' => e = .returned (.bool (insideB c)) ∧ w = w' := by
  rw [← inside_eq]
  go_enter Try.func75, Try.ntmps75
  generalize (c.toNat : Int) = n
  unfold insideN
  go_wp2
  all_goals go_ret
  all_goals refine ⟨ret_bool ?_, rfl⟩
  all_goals (rw [Bool.eq_iff_iff]; simp [*] <;> omega)
theorem rinside_any (c : UInt8) (w : World) : Calls Try.prog 87 #[.int .u8 c.toNat] w fun e w' => e = .returned (.bool (insideB c)) ∧ w = w' := by
  rw [← inside_eq]
  go_enter Try.func87, Try.ntmps87
  generalize (c.toNat : Int) = n
  unfold insideN
  go_wp2
  all_goals go_ret
  all_goals refine ⟨ret_bool ?_, rfl⟩
  all_goals (rw [Bool.eq_iff_iff]; simp [*] <;> omega)
end Go.Proofs.Ytdbmeocpjopdhaa
