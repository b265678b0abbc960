/- Bytes and names, of the program and of the document. The program's Name. What is quoted, of the program and of the document. Grammars, plainly: what is asked of them, and how they are shown. Lists and grammars as they lie, read only. -/
import Derived.Test.YtnpjhndgdlihjaaDoorRows
import Derived.Test.YtnpjhndgdlihjaaDoorZa
import Derived.WalkSpells
import Derived.WalkLawsBesides
import Derived.BigQuiet
import Derived.Deep.QuietTactic
import Derived.Laws.RangeString
import Derived.Laws.RangeAny
namespace Go.Proofs.YtnpjhndgdlihjaaDoor
open Go.RowKit
set_option linter.unusedVariables false
theorem ret_bool {a b : Bool} (h : a = b) : Ending.returned (.bool a) = .returned (.bool b) := by rw [h]
/-- The class of a byte. -/
def classOf (c : UInt8) : Nat :=
  if c = 0 then 0 else if c = 32 ∨ c = 9 then 1 else if c = 10 then 2
  else if c = 38 ∨ c = 124 ∨ c = 59 ∨ c = 60 ∨ c = 62 ∨ c = 40 ∨ c = 41 then 5
  else if c = 39 ∨ c = 34 ∨ c = 92 ∨ c = 96 then 6
  else if c = 36 then 7
  else if 48 ≤ c ∧ c ≤ 57 then 3
  else if c = 95 ∨ (97 ≤ c ||| 32 ∧ c ||| 32 ≤ 122) then 4
  else 8
/-- The class of a letter, in numbers; o: the letter with the bit 32. -/
def letterN (n o : Int) : Nat := if 48 ≤ n ∧ n ≤ 57 then 3 else if n = 95 ∨ (97 ≤ o ∧ o ≤ 122) then 4 else 8
def classN (n o : Int) : Nat :=
  if n = 0 then 0 else if n = 32 ∨ n = 9 then 1 else if n = 10 then 2
  else if n = 38 ∨ n = 124 ∨ n = 59 ∨ n = 60 ∨ n = 62 ∨ n = 40 ∨ n = 41 then 5
  else if n = 39 ∨ n = 34 ∨ n = 92 ∨ n = 96 then 6
  else if n = 36 then 7 else letterN n o
def allBytes : List UInt8 := (List.range 256).map UInt8.ofNat
theorem mem_bytes (c : UInt8) : c ∈ allBytes := List.mem_map.2 ⟨c.toNat, List.mem_range.2 c.toNat_lt, by simp⟩
theorem class_all : allBytes.all (fun c => classN c.toNat (bits .or .u8 c.toNat 32) == classOf c) = true := by kernel_rfl
theorem class_eq (c : UInt8) : classN c.toNat (bits .or .u8 c.toNat 32) = classOf c := by
  have := List.all_eq_true.1 class_all c (mem_bytes c)
  exact beq_iff_eq.1 this
theorem letter_any (c : UInt8) (w : World) : Calls Tryd.prog 93 #[.int .u8 c.toNat] w fun e w' => e = .returned (.int .i64 (letterN c.toNat (bits .or .u8 c.toNat 32))) ∧ w' = w := by
  go_enter Tryd.func93, Tryd.ntmps93
  generalize (c.toNat : Int) = n
  go_wp2
  all_goals go_ret
  all_goals refine ⟨?_, rfl⟩
  all_goals refine congrArg (fun k : Int => Ending.returned (Value.int .i64 k)) ?_
  all_goals (
    unfold letterN
    try simp only [beq_iff_eq, beq_eq_false_iff_ne] at *
    repeat' split
    all_goals first | rfl | (exfalso; omega))
theorem class_any (c : UInt8) (w : World) : Calls Tryd.prog 72 #[.int .u8 c.toNat] w fun e w' => e = .returned (.int .i64 (classOf c)) ∧ w' = w := by
  rw [← class_eq]
  have HL := Lib.hid (letter_any c)
  go_enter Tryd.func72, Tryd.ntmps72
  go_wp2_with (go_at_call 93; refine (HL.out _).mono ?_; rintro e w' ⟨rfl, rfl⟩)
  all_goals go_ret
  all_goals refine ⟨?_, rfl⟩
  all_goals refine congrArg (fun k : Int => Ending.returned (Value.int .i64 k)) ?_
  all_goals clear HL
  all_goals generalize (c.toNat : Int) = n at *
  all_goals (
    unfold classN
    try simp only [beq_iff_eq, beq_eq_false_iff_ne] at *
    repeat' split
    all_goals first | rfl | (exfalso; omega))
def rclassN (n : Int) : Nat :=
  if n = 0 then 0 else if n = 32 ∨ n = 9 then 1 else if n = 10 then 2
  else if 48 ≤ n ∧ n ≤ 57 then 3
  else if (97 ≤ n ∧ n ≤ 122) ∨ (65 ≤ n ∧ n ≤ 90) ∨ n = 95 then 4
  else if n = 38 ∨ n = 124 ∨ n = 59 ∨ n = 60 ∨ n = 62 ∨ n = 40 ∨ n = 41 then 5
  else if n = 39 ∨ n = 34 ∨ n = 92 ∨ n = 96 then 6
  else if n = 36 then 7 else 8
theorem rclass_all : allBytes.all (fun c => rclassN c.toNat == classOf c) = true := by kernel_rfl
theorem rclass_eq (c : UInt8) : rclassN c.toNat = classOf c := by
  have := List.all_eq_true.1 rclass_all c (mem_bytes c)
  exact beq_iff_eq.1 this
theorem ret_nat {a b : Nat} (h : a = b) : Ending.returned (.int .i64 (a : Int)) = .returned (.int .i64 (b : Int)) := by rw [h]
set_option maxHeartbeats 6400000 in
theorem rclass_any (c : UInt8) (w : World) : Calls Tryd.prog 60 #[.int .u8 c.toNat] w fun e w' => e = .returned (.int .i64 (classOf c)) ∧ w = w' := by
  rw [← rclass_eq]
  generalize (c.toNat : Int) = n
  have hreg : (n < 48) ∨ (48 ≤ n ∧ n ≤ 57) ∨ (57 < n ∧ n < 65) ∨ (65 ≤ n ∧ n ≤ 90) ∨ (90 < n ∧ n < 97) ∨ (97 ≤ n ∧ n ≤ 122) ∨ (122 < n) := by omega
  rcases hreg with h | h | h | h | h | h | h
  · have q0 : n < 48 := by omega
    have q1 : n < 65 := by omega
    have q2 : n < 97 := by omega
    have r95 : (n == 95) = false := beq_eq_false_iff_ne.2 (by omega)
    have r124 : (n == 124) = false := beq_eq_false_iff_ne.2 (by omega)
    have r59 : (n == 59) = false := beq_eq_false_iff_ne.2 (by omega)
    have r60 : (n == 60) = false := beq_eq_false_iff_ne.2 (by omega)
    have r62 : (n == 62) = false := beq_eq_false_iff_ne.2 (by omega)
    have r92 : (n == 92) = false := beq_eq_false_iff_ne.2 (by omega)
    have r96 : (n == 96) = false := beq_eq_false_iff_ne.2 (by omega)
    clear h
    go_enter Tryd.func60, Tryd.ntmps60
    go_wp2
    all_goals go_ret
    all_goals refine ⟨ret_nat ?_, rfl⟩
    all_goals first
      | rfl
      | decide
      | (unfold rclassN
         try simp only [beq_iff_eq, beq_eq_false_iff_ne] at *
         repeat' split
         all_goals first | rfl | (exfalso; omega))
  · have q0 : 48 ≤ n := by omega
    have q1 : n ≤ 57 := by omega
    have r0 : (n == 0) = false := beq_eq_false_iff_ne.2 (by omega)
    have r32 : (n == 32) = false := beq_eq_false_iff_ne.2 (by omega)
    have r9 : (n == 9) = false := beq_eq_false_iff_ne.2 (by omega)
    have r10 : (n == 10) = false := beq_eq_false_iff_ne.2 (by omega)
    clear h
    go_enter Tryd.func60, Tryd.ntmps60
    go_wp2
    all_goals go_ret
    all_goals refine ⟨ret_nat ?_, rfl⟩
    all_goals first
      | rfl
      | decide
      | (unfold rclassN
         try simp only [beq_eq_false_iff_ne] at *
         repeat' split
         all_goals first | rfl | (exfalso; omega))
  · have q0 : 48 ≤ n := by omega
    have q1 : 57 < n := by omega
    have q2 : n < 65 := by omega
    have q3 : n < 97 := by omega
    have r0 : (n == 0) = false := beq_eq_false_iff_ne.2 (by omega)
    have r32 : (n == 32) = false := beq_eq_false_iff_ne.2 (by omega)
    have r9 : (n == 9) = false := beq_eq_false_iff_ne.2 (by omega)
    have r10 : (n == 10) = false := beq_eq_false_iff_ne.2 (by omega)
    have r95 : (n == 95) = false := beq_eq_false_iff_ne.2 (by omega)
    have r38 : (n == 38) = false := beq_eq_false_iff_ne.2 (by omega)
    have r124 : (n == 124) = false := beq_eq_false_iff_ne.2 (by omega)
    have r40 : (n == 40) = false := beq_eq_false_iff_ne.2 (by omega)
    have r41 : (n == 41) = false := beq_eq_false_iff_ne.2 (by omega)
    have r39 : (n == 39) = false := beq_eq_false_iff_ne.2 (by omega)
    have r34 : (n == 34) = false := beq_eq_false_iff_ne.2 (by omega)
    have r92 : (n == 92) = false := beq_eq_false_iff_ne.2 (by omega)
    have r96 : (n == 96) = false := beq_eq_false_iff_ne.2 (by omega)
    have r36 : (n == 36) = false := beq_eq_false_iff_ne.2 (by omega)
    clear h
    go_enter Tryd.func60, Tryd.ntmps60
    go_wp2
    all_goals go_ret
    all_goals refine ⟨ret_nat ?_, rfl⟩
    all_goals first
      | rfl
      | decide
      | (unfold rclassN
         try simp only [beq_iff_eq, beq_eq_false_iff_ne] at *
         repeat' split
         all_goals first | rfl | (exfalso; omega))
  · have q0 : 48 ≤ n := by omega
    have q1 : 57 < n := by omega
    have q2 : 65 ≤ n := by omega
    have q3 : n ≤ 90 := by omega
    have q4 : n < 97 := by omega
    have r0 : (n == 0) = false := beq_eq_false_iff_ne.2 (by omega)
    have r32 : (n == 32) = false := beq_eq_false_iff_ne.2 (by omega)
    have r9 : (n == 9) = false := beq_eq_false_iff_ne.2 (by omega)
    have r10 : (n == 10) = false := beq_eq_false_iff_ne.2 (by omega)
    clear h
    go_enter Tryd.func60, Tryd.ntmps60
    go_wp2
    all_goals go_ret
    all_goals refine ⟨ret_nat ?_, rfl⟩
    all_goals first
      | rfl
      | decide
      | (unfold rclassN
         try simp only [beq_eq_false_iff_ne] at *
         repeat' split
         all_goals first | rfl | (exfalso; omega))
  · have q0 : 48 ≤ n := by omega
    have q1 : 57 < n := by omega
    have q2 : 65 ≤ n := by omega
    have q3 : 90 < n := by omega
    have q4 : n < 97 := by omega
    have r0 : (n == 0) = false := beq_eq_false_iff_ne.2 (by omega)
    have r32 : (n == 32) = false := beq_eq_false_iff_ne.2 (by omega)
    have r9 : (n == 9) = false := beq_eq_false_iff_ne.2 (by omega)
    have r10 : (n == 10) = false := beq_eq_false_iff_ne.2 (by omega)
    have r38 : (n == 38) = false := beq_eq_false_iff_ne.2 (by omega)
    have r124 : (n == 124) = false := beq_eq_false_iff_ne.2 (by omega)
    have r59 : (n == 59) = false := beq_eq_false_iff_ne.2 (by omega)
    have r60 : (n == 60) = false := beq_eq_false_iff_ne.2 (by omega)
    have r62 : (n == 62) = false := beq_eq_false_iff_ne.2 (by omega)
    have r40 : (n == 40) = false := beq_eq_false_iff_ne.2 (by omega)
    have r41 : (n == 41) = false := beq_eq_false_iff_ne.2 (by omega)
    have r39 : (n == 39) = false := beq_eq_false_iff_ne.2 (by omega)
    have r34 : (n == 34) = false := beq_eq_false_iff_ne.2 (by omega)
    have r36 : (n == 36) = false := beq_eq_false_iff_ne.2 (by omega)
    clear h
    go_enter Tryd.func60, Tryd.ntmps60
    go_wp2
    all_goals go_ret
    all_goals refine ⟨ret_nat ?_, rfl⟩
    all_goals first
      | rfl
      | decide
      | (unfold rclassN
         try simp only [beq_iff_eq, beq_eq_false_iff_ne] at *
         repeat' split
         all_goals first | rfl | (exfalso; omega))
  · have q0 : 48 ≤ n := by omega
    have q1 : 57 < n := by omega
    have q2 : 97 ≤ n := by omega
    have q3 : n ≤ 122 := by omega
    have r0 : (n == 0) = false := beq_eq_false_iff_ne.2 (by omega)
    have r32 : (n == 32) = false := beq_eq_false_iff_ne.2 (by omega)
    have r9 : (n == 9) = false := beq_eq_false_iff_ne.2 (by omega)
    have r10 : (n == 10) = false := beq_eq_false_iff_ne.2 (by omega)
    clear h
    go_enter Tryd.func60, Tryd.ntmps60
    go_wp2
    all_goals go_ret
    all_goals refine ⟨ret_nat ?_, rfl⟩
    all_goals first
      | rfl
      | decide
      | (unfold rclassN
         try simp only [beq_eq_false_iff_ne] at *
         repeat' split
         all_goals first | rfl | (exfalso; omega))
  · have q0 : 48 ≤ n := by omega
    have q1 : 57 < n := by omega
    have q2 : 65 ≤ n := by omega
    have q3 : 90 < n := by omega
    have q4 : 97 ≤ n := by omega
    have q5 : 122 < n := by omega
    have r0 : (n == 0) = false := beq_eq_false_iff_ne.2 (by omega)
    have r32 : (n == 32) = false := beq_eq_false_iff_ne.2 (by omega)
    have r9 : (n == 9) = false := beq_eq_false_iff_ne.2 (by omega)
    have r10 : (n == 10) = false := beq_eq_false_iff_ne.2 (by omega)
    have r95 : (n == 95) = false := beq_eq_false_iff_ne.2 (by omega)
    have r38 : (n == 38) = false := beq_eq_false_iff_ne.2 (by omega)
    have r59 : (n == 59) = false := beq_eq_false_iff_ne.2 (by omega)
    have r60 : (n == 60) = false := beq_eq_false_iff_ne.2 (by omega)
    have r62 : (n == 62) = false := beq_eq_false_iff_ne.2 (by omega)
    have r40 : (n == 40) = false := beq_eq_false_iff_ne.2 (by omega)
    have r41 : (n == 41) = false := beq_eq_false_iff_ne.2 (by omega)
    have r39 : (n == 39) = false := beq_eq_false_iff_ne.2 (by omega)
    have r34 : (n == 34) = false := beq_eq_false_iff_ne.2 (by omega)
    have r92 : (n == 92) = false := beq_eq_false_iff_ne.2 (by omega)
    have r96 : (n == 96) = false := beq_eq_false_iff_ne.2 (by omega)
    have r36 : (n == 36) = false := beq_eq_false_iff_ne.2 (by omega)
    clear h
    go_enter Tryd.func60, Tryd.ntmps60
    go_wp2
    all_goals go_ret
    all_goals refine ⟨ret_nat ?_, rfl⟩
    all_goals first
      | rfl
      | decide
      | (unfold rclassN
         try simp only [beq_eq_false_iff_ne] at *
         repeat' split
         all_goals first | rfl | (exfalso; omega))
def nameB : List UInt8 → Bool
  | [] => false
  | c :: r => classOf c == 4 && r.all fun d => classOf d == 4 || classOf d == 3
theorem drop_at (s : ByteArray) (k : Nat) (h : k < s.size) : s.data.toList.drop k = s[k] :: s.data.toList.drop (k + 1) := by
  rw [List.drop_eq_getElem_cons (by simpa using h)]; rfl
theorem drop_end (s : ByteArray) : s.data.toList.drop s.size = [] := List.drop_of_length_le (by simp)
theorem list_empty (s : ByteArray) : s.data.toList.isEmpty = decide (s.size = 0) := by
  have h : s.data.toList.length = s.size := by simp
  cases hl : s.data.toList with
  | nil => rw [hl] at h; simp at h; simp [← h]
  | cons a l => rw [hl] at h; simp at h; simp [← h]
theorem size_pos (s : ByteArray) : decide (0 < s.size) = (!decide (s.size = 0) && true) := by
  rw [Bool.eq_iff_iff, Bool.and_true, Bool.not_eq_true', decide_eq_true_eq, decide_eq_false_iff_not]
  omega
theorem nz_false (s : ByteArray) (b : Bool) (h : s.size = 0) : (!decide (s.size = 0) && b) = false := by rw [decide_eq_true h]; rfl
theorem nz_true (s : ByteArray) (h : ¬ s.size = 0) : (!decide (s.size = 0) && true) = true := by rw [decide_eq_false h]; rfl
def namL (l : List UInt8) : Bool := l.all fun d => classOf d == 4 || classOf d == 3
/-- A name from place k on. -/
def namF (k : Nat) (l : List UInt8) : Bool := if k = 0 then (match l with | [] => true | c :: r => classOf c == 4 && namL r) else namL l
theorem nameB_eq (s : ByteArray) : nameB s.data.toList = (!decide (s.size = 0) && namF 0 s.data.toList) := by
  rw [← list_empty]
  cases s.data.toList with
  | nil => rfl
  | cons c r => simp [nameB, namF, namL]
/-- May it be quoted? -/
def insideB (c : UInt8) : Bool := 33 ≤ c.toNat && c.toNat ≤ 126 && c.toNat != 39
def insideN (n : Int) : Bool := decide (33 ≤ n) && decide (n ≤ 126) && !(n == 39)
theorem inside_all : allBytes.all (fun c => insideN c.toNat == insideB c) = true := by kernel_rfl
theorem inside_eq (c : UInt8) : insideN c.toNat = insideB c := beq_iff_eq.1 (List.all_eq_true.1 inside_all c (mem_bytes c))
theorem inside_any (c : UInt8) (w : World) : Calls Tryd.prog 92 #[.int .u8 c.toNat] w fun e w' => e = .returned (.bool (insideB c)) ∧ w = w' := by
  rw [← inside_eq]
  go_enter Tryd.func92, Tryd.ntmps92
  generalize (c.toNat : Int) = n
  unfold insideN
  go_wp2
  all_goals go_ret
  all_goals refine ⟨ret_bool ?_, rfl⟩
  all_goals (rw [Bool.eq_iff_iff]; simp [*] <;> omega)
theorem rinside_any (c : UInt8) (w : World) : Calls Tryd.prog 88 #[.int .u8 c.toNat] w fun e w' => e = .returned (.bool (insideB c)) ∧ w = w' := by
  rw [← inside_eq]
  go_enter Tryd.func88, Tryd.ntmps88
  generalize (c.toNat : Int) = n
  unfold insideN
  go_wp2
  all_goals go_ret
  all_goals refine ⟨ret_bool ?_, rfl⟩
  all_goals (rw [Bool.eq_iff_iff]; simp [*] <;> omega)
end Go.Proofs.YtnpjhndgdlihjaaDoor

namespace Go.Proofs.YtnpjhndgdlihjaaDoor
open Go.RowKit
set_option linter.unusedVariables false
def asciiB (l : List UInt8) : Bool := l.all fun c => decide (c.toNat < 128)
def nameAt (i : Int) (q : Int) : Bool := (q == 4) || ((q == 3) && decide (0 < i))
theorem nameAt_byte (k : Nat) (c : UInt8) : nameAt k (classOf c) = (classOf c == 4 || (classOf c == 3 && k != 0)) := by
  have h1 : ((classOf c : Int) == 4) = (classOf c == 4) := by rw [Bool.eq_iff_iff, beq_iff_eq, beq_iff_eq]; omega
  have h2 : ((classOf c : Int) == 3) = (classOf c == 3) := by rw [Bool.eq_iff_iff, beq_iff_eq, beq_iff_eq]; omega
  have h3 : decide ((0 : Int) < (k : Int)) = (k != 0) := by rw [Bool.eq_iff_iff, decide_eq_true_eq, bne_iff_ne]; omega
  unfold nameAt
  rw [h1, h2, h3]
theorem namF_step (s : ByteArray) (k : Nat) (h : k < s.size) (hk : namF 0 s.data.toList = namF k (s.data.toList.drop k)) : namF 0 s.data.toList = (nameAt k (classOf s[k]) && namF (k + 1) (s.data.toList.drop (k + 1))) := by
  rw [hk, drop_at s k h, nameAt_byte]
  unfold namF
  rw [if_neg (Nat.succ_ne_zero k)]
  by_cases hk0 : k = 0
  · rw [if_pos hk0]; simp [hk0]
  · have h4 : (k != 0) = true := by simpa using hk0
    rw [if_neg hk0, h4, Bool.and_true]
    rfl
theorem below_iter (w : World) (s : ByteArray) (k : Nat) : Below w.heap.size w (w.iter s k) := (Below.refl _ _).alloc (Nat.le_refl _) _
theorem class_high {c : UInt8} (h : ¬ c.toNat < 128) : classOf c = 8 := by
  have h0 := List.all_eq_true.1 (show allBytes.all (fun c => decide (c.toNat < 128) || (classOf c == 8)) = true by kernel_rfl) c (mem_bytes c)
  rw [decide_eq_false h, Bool.false_or] at h0
  exact beq_iff_eq.1 h0
theorem name_ascii {l : List UInt8} (h : nameB l = true) : asciiB l = true := by
  cases l with
  | nil => cases h
  | cons c r =>
    simp only [nameB, Bool.and_eq_true, beq_iff_eq, List.all_eq_true, Bool.or_eq_true] at h
    unfold asciiB
    rw [List.all_eq_true]
    intro d hd
    rw [decide_eq_true_eq]
    by_cases hh : d.toNat < 128
    · exact hh
    · have h8 := class_high hh
      rcases List.mem_cons.1 hd with rfl | hd
      · omega
      · rcases h.2 d hd with e | e <;> omega
/-- A nonterminal's name. -/
def okName (l : List UInt8) : Bool := nameB l && decide (l.length ≤ 24)
theorem len_size (t : ByteArray) : t.data.toList.length = t.size := by simp
end Go.Proofs.YtnpjhndgdlihjaaDoor

namespace Go.Proofs.YtnpjhndgdlihjaaDoor
open Go.RowKit
set_option linter.unusedVariables false
/-- How many bytes from here on may be quoted. -/
def spanL (l : List UInt8) : Nat := (l.takeWhile insideB).length
theorem spanL_le (l : List UInt8) : spanL l ≤ l.length := (List.takeWhile_sublist insideB).length_le
theorem spanL_cons (c : UInt8) (l : List UInt8) : spanL (c :: l) = if insideB c then spanL l + 1 else 0 := by
  unfold spanL
  rw [List.takeWhile_cons]
  split <;> simp
def SpanAt (s : ByteArray) (p k : Nat) : Prop := p + k ≤ s.size ∧ spanL (s.data.toList.drop p) = k + spanL (s.data.toList.drop (p + k))
set_option maxRecDepth 100000 in
set_option maxHeartbeats 1600000 in
theorem span_any (s : ByteArray) (hs : s.size ≤ 4611686018427387904) (p : Nat) (hp : p ≤ s.size) (w : World) : Calls Tryd.prog 68 #[.string s, .int .i64 p, .func (.func 92) #[] #[]] w fun e w' => e = .returned (.int .i64 (spanL (s.data.toList.drop p))) ∧ w = w' := by
  go_enter Tryd.func68, Tryd.ntmps68
  go_wp2
  go_loop [7] (fun n => ∃ k : Nat, p + k ≤ s.size ∧ n = .int .i64 k ∧ Hid (SpanAt s p k)) (fun n => s.size - (intOf n).toNat)
  case atStart => exact ⟨0, by omega, rfl, Lib.hid ⟨by omega, by simp⟩⟩
  case round =>
    obtain ⟨k, hk, rfl, HS⟩ := hrel
    by_cases hlt : p + k < s.size
    · have HD := Lib.hid (drop_at s (p + k) hlt)
      have HI := Lib.hid (inside_any s[p + k] w)
      cases hb : insideB s[p + k] with
      | true =>
        rw [hb] at HI
        have HN : Hid (SpanAt s p (k + 1)) := Lib.hid ⟨by omega, by
          have h1 := HS.out.2
          rw [HD.out, spanL_cons, if_pos hb] at h1
          rw [h1]
          show k + (spanL (s.data.toList.drop (p + k + 1)) + 1) = k + 1 + spanL (s.data.toList.drop (p + (k + 1)))
          rw [Nat.add_assoc p k 1]; omega⟩
        clear hb
        go_wp2_with (go_at_call 92; refine HI.out.mono ?_; rintro e w' ⟨rfl, rfl⟩)
        go_round
        case rel => exact ⟨k + 1, by omega, by go_num, HN⟩
        case measure => simp [intOf]; omega
      | false =>
        rw [hb] at HI
        have HN : Hid (spanL (s.data.toList.drop p) = k) := Lib.hid (by
          have h1 := HS.out.2
          rw [HD.out, spanL_cons, hb] at h1
          simpa using h1)
        clear hb
        go_wp2_with (go_at_call 92; refine HI.out.mono ?_; rintro e w' ⟨rfl, rfl⟩)
        go_ret
        exact ⟨ret_nat HN.out.symm, rfl⟩
    · have HN : Hid (spanL (s.data.toList.drop p) = k) := Lib.hid (by
        have h1 := HS.out.2
        rw [show s.data.toList.drop (p + k) = [] from List.drop_of_length_le (by simp; omega)] at h1
        simpa [spanL] using h1)
      go_wp2
      go_ret
      exact ⟨ret_nat HN.out.symm, rfl⟩
theorem fnew_any (k : Int) (hk : k ≠ 0) (p : Int) (w : World) : Calls Tryd.prog 36 #[.int .i64 k, .int .i64 p] w fun e w' => e = .returned (.iface 106 (.pointer (some ⟨w.heap.size, 0, none⟩))) ∧ Below w.heap.size w w' := by
  have h0 : (k == 0) = false := by simpa using hk
  clear hk
  go_enter Tryd.func36, Tryd.ntmps36
  go_wp2
  go_ret
  exact ⟨rfl, (Below.refl _ _).alloc (Nat.le_refl _) _⟩
/-- What is quoted, from its first byte on: is it as it should be? -/
def quoteOK (s : ByteArray) : Prop := 1 + spanL (s.data.toList.drop 1) < s.size ∧ s.data.toList[1 + spanL (s.data.toList.drop 1)]? = some 39 ∧ spanL (s.data.toList.drop 1) ≠ 0 ∧ 1 + spanL (s.data.toList.drop 1) < 24
theorem get_some (s : ByteArray) (k : Nat) (h : k < s.size) : s.data.toList[k]? = some s[k] := by
  rw [Array.getElem?_toList]; exact Array.getElem?_eq_getElem h
set_option maxHeartbeats 800000 in
theorem quoted_yes (s : ByteArray) (hs : s.size ≤ 4611686018427387904) (h : quoteOK s) (w : World) : Calls Tryd.prog 70 #[.string s, .int .i64 0] w fun e w' => e = .returned (.tuple #[.int .i64 ((spanL (s.data.toList.drop 1) + 2 : Nat) : Int), .nilIface]) ∧ w = w' := by
  obtain ⟨h1, h2, h3, h4⟩ := h
  have HSP := Lib.hid (span_any s hs 1 (by omega) w)
  generalize spanL (s.data.toList.drop 1) = k at *
  have h5 : s[1 + k] = 39 := by
    rw [get_some s _ h1] at h2
    exact Option.some.inj h2
  have h6 : ((s[1 + k].toNat : Int) != 39) = false := by rw [h5]; rfl
  have h7 : ((1 : Int) + (k : Int) == 1) = false := beq_eq_false_iff_ne.2 (by omega)
  clear h2 h5 h3
  go_enter Tryd.func70, Tryd.ntmps70
  go_wp2_with fail
  refine HSP.out.mono ?_
  rintro e w' ⟨rfl, rfl⟩
  go_wp2
  go_ret2
  exact ⟨by simp; omega, rfl⟩
/-- It answers an error. -/
def Errs (w : World) (e : Ending) (w' : World) : Prop := ∃ A, e = .returned (.tuple #[.int .i64 0, .iface 106 (.pointer (some A))]) ∧ Below w.heap.size w w'
set_option maxHeartbeats 1600000 in
theorem quoted_no (s : ByteArray) (hs : s.size ≤ 4611686018427387904) (h0 : 0 < s.size) (h : ¬ quoteOK s) (w : World) : Calls Tryd.prog 70 #[.string s, .int .i64 0] w (Errs w) := by
  have HSP := Lib.hid (span_any s hs 1 (by omega) w)
  have hk : spanL (s.data.toList.drop 1) < s.size := by
    have := spanL_le (s.data.toList.drop 1)
    simp only [List.length_drop, len_size] at this
    omega
  unfold quoteOK at h
  generalize spanL (s.data.toList.drop 1) = k at *
  by_cases h1 : 1 + k < s.size
  · by_cases h2 : s[1 + k] = 39
    · have h6 : ((s[1 + k].toNat : Int) != 39) = false := by rw [h2]; rfl
      by_cases h3 : k = 0
      · subst h3
        clear h h2
        go_enter Tryd.func70, Tryd.ntmps70
        go_wp2_with fail
        refine HSP.out.mono ?_
        rintro e w' ⟨rfl, rfl⟩
        go_wp2_with (go_at_call 36; refine (fnew_any _ (by decide) _ _).mono ?_; rintro e w' ⟨rfl, hb⟩; have HB := Lib.hid hb; clear hb)
        go_ret2
        exact ⟨_, rfl, HB.out⟩
      · have h7 : ((1 : Int) + (k : Int) == 1) = false := beq_eq_false_iff_ne.2 (by omega)
        have h4 : 24 ≤ 1 + k := by
          by_cases h4 : 1 + k < 24
          · exfalso
            exact h ⟨h1, by rw [get_some s _ h1, h2], h3, h4⟩
          · omega
        have h5 : 24 ≤ (1 : Int) + (k : Int) := by omega
        clear h h2 h3 h4
        go_enter Tryd.func70, Tryd.ntmps70
        go_wp2_with fail
        refine HSP.out.mono ?_
        rintro e w' ⟨rfl, rfl⟩
        go_wp2_with (go_at_call 36; refine (fnew_any _ (by decide) _ _).mono ?_; rintro e w' ⟨rfl, hb⟩; have HB := Lib.hid hb; clear hb)
        go_ret2
        exact ⟨_, rfl, HB.out⟩
    · have h6 : ((s[1 + k].toNat : Int) != 39) = true := by
        rw [bne_iff_ne]
        intro e
        exact h2 (UInt8.toNat_inj.1 (by show s[1 + k].toNat = 39; omega))
      clear h h2
      go_enter Tryd.func70, Tryd.ntmps70
      go_wp2_with fail
      refine HSP.out.mono ?_
      rintro e w' ⟨rfl, rfl⟩
      go_wp2_with (go_at_call 36; refine (fnew_any _ (by decide) _ _).mono ?_; rintro e w' ⟨rfl, hb⟩; have HB := Lib.hid hb; clear hb)
      go_ret2
      exact ⟨_, rfl, HB.out⟩
  · clear h
    go_enter Tryd.func70, Tryd.ntmps70
    go_wp2_with fail
    refine HSP.out.mono ?_
    rintro e w' ⟨rfl, rfl⟩
    go_wp2_with (go_at_call 36; refine (fnew_any _ (by decide) _ _).mono ?_; rintro e w' ⟨rfl, hb⟩; have HB := Lib.hid hb; clear hb)
    go_ret2
    exact ⟨_, rfl, HB.out⟩
theorem bytes_list (s : ByteArray) : s.toList = s.data.toList := ByteArray.toList_eq s
/-- Is it what is quoted, as a whole? -/
def quotedB (l : List UInt8) : Bool := l.head? == some 39 && (decide (1 + spanL (l.drop 1) < l.length) && (l[1 + spanL (l.drop 1)]? == some 39) && (spanL (l.drop 1) != 0) && decide (1 + spanL (l.drop 1) < 24)) && (spanL (l.drop 1) + 2 == l.length)
theorem quotedB_ok {s : ByteArray} (h : quoteOK s) (h0 : s.data.toList.head? = some 39) : quotedB s.data.toList = (spanL (s.data.toList.drop 1) + 2 == s.size) := by
  obtain ⟨h1, h2, h3, h4⟩ := h
  unfold quotedB
  rw [h0, h2, len_size, decide_eq_true h1, decide_eq_true h4, show (spanL (s.data.toList.drop 1) != 0) = true from bne_iff_ne.2 h3]
  rfl
theorem quotedB_no {s : ByteArray} (h : ¬ quoteOK s) : quotedB s.data.toList = false := by
  cases hb : quotedB s.data.toList with
  | false => rfl
  | true =>
    exfalso
    unfold quotedB at hb
    simp only [Bool.and_eq_true, decide_eq_true_eq, beq_iff_eq, bne_iff_ne, ne_eq, len_size] at hb
    exact h ⟨hb.1.2.1.1.1, hb.1.2.1.1.2, hb.1.2.1.2, hb.1.2.2⟩
theorem quotedB_head {l : List UInt8} (h : l.head? ≠ some 39) : quotedB l = false := by
  unfold quotedB
  rw [beq_eq_false_iff_ne.2 h]; rfl
theorem head_get (s : ByteArray) (h : 0 < s.size) : s.data.toList.head? = some s[0] := by
  rw [List.head?_eq_getElem?]; exact get_some s 0 h
theorem size_nil {s : ByteArray} (h : s.size = 0) : s = ⟨#[]⟩ := by
  have : s.data.toList = [] := List.eq_nil_of_length_eq_zero (by rw [len_size]; exact h)
  exact ByteArray.ext (Array.ext' this)
def faultOf (e p : Int) : Value := .agg #[.int .i64 e, .int .i64 p]
/-- The document's quoted. -/
def Quotes (w : World) (s : ByteArray) (e : Ending) (w' : World) : Prop := Below w.heap.size w w' ∧
  ((quoteOK s ∧ e = .returned (.tuple #[.int .i64 ((spanL (s.data.toList.drop 1) + 2 : Nat) : Int), faultOf 0 0])) ∨ (¬ quoteOK s ∧ ∃ k p, k ≠ 0 ∧ e = .returned (.tuple #[.int .i64 0, faultOf k p])))
set_option maxRecDepth 100000 in
set_option maxHeartbeats 3200000 in
theorem rquoted_any (s : ByteArray) (hs : s.size ≤ 4611686018427387904) (h0 : 0 < s.size) (w : World) : Calls Tryd.prog 62 #[.string s, .int .i64 0] w (Quotes w s) := by
  go_enter Tryd.func62, Tryd.ntmps62
  go_wp2
  go_loop [6] (fun n => ∃ k : Nat, 1 + k ≤ s.size ∧ n = .int .i64 ((k : Int) + 1) ∧ Hid (SpanAt s 1 k)) (fun n => s.size - (intOf n).toNat)
  case atStart => exact ⟨0, by omega, rfl, Lib.hid ⟨by omega, by simp⟩⟩
  case round =>
    obtain ⟨k, hk, rfl, HS⟩ := hrel
    by_cases hlt : k + 1 < s.size
    · have HD : Hid (s.data.toList.drop (1 + k) = s[k + 1] :: s.data.toList.drop (1 + k + 1)) := Lib.hid (by rw [Nat.add_comm 1 k]; exact drop_at s (k + 1) hlt)
      have HI := Lib.hid (rinside_any s[k + 1])
      cases hb : insideB s[k + 1] with
      | true =>
        rw [hb] at HI
        have HN : Hid (SpanAt s 1 (k + 1)) := Lib.hid ⟨by omega, by
          have h1 := HS.out.2
          rw [HD.out, spanL_cons, if_pos hb] at h1
          rw [h1]
          show k + (spanL (s.data.toList.drop (1 + k + 1)) + 1) = k + 1 + spanL (s.data.toList.drop (1 + (k + 1)))
          rw [Nat.add_assoc 1 k 1]; omega⟩
        clear hb
        go_wp2_with (go_at_call 88; refine (HI.out _).mono ?_; rintro e w' ⟨rfl, rfl⟩)
        go_round
        case rel => exact ⟨k + 1, by omega, by go_num, HN⟩
        case measure => simp [intOf]; omega
      | false =>
        rw [hb] at HI
        have HN : Hid (spanL (s.data.toList.drop 1) = k) := Lib.hid (by
          have h1 := HS.out.2
          rw [HD.out, spanL_cons, hb] at h1
          simpa using h1)
        have HOK : Hid (quoteOK s ↔ (s[k + 1].toNat : Int) = 39 ∧ ¬ k = 0 ∧ k + 1 < 24) := Lib.hid (by
          unfold quoteOK
          rw [HN.out, Nat.add_comm 1 k, get_some s _ hlt]
          constructor
          · rintro ⟨_, a, b, c⟩
            have := Option.some.inj a
            exact ⟨by rw [this]; rfl, b, c⟩
          · rintro ⟨a, b, c⟩
            exact ⟨hlt, by rw [show s[k + 1] = 39 from UInt8.toNat_inj.1 (by show s[k + 1].toNat = 39; omega)], b, c⟩)
        clear hb
        go_wp2_with (go_at_call 88; refine (HI.out _).mono ?_; rintro e w' ⟨rfl, rfl⟩)
        · refine bodyPost_ret (v := .tuple #[.int .i64 0, faultOf 2 ((k : Int) + 1)]) (by simp [results, Tryd.results62, go_sem, faultOf]) rfl ⟨(Below.refl _ _).alloc (Nat.le_refl _) _, .inr ⟨?_, _, _, by decide, rfl⟩⟩
          rw [HOK.out]
          have h2 : ((k : Int) + 1 == 1) = true := by assumption
          rw [beq_iff_eq] at h2
          omega
        · refine bodyPost_ret (v := .tuple #[.int .i64 0, faultOf 5 (0)]) (by simp [results, Tryd.results62, go_sem, faultOf]) rfl ⟨(Below.refl _ _).alloc (Nat.le_refl _) _, .inr ⟨?_, _, _, by decide, rfl⟩⟩
          rw [HOK.out]
          omega
        · refine bodyPost_ret (v := .tuple #[.int .i64 ((k : Int) + 1 + 1), faultOf 0 0]) (by simp [results, Tryd.results62, go_sem, faultOf]) rfl ⟨(Below.refl _ _).alloc (Nat.le_refl _) _, .inl ⟨?_, ?_⟩⟩
          · rw [HOK.out]
            have h2 : ((k : Int) + 1 == 1) = false := by assumption
            rw [beq_eq_false_iff_ne] at h2
            omega
          · rw [HN.out]; congr 4
        · refine bodyPost_ret (v := .tuple #[.int .i64 0, faultOf 2 ((k : Int) + 1)]) (by simp [results, Tryd.results62, go_sem, faultOf]) rfl ⟨(Below.refl _ _).alloc (Nat.le_refl _) _, .inr ⟨?_, _, _, by decide, rfl⟩⟩
          rw [HOK.out]
          omega
    · have HN : Hid (spanL (s.data.toList.drop 1) = k) := Lib.hid (by
        have h1 := HS.out.2
        rw [show s.data.toList.drop (1 + k) = [] from List.drop_of_length_le (by simp; omega)] at h1
        simpa [spanL] using h1)
      go_wp2
      refine bodyPost_ret (v := .tuple #[.int .i64 0, faultOf 4 ((s.size : Int))]) (by simp [results, Tryd.results62, go_sem, faultOf]) rfl ⟨(Below.refl _ _).alloc (Nat.le_refl _) _, .inr ⟨?_, _, _, by decide, rfl⟩⟩
      unfold quoteOK
      rw [HN.out]
      omega
end Go.Proofs.YtnpjhndgdlihjaaDoor

namespace Go.Proofs.YtnpjhndgdlihjaaDoor
open Go.RowKit
set_option linter.unusedVariables false
/-- A rule: v is its right side as it lies. -/
structure Ru where
  left : Int
  v : Value
  right : List Int
structure Gm where
  T : List ByteArray
  N : List ByteArray
  s : Int
  R : List Ru
def okN (s : ByteArray) : Bool := okName s.data.toList
def okT (s : ByteArray) : Bool := okName s.data.toList || quotedB s.data.toList
def shortR (r : Ru) : Bool := decide (r.right.length ≤ 8)
def sameR (a b : Ru) : Bool := a.left == b.left && a.right == b.right
/-- Ascending. -/
def Asc (l : List Int) : Prop := ∀ (i : Nat) (x y : Int), l[i]? = some x → l[i + 1]? = some y → x ≤ y
/-- No two of a list are the same. -/
def Un (l : List Ru) : Prop := ∀ (i j : Nat) (x r : Ru), j < i → l[j]? = some x → l[i]? = some r → sameR x r = false
namespace Gm
def term (g : Gm) (s : Int) : Bool := decide (1 ≤ s) && decide (s ≤ (g.T.length : Int))
def non (g : Gm) (s : Int) : Bool := decide ((g.T.length : Int) < s) && decide (s ≤ (g.T.length : Int) + (g.N.length : Int))
def sym (g : Gm) (s : Int) : Bool := g.term s || g.non s
def few (g : Gm) : Bool := (decide (g.T.length ≤ 120) && decide (g.N.length ≤ 120)) && (decide (g.R.length ≤ 300) && g.R.all shortR)
def form (g : Gm) : Bool := g.T.all okT && g.N.all okN
def once (g : Gm) : Bool := decide ((g.T ++ g.N).Nodup)
def knownR (g : Gm) (r : Ru) : Bool := g.non r.left && r.right.all g.sym
def known (g : Gm) : Bool := g.non g.s && g.R.all g.knownR
open Classical in
noncomputable def unlike (g : Gm) : Bool := decide (Un g.R)
def left (k : Int) (r : Ru) : Bool := r.left == k
def each (g : Gm) : Bool := (List.range g.N.length).all fun i => g.R.any (left ((g.T.length : Int) + 1 + i))
noncomputable def check (g : Gm) : Int := if g.few then (if g.form then (if g.once then (if g.known then (if g.unlike then (if g.each then 0 else 9) else 8) else 1) else 8) else 10) else 7
/-- The first rule of a nonterminal; behind all, if it has none. -/
def first (g : Gm) (i : Nat) : Nat := g.R.findIdx (left ((g.T.length : Int) + 1 + i))
def firsts (g : Gm) : List Int := (List.range g.N.length).map fun i => (g.first i : Int)
open Classical in
noncomputable def ordered (g : Gm) : Bool := decide (Asc g.firsts)
def name (g : Gm) (s : Int) : ByteArray := if s = 0 then ⟨#[36]⟩ else if s < 1 ∨ (g.T.length : Int) + (g.N.length : Int) < s then ⟨#[]⟩ else (g.T ++ g.N).getD (s - 1).toNat ⟨#[]⟩
def rightL (g : Gm) (l : List Int) : List UInt8 := l.flatMap fun s => 32 :: (g.name s).data.toList
def ruleL (g : Gm) (k : Int) (l : List Int) : List UInt8 := (g.name k).data.toList ++ ([32, 58] ++ g.rightL l)
def rulesL (g : Gm) : Int → List Ru → List UInt8
  | _, [] => []
  | k, r :: l => (if r.left = k then [10, 9, 124] ++ g.rightL r.right else (if k = 0 then [] else [10, 9, 59, 10]) ++ g.ruleL r.left r.right) ++ g.rulesL r.left l
def blanksL (l : List ByteArray) : List UInt8 := l.flatMap fun s => 32 :: s.data.toList
def startL (g : Gm) : List UInt8 := [37, 115, 116, 97, 114, 116, 32] ++ ((g.name g.s).data.toList ++ [10, 37, 37, 10])
def headsL (g : Gm) : List UInt8 := if g.T = [] then g.startL else [37, 116, 111, 107, 101, 110] ++ (blanksL g.T ++ ([10] ++ g.startL))
noncomputable def showL (g : Gm) : List UInt8 := if g.check = 0 ∧ g.ordered = true then g.headsL ++ (g.rulesL 0 g.R ++ [10, 9, 59, 10]) else []
/-- No text is long. -/
def small (g : Gm) : Prop := (∀ s ∈ g.T, s.size ≤ 1048576) ∧ (∀ s ∈ g.N, s.size ≤ 1048576) ∧ g.T.length ≤ 1048576 ∧ g.N.length ≤ 1048576 ∧ g.R.length ≤ 1048576 ∧ ∀ r ∈ g.R, r.right.length ≤ 1048576
theorem name_size {g : Gm} (h : g.small) (s : Int) : (g.name s).size ≤ 1048576 := by
  unfold name
  split
  · decide
  split
  · decide
  · rw [List.getD_eq_getElem?_getD]
    cases hx : (g.T ++ g.N)[(s - 1).toNat]? with
    | none => decide
    | some a =>
      have hm := List.mem_of_getElem? hx
      rcases List.mem_append.1 hm with hm | hm
      · exact h.1 _ hm
      · exact h.2.1 _ hm
end Gm
/-- A text out of its bytes. -/
def str (l : List UInt8) : ByteArray := ⟨l.toArray⟩
theorem str_data (a : ByteArray) : str a.data.toList = a := by unfold str; simp
theorem data_str (l : List UInt8) : (str l).data.toList = l := by unfold str; simp
theorem str_append (a b : List UInt8) : str a ++ str b = str (a ++ b) := by
  apply ByteArray.ext
  unfold str
  simp
theorem str_size (l : List UInt8) : (str l).size = l.length := by unfold str; rfl
theorem append_str (l : List UInt8) (a : ByteArray) : str l ++ a = str (l ++ a.data.toList) := by rw [← str_append, str_data]
end Go.Proofs.YtnpjhndgdlihjaaDoor

namespace Go.Proofs.YtnpjhndgdlihjaaDoor
open Go.RowKit
set_option linter.unusedVariables false
def StrV (s : ByteArray) : Value := .string s
def IntV (n : Int) : Value := .int .i64 n
def RuV (r : Ru) : Value := .agg #[.int .i64 r.left, r.v]
def Says (w : World) (b : Bool) (e : Ending) (w' : World) : Prop := e = .returned (.bool b) ∧ Below w.heap.size w w'
/-- A slice whose elements have one cell, as it lies. -/
structure Arr {α : Type} (E : α → Value) (w : World) (v : Value) (l : List α) : Prop where
  lies : ∃ A c, v = .slice A l.length c ∧ ∀ k x, l[k]? = some x → ∃ b off, A = some ⟨b, off, none⟩ ∧ b < w.heap.size ∧ w.cell? ⟨b, off + k, none⟩ = some (E x)
  short : l.length ≤ 4611686018427387904
  room : ∀ A n c, v = .slice A n c → n ≤ c ∧ (A = none → c = 0)
theorem Arr.later {α : Type} {E : α → Value} {w w' : World} {v : Value} {l : List α} (h : Arr E w v l) (hb : Below w.heap.size w w') : Arr E w' v l := by
  obtain ⟨⟨A, c, hv, hc⟩, hs, hro⟩ := h
  refine ⟨⟨A, c, hv, fun k x hx => ?_⟩, hs, hro⟩
  obtain ⟨b, off, hA, hlt, hcell⟩ := hc k x hx
  exact ⟨b, off, hA, Nat.lt_of_lt_of_le hlt hb.size, (hb.cell (p := ⟨b, off + k, none⟩) hlt).trans hcell⟩
theorem Arr.nil {α : Type} {E : α → Value} (w : World) (A : Option Addr) (c : Nat) (h : A = none → c = 0) : Arr E w (.slice A 0 c) [] := ⟨⟨A, c, rfl, fun k x h => by simp at h⟩, by simp, fun _ _ _ e => by cases e; exact ⟨Nat.zero_le _, h⟩⟩
/-- The first places of it. -/
theorem Arr.take {α : Type} {E : α → Value} {w : World} {A : Option Addr} {n c : Nat} {l : List α} (h : Arr E w (.slice A n c) l) (k : Nat) (hk : k ≤ n) (c' : Nat) (hc' : k ≤ c' ∧ (A = none → c' = 0)) : Arr E w (.slice A k c') (l.take k) := by
  obtain ⟨⟨A', c1, hv, hc⟩, hs⟩ := h
  cases hv
  refine ⟨⟨A, c', by rw [List.length_take, Nat.min_eq_left hk], fun i x hx => ?_⟩, by rw [List.length_take]; omega, fun _ _ _ e => by cases e; exact hc'⟩
  rw [List.getElem?_take] at hx
  split at hx
  · exact hc i x hx
  · cases hx
/-- As the source of an append. -/
theorem Arr.src {α : Type} {E : α → Value} {w : World} {v : Value} {l : List α} (h : Arr E w v l) (h1 : ∀ x, (E x).oneCell' = true) : SrcOK w v l.length 1 (l.map E) := by
  obtain ⟨⟨A, c, hv, hc⟩, hs, hro⟩ := h
  refine ⟨fun u hu => ?_, ?_⟩
  · obtain ⟨x, _, rfl⟩ := List.mem_map.1 hu
    exact h1 x
  · cases A with
    | none =>
      left
      have hl : l = [] := by
        cases l with
        | nil => rfl
        | cons x r =>
          obtain ⟨b, off, hA, _⟩ := hc 0 x rfl
          cases hA
      have h0 := (hro _ _ _ hv).2 rfl
      subst hl h0
      exact ⟨hv, rfl, rfl⟩
    | some ad =>
      right
      refine ⟨ad, c, hv, by simp, fun j u hu => ?_⟩
      rw [List.getElem?_map] at hu
      obtain ⟨x, hx, rfl⟩ := Option.map_eq_some_iff.1 hu
      obtain ⟨b, off, hA, _, hcell⟩ := hc j x hx
      cases hA
      have hadd : (⟨b, off, none⟩ : Addr).add j = ⟨b, off + j, none⟩ := by
        unfold Addr.add
        split
        · rename_i h0; simp_all
        · rfl
      rw [hadd]
      exact hcell
/-- A row of rules, as it lies. -/
structure Rul (w : World) (v : Value) (l : List Ru) : Prop where
  lies : ∃ A c, v = .slice A l.length c ∧ ∀ k r, l[k]? = some r → ∃ b off, A = some ⟨b, off, none⟩ ∧ b < w.heap.size ∧ w.cell? ⟨b, off + k * 2, none⟩ = some (.int .i64 r.left) ∧ w.cell? ⟨b, off + k * 2 + 1, none⟩ = some r.v ∧ Arr IntV w r.v r.right
  short : l.length ≤ 4611686018427387904
  room : ∀ A n c, v = .slice A n c → n ≤ c ∧ (A = none → c = 0)
theorem Rul.later {w w' : World} {v : Value} {l : List Ru} (h : Rul w v l) (hb : Below w.heap.size w w') : Rul w' v l := by
  obtain ⟨⟨A, c, hv, hc⟩, hs, hro⟩ := h
  refine ⟨⟨A, c, hv, fun k r hr => ?_⟩, hs, hro⟩
  obtain ⟨b, off, hA, hlt, h1, h2, h3⟩ := hc k r hr
  exact ⟨b, off, hA, Nat.lt_of_lt_of_le hlt hb.size, (hb.cell (p := ⟨b, off + k * 2, none⟩) hlt).trans h1, (hb.cell (p := ⟨b, off + k * 2 + 1, none⟩) hlt).trans h2, h3.later hb⟩
theorem Rul.take {w : World} {A : Option Addr} {n c : Nat} {l : List Ru} (h : Rul w (.slice A n c) l) (k : Nat) (hk : k ≤ n) (c' : Nat) (hc' : k ≤ c' ∧ (A = none → c' = 0)) : Rul w (.slice A k c') (l.take k) := by
  obtain ⟨⟨A', c1, hv, hc⟩, hs⟩ := h
  cases hv
  refine ⟨⟨A, c', by rw [List.length_take, Nat.min_eq_left hk], fun i x hx => ?_⟩, by rw [List.length_take]; omega, fun _ _ _ e => by cases e; exact hc'⟩
  rw [List.getElem?_take] at hx
  split at hx
  · exact hc i x hx
  · cases hx
theorem Rul.mem {w : World} {v : Value} {l : List Ru} (h : Rul w v l) {r : Ru} (hr : r ∈ l) : Arr IntV w r.v r.right := by
  obtain ⟨⟨A, c, hv, hc⟩, hs⟩ := h
  obtain ⟨k, hk, he⟩ := List.mem_iff_getElem.1 hr
  exact (hc k r (by rw [← he]; exact List.getElem?_eq_getElem hk)).elim fun _ ⟨_, _, _, _, _, h3⟩ => h3
/-- A grammar, as it lies. -/
structure GrR (w : World) (v : Value) (g : Gm) : Prop where
  lies : ∃ vT vN vR, v = .agg #[vT, vN, vR, .int .i64 g.s] ∧ Arr StrV w vT g.T ∧ Arr StrV w vN g.N ∧ Rul w vR g.R
  small : g.small
theorem GrR.later {w w' : World} {v : Value} {g : Gm} (h : GrR w v g) (hb : Below w.heap.size w w') : GrR w' v g := by
  obtain ⟨⟨vT, vN, vR, hv, h1, h2, h3⟩, hs⟩ := h
  exact ⟨⟨vT, vN, vR, hv, h1.later hb, h2.later hb, h3.later hb⟩, hs⟩
/-- A rule, as it lies. -/
structure RuR (w : World) (v : Value) (r : Ru) : Prop where
  lies : v = RuV r
  right : Arr IntV w r.v r.right
theorem RuR.later {w w' : World} {v : Value} {r : Ru} (h : RuR w v r) (hb : Below w.heap.size w w') : RuR w' v r := ⟨h.lies, h.right.later hb⟩
/-- The first place of which something is so; -1: there is none. -/
def idxL {α : Type} (p : α → Bool) (l : List α) : Int := if l.any p then (l.findIdx p : Nat) else -1
theorem idxL_hit {α : Type} {p : α → Bool} {l : List α} {k : Nat} {x : α} (hx : l[k]? = some x) (hp : p x = true) (hA : ∀ j y, j < k → l[j]? = some y → p y = false) : idxL p l = k := by
  obtain ⟨hk, rfl⟩ := List.getElem?_eq_some_iff.1 hx
  unfold idxL
  rw [if_pos (List.any_eq_true.2 ⟨_, List.getElem_mem hk, hp⟩)]
  congr 1
  rw [List.findIdx_eq hk]
  exact ⟨hp, fun j hj => hA j _ hj (List.getElem?_eq_getElem (by omega))⟩
theorem idxL_miss {α : Type} {p : α → Bool} {l : List α} (hA : ∀ j y, j < l.length → l[j]? = some y → p y = false) : idxL p l = -1 := by
  unfold idxL
  rw [if_neg]
  rw [List.any_eq_true]
  rintro ⟨x, hx, hp⟩
  obtain ⟨k, hk, he⟩ := List.mem_iff_getElem.1 hx
  rw [hA k x hk (by rw [← he]; exact List.getElem?_eq_getElem hk)] at hp
  cases hp
theorem idxL_any {α : Type} (p : α → Bool) (l : List α) : decide (0 ≤ idxL p l) = l.any p := by
  unfold idxL
  cases h : l.any p with
  | true => rw [if_pos rfl, decide_eq_true_eq]; omega
  | false => rw [if_neg (by simp), decide_eq_false_iff_not]; omega
theorem below_alloc (w : World) (o : Obj) : Below w.heap.size w (w.alloc o) := (Below.refl _ w).alloc (Nat.le_refl _) o
theorem below_alloc_trans {w w' : World} {o : Obj} (h : Below (w.alloc o).heap.size (w.alloc o) w') : Below w.heap.size w w' :=
  ((Below.refl _ w).alloc (Nat.le_refl _) o).trans (h.mono (by simp))
theorem all_not_any {α : Type} (p : α → Bool) (l : List α) : (!l.any fun x => !p x) = l.all p := by
  rw [List.all_eq_not_any_not]
end Go.Proofs.YtnpjhndgdlihjaaDoor
