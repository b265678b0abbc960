/- The reference's functions of one byte. The reference's functions of a text: Name, Digits, clear, arith. The reference's functions of a text: clear, arith. The reference's op: is it an operator of parameters? -/
import Derived.Test.YtpadnckmheippaaPz
import Derived.Test.YtpadnckmheippaaS26
namespace Go.Proofs.Ytpadnckmheippaa
open Go.RowKit
set_option linter.unusedVariables false
def rclassN (n : Int) : Nat :=
  if n = 0 then 0 else if n = 32 ∨ n = 9 then 1 else if n = 10 then 2
  else if 48 ≤ n ∧ n ≤ 57 then 3
  else if (97 ≤ n ∧ n ≤ 122) ∨ (65 ≤ n ∧ n ≤ 90) ∨ n = 95 then 4
  else if n = 38 ∨ n = 124 ∨ n = 59 ∨ n = 60 ∨ n = 62 ∨ n = 40 ∨ n = 41 then 5
  else if n = 39 ∨ n = 34 ∨ n = 92 ∨ n = 96 then 6
  else if n = 36 then 7 else 8
theorem rclass_all : allBytes.all (fun c => rclassN c.toNat == classOf c) = true := by kernel_rfl
theorem rclass_eq (c : UInt8) : rclassN c.toNat = classOf c := by
  have := List.all_eq_true.1 rclass_all c (mem_bytes c)
  exact beq_iff_eq.1 this
theorem ret_nat {a b : Nat} (h : a = b) : Ending.returned (.int .i64 (a : Int)) = .returned (.int .i64 (b : Int)) := by rw [h]
set_option maxHeartbeats 6400000 in
theorem rclass_any (c : UInt8) (w : World) : Calls Try.prog 80 #[.int .u8 c.toNat] w fun e w' => e = .returned (.int .i64 (classOf c)) ∧ w = w' := by
  rw [← rclass_eq]
  generalize (c.toNat : Int) = n
  have hreg : (n < 48) ∨ (48 ≤ n ∧ n ≤ 57) ∨ (57 < n ∧ n < 65) ∨ (65 ≤ n ∧ n ≤ 90) ∨ (90 < n ∧ n < 97) ∨ (97 ≤ n ∧ n ≤ 122) ∨ (122 < n) := by omega
  rcases hreg with h | h | h | h | h | h | h
  · have q0 : n < 48 := by omega
    have q1 : n < 65 := by omega
    have q2 : n < 97 := by omega
    have r95 : (n == 95) = false := beq_eq_false_iff_ne.2 (by omega)
    have r124 : (n == 124) = false := beq_eq_false_iff_ne.2 (by omega)
    have r59 : (n == 59) = false := beq_eq_false_iff_ne.2 (by omega)
    have r60 : (n == 60) = false := beq_eq_false_iff_ne.2 (by omega)
    have r62 : (n == 62) = false := beq_eq_false_iff_ne.2 (by omega)
    have r92 : (n == 92) = false := beq_eq_false_iff_ne.2 (by omega)
    have r96 : (n == 96) = false := beq_eq_false_iff_ne.2 (by omega)
    clear h
    go_enter Try.func80, Try.ntmps80
    go_wp2
    all_goals go_ret
    all_goals refine ⟨ret_nat ?_, rfl⟩
    all_goals first
      | rfl
      | decide
      | (unfold rclassN
         try simp only [beq_iff_eq, beq_eq_false_iff_ne] at *
         repeat' split
         all_goals first | rfl | (exfalso; omega))
  · have q0 : 48 ≤ n := by omega
    have q1 : n ≤ 57 := by omega
    have r0 : (n == 0) = false := beq_eq_false_iff_ne.2 (by omega)
    have r32 : (n == 32) = false := beq_eq_false_iff_ne.2 (by omega)
    have r9 : (n == 9) = false := beq_eq_false_iff_ne.2 (by omega)
    have r10 : (n == 10) = false := beq_eq_false_iff_ne.2 (by omega)
    clear h
    go_enter Try.func80, Try.ntmps80
    go_wp2
    all_goals go_ret
    all_goals refine ⟨ret_nat ?_, rfl⟩
    all_goals first
      | rfl
      | decide
      | (unfold rclassN
         try simp only [beq_eq_false_iff_ne] at *
         repeat' split
         all_goals first | rfl | (exfalso; omega))
  · have q0 : 48 ≤ n := by omega
    have q1 : 57 < n := by omega
    have q2 : n < 65 := by omega
    have q3 : n < 97 := by omega
    have r0 : (n == 0) = false := beq_eq_false_iff_ne.2 (by omega)
    have r32 : (n == 32) = false := beq_eq_false_iff_ne.2 (by omega)
    have r9 : (n == 9) = false := beq_eq_false_iff_ne.2 (by omega)
    have r10 : (n == 10) = false := beq_eq_false_iff_ne.2 (by omega)
    have r95 : (n == 95) = false := beq_eq_false_iff_ne.2 (by omega)
    have r38 : (n == 38) = false := beq_eq_false_iff_ne.2 (by omega)
    have r124 : (n == 124) = false := beq_eq_false_iff_ne.2 (by omega)
    have r40 : (n == 40) = false := beq_eq_false_iff_ne.2 (by omega)
    have r41 : (n == 41) = false := beq_eq_false_iff_ne.2 (by omega)
    have r39 : (n == 39) = false := beq_eq_false_iff_ne.2 (by omega)
    have r34 : (n == 34) = false := beq_eq_false_iff_ne.2 (by omega)
    have r92 : (n == 92) = false := beq_eq_false_iff_ne.2 (by omega)
    have r96 : (n == 96) = false := beq_eq_false_iff_ne.2 (by omega)
    have r36 : (n == 36) = false := beq_eq_false_iff_ne.2 (by omega)
    clear h
    go_enter Try.func80, Try.ntmps80
    go_wp2
    all_goals go_ret
    all_goals refine ⟨ret_nat ?_, rfl⟩
    all_goals first
      | rfl
      | decide
      | (unfold rclassN
         try simp only [beq_iff_eq, beq_eq_false_iff_ne] at *
         repeat' split
         all_goals first | rfl | (exfalso; omega))
  · have q0 : 48 ≤ n := by omega
    have q1 : 57 < n := by omega
    have q2 : 65 ≤ n := by omega
    have q3 : n ≤ 90 := by omega
    have q4 : n < 97 := by omega
    have r0 : (n == 0) = false := beq_eq_false_iff_ne.2 (by omega)
    have r32 : (n == 32) = false := beq_eq_false_iff_ne.2 (by omega)
    have r9 : (n == 9) = false := beq_eq_false_iff_ne.2 (by omega)
    have r10 : (n == 10) = false := beq_eq_false_iff_ne.2 (by omega)
    clear h
    go_enter Try.func80, Try.ntmps80
    go_wp2
    all_goals go_ret
    all_goals refine ⟨ret_nat ?_, rfl⟩
    all_goals first
      | rfl
      | decide
      | (unfold rclassN
         try simp only [beq_eq_false_iff_ne] at *
         repeat' split
         all_goals first | rfl | (exfalso; omega))
  · have q0 : 48 ≤ n := by omega
    have q1 : 57 < n := by omega
    have q2 : 65 ≤ n := by omega
    have q3 : 90 < n := by omega
    have q4 : n < 97 := by omega
    have r0 : (n == 0) = false := beq_eq_false_iff_ne.2 (by omega)
    have r32 : (n == 32) = false := beq_eq_false_iff_ne.2 (by omega)
    have r9 : (n == 9) = false := beq_eq_false_iff_ne.2 (by omega)
    have r10 : (n == 10) = false := beq_eq_false_iff_ne.2 (by omega)
    have r38 : (n == 38) = false := beq_eq_false_iff_ne.2 (by omega)
    have r124 : (n == 124) = false := beq_eq_false_iff_ne.2 (by omega)
    have r59 : (n == 59) = false := beq_eq_false_iff_ne.2 (by omega)
    have r60 : (n == 60) = false := beq_eq_false_iff_ne.2 (by omega)
    have r62 : (n == 62) = false := beq_eq_false_iff_ne.2 (by omega)
    have r40 : (n == 40) = false := beq_eq_false_iff_ne.2 (by omega)
    have r41 : (n == 41) = false := beq_eq_false_iff_ne.2 (by omega)
    have r39 : (n == 39) = false := beq_eq_false_iff_ne.2 (by omega)
    have r34 : (n == 34) = false := beq_eq_false_iff_ne.2 (by omega)
    have r36 : (n == 36) = false := beq_eq_false_iff_ne.2 (by omega)
    clear h
    go_enter Try.func80, Try.ntmps80
    go_wp2
    all_goals go_ret
    all_goals refine ⟨ret_nat ?_, rfl⟩
    all_goals first
      | rfl
      | decide
      | (unfold rclassN
         try simp only [beq_iff_eq, beq_eq_false_iff_ne] at *
         repeat' split
         all_goals first | rfl | (exfalso; omega))
  · have q0 : 48 ≤ n := by omega
    have q1 : 57 < n := by omega
    have q2 : 97 ≤ n := by omega
    have q3 : n ≤ 122 := by omega
    have r0 : (n == 0) = false := beq_eq_false_iff_ne.2 (by omega)
    have r32 : (n == 32) = false := beq_eq_false_iff_ne.2 (by omega)
    have r9 : (n == 9) = false := beq_eq_false_iff_ne.2 (by omega)
    have r10 : (n == 10) = false := beq_eq_false_iff_ne.2 (by omega)
    clear h
    go_enter Try.func80, Try.ntmps80
    go_wp2
    all_goals go_ret
    all_goals refine ⟨ret_nat ?_, rfl⟩
    all_goals first
      | rfl
      | decide
      | (unfold rclassN
         try simp only [beq_eq_false_iff_ne] at *
         repeat' split
         all_goals first | rfl | (exfalso; omega))
  · have q0 : 48 ≤ n := by omega
    have q1 : 57 < n := by omega
    have q2 : 65 ≤ n := by omega
    have q3 : 90 < n := by omega
    have q4 : 97 ≤ n := by omega
    have q5 : 122 < n := by omega
    have r0 : (n == 0) = false := beq_eq_false_iff_ne.2 (by omega)
    have r32 : (n == 32) = false := beq_eq_false_iff_ne.2 (by omega)
    have r9 : (n == 9) = false := beq_eq_false_iff_ne.2 (by omega)
    have r10 : (n == 10) = false := beq_eq_false_iff_ne.2 (by omega)
    have r95 : (n == 95) = false := beq_eq_false_iff_ne.2 (by omega)
    have r38 : (n == 38) = false := beq_eq_false_iff_ne.2 (by omega)
    have r59 : (n == 59) = false := beq_eq_false_iff_ne.2 (by omega)
    have r60 : (n == 60) = false := beq_eq_false_iff_ne.2 (by omega)
    have r62 : (n == 62) = false := beq_eq_false_iff_ne.2 (by omega)
    have r40 : (n == 40) = false := beq_eq_false_iff_ne.2 (by omega)
    have r41 : (n == 41) = false := beq_eq_false_iff_ne.2 (by omega)
    have r39 : (n == 39) = false := beq_eq_false_iff_ne.2 (by omega)
    have r34 : (n == 34) = false := beq_eq_false_iff_ne.2 (by omega)
    have r92 : (n == 92) = false := beq_eq_false_iff_ne.2 (by omega)
    have r96 : (n == 96) = false := beq_eq_false_iff_ne.2 (by omega)
    have r36 : (n == 36) = false := beq_eq_false_iff_ne.2 (by omega)
    clear h
    go_enter Try.func80, Try.ntmps80
    go_wp2
    all_goals go_ret
    all_goals refine ⟨ret_nat ?_, rfl⟩
    all_goals first
      | rfl
      | decide
      | (unfold rclassN
         try simp only [beq_eq_false_iff_ne] at *
         repeat' split
         all_goals first | rfl | (exfalso; omega))
def specialN (n : Int) : Bool := n == 64 || n == 42 || n == 35 || n == 63 || n == 45 || n == 36 || n == 33
theorem special_all : allBytes.all (fun c => specialN c.toNat == special c) = true := by kernel_rfl
theorem rspecial_any (c : UInt8) (w : World) : Calls Try.prog 84 #[.int .u8 c.toNat] w fun e w' => e = .returned (.bool (special c)) ∧ w = w' := by
  rw [← beq_iff_eq.1 (List.all_eq_true.1 special_all c (mem_bytes c))]
  go_enter Try.func84, Try.ntmps84
  generalize (c.toNat : Int) = n
  unfold specialN
  go_wp2
  all_goals go_ret
  all_goals exact ⟨ret_bool (by simp [*]), rfl⟩
def quotesN (n : Int) : Bool := n == 36 || n == 96 || n == 34 || n == 92
theorem quotes_all : allBytes.all (fun c => quotesN c.toNat == quotes c) = true := by kernel_rfl
theorem rquotes_any (c : UInt8) (w : World) : Calls Try.prog 55 #[.int .u8 c.toNat] w fun e w' => e = .returned (.bool (quotes c)) ∧ w = w' := by
  rw [← beq_iff_eq.1 (List.all_eq_true.1 quotes_all c (mem_bytes c))]
  go_enter Try.func55, Try.ntmps55
  generalize (c.toNat : Int) = n
  unfold quotesN
  go_wp2
  all_goals go_ret
  all_goals exact ⟨ret_bool (by simp [*]), rfl⟩
theorem rdollar_any (c : UInt8) (w : World) : Calls Try.prog 81 #[.int .u8 c.toNat] w fun e w' => e = .returned (.bool (okAfter c)) ∧ w = w' := by
  have hn : okAfter c = (((classOf c : Int) != 4) && ((classOf c : Int) != 3) && !special c && ((c.toNat : Int) != 123) && ((c.toNat : Int) != 40)) := by
    have h := List.all_eq_true.1 (show allBytes.all (fun c => okAfter c == (((classOf c : Int) != 4) && ((classOf c : Int) != 3) && !special c && ((c.toNat : Int) != 123) && ((c.toNat : Int) != 40))) = true by kernel_rfl) c (mem_bytes c)
    exact beq_iff_eq.1 h
  rw [hn]
  have HC := Lib.hid (rclass_any c)
  have HS := Lib.hid (rspecial_any c)
  clear hn
  generalize classOf c = q at *
  generalize special c = b at *
  go_enter Try.func81, Try.ntmps81
  go_wp2_with (first
    | (go_at_call 80; refine (HC.out _).mono ?_; rintro e w' ⟨rfl, rfl⟩)
    | (go_at_call 84; refine (HS.out _).mono ?_; rintro e w' ⟨rfl, rfl⟩))
  all_goals go_ret
  all_goals exact ⟨ret_bool (by simp [*]), rfl⟩
end Go.Proofs.Ytpadnckmheippaa

namespace Go.Proofs.Ytpadnckmheippaa
open Go.RowKit
set_option linter.unusedVariables false
theorem drop_at (s : ByteArray) (k : Nat) (h : k < s.size) : s.data.toList.drop k = s[k] :: s.data.toList.drop (k + 1) := drop_cons s k h
theorem drop_end (s : ByteArray) : s.data.toList.drop s.size = [] := List.drop_of_length_le (by simp)
theorem list_empty (s : ByteArray) : s.data.toList.isEmpty = decide (s.size = 0) := by
  have h : s.data.toList.length = s.size := by simp
  cases hl : s.data.toList with
  | nil => rw [hl] at h; simp at h; simp [← h]
  | cons a l => rw [hl] at h; simp at h; simp [← h]
theorem size_pos (s : ByteArray) : decide (0 < s.size) = (!decide (s.size = 0) && true) := by
  rw [Bool.eq_iff_iff, Bool.and_true, Bool.not_eq_true', decide_eq_true_eq, decide_eq_false_iff_not]
  omega
theorem nz_false (s : ByteArray) (b : Bool) (h : s.size = 0) : (!decide (s.size = 0) && b) = false := by rw [decide_eq_true h]; rfl
theorem nz_true (s : ByteArray) (h : ¬ s.size = 0) : (!decide (s.size = 0) && true) = true := by rw [decide_eq_false h]; rfl
/-- So far, and from here on. -/
def Left (P : List UInt8 → Bool) (l : List UInt8) (k : Nat) : Prop := P l = P (l.drop k)
def digs (l : List UInt8) : Bool := l.all fun d => classOf d == 3
set_option maxHeartbeats 800000 in
theorem rdigits_any (s : ByteArray) (hs : s.size ≤ 9223372036854775807) (w : World) : Calls Try.prog 83 #[.string s] w fun e w' => e = .returned (.bool (digitsB s.data.toList)) ∧ w = w' := by
  have hd : digitsB s.data.toList = (!decide (s.size = 0) && digs s.data.toList) := by rw [← list_empty]; rfl
  have HD0 := Lib.hid hd
  clear hd
  go_enter Try.func83, Try.ntmps83
  go_wp2
  go_loop [3] (fun i => ∃ k : Nat, k ≤ s.size ∧ i = .int .i64 k ∧ Left digs s.data.toList k) (fun i => s.size - (intOf i).toNat)
  case atStart => exact ⟨0, Nat.zero_le _, rfl, rfl⟩
  case round =>
    obtain ⟨k, hk, rfl, hl⟩ := hrel
    have HL := Lib.hid hl
    by_cases hlt : k < s.size
    · have HD := Lib.hid (drop_at s k hlt)
      have HC := Lib.hid (rclass_any s[k] w)
      have hz : s.size ≠ 0 := by omega
      clear hl
      by_cases h3 : classOf s[k] = 3
      · have HS : Hid (Left digs s.data.toList (k + 1)) := Lib.hid (by
          unfold Left
          have h1 : digs s.data.toList = digs (s.data.toList.drop k) := HL.out
          rw [h1, HD.out]
          simp [digs, h3])
        rw [h3] at HC
        clear h3
        go_wp2_with (go_at_call 80; refine HC.out.mono ?_; rintro e w' ⟨rfl, rfl⟩)
        go_round
        case rel => exact ⟨k + 1, by omega, by go_num, HS.out⟩
        case measure => simp [intOf]; omega
      · have HS : Hid (digs s.data.toList = false) := Lib.hid (by
          have h1 : digs s.data.toList = digs (s.data.toList.drop k) := HL.out
          rw [h1, HD.out]
          simp [digs, h3])
        have hne : ((classOf s[k] : Int) != 3) = true := by simp; omega
        generalize classOf s[k] = q at *
        clear h3
        go_wp2_with (go_at_call 80; refine HC.out.mono ?_; rintro e w' ⟨rfl, rfl⟩)
        go_ret
        exact ⟨ret_bool (by rw [HD0.out, HS.out, Bool.and_false]), rfl⟩
    · obtain rfl : k = s.size := by omega
      have h1 : digs s.data.toList = true := by rw [show digs s.data.toList = digs (s.data.toList.drop s.size) from hl, drop_end]; rfl
      have H1 := Lib.hid h1
      clear hl h1
      go_wp2
      go_ret
      refine ⟨ret_bool ?_, rfl⟩
      rw [HD0.out, H1.out]
      exact size_pos s
def namL (l : List UInt8) : Bool := l.all fun d => classOf d == 4 || classOf d == 3
/-- A name from place k on. -/
def namF (k : Nat) (l : List UInt8) : Bool := if k = 0 then (match l with | [] => true | c :: r => classOf c == 4 && namL r) else namL l
theorem nameB_eq (s : ByteArray) : nameB s.data.toList = (!decide (s.size = 0) && namF 0 s.data.toList) := by
  rw [← list_empty]
  cases s.data.toList with
  | nil => rfl
  | cons c r => simp [nameB, namF, namL]
set_option maxHeartbeats 1600000 in
theorem rname_any (s : ByteArray) (hs : s.size ≤ 9223372036854775807) (w : World) : Calls Try.prog 82 #[.string s] w fun e w' => e = .returned (.bool (nameB s.data.toList)) ∧ w = w' := by
  have HD0 := Lib.hid (nameB_eq s)
  go_enter Try.func82, Try.ntmps82
  go_wp2
  go_loop [3, 4] (fun i _ => ∃ k : Nat, k ≤ s.size ∧ i = .int .i64 k ∧ Hid (namF 0 s.data.toList = namF k (s.data.toList.drop k))) (fun i _ => s.size - (intOf i).toNat)
  case atStart => exact ⟨0, Nat.zero_le _, rfl, Lib.hid rfl⟩
  case round =>
    obtain ⟨k, hk, rfl, HL⟩ := hrel
    by_cases hlt : k < s.size
    · have HD := Lib.hid (drop_at s k hlt)
      have HC := Lib.hid (rclass_any s[k] w)
      have hz : s.size ≠ 0 := by omega
      by_cases hok : classOf s[k] = 4 ∨ (classOf s[k] = 3 ∧ k ≠ 0)
      · have HS : Hid (namF 0 s.data.toList = namF (k + 1) (s.data.toList.drop (k + 1))) := Lib.hid (by
          rw [HL.out, HD.out]
          unfold namF
          rw [if_neg (Nat.succ_ne_zero k)]
          by_cases hk0 : k = 0
          · rw [if_pos hk0]
            have h4 : classOf s[k] = 4 := by omega
            simp [h4]
          · rw [if_neg hk0]
            rcases hok with h | h
            · simp [namL, h]
            · simp [namL, h.1])
        rcases hok with h4 | ⟨h3, hk0⟩
        · rw [h4] at HC
          clear h4
          go_wp2_with (go_at_call 80; refine HC.out.mono ?_; rintro e w' ⟨rfl, rfl⟩)
          go_round
          case rel => exact ⟨k + 1, by omega, by go_num, HS⟩
          case measure => simp [intOf]; omega
        · rw [h3] at HC
          have hk1 : ((k : Int) == 0) = false := by simp; omega
          clear h3
          go_wp2_with (go_at_call 80; refine HC.out.mono ?_; rintro e w' ⟨rfl, rfl⟩)
          go_round
          case rel => exact ⟨k + 1, by omega, by go_num, HS⟩
          case measure => simp [intOf]; omega
      · have HS : Hid (namF 0 s.data.toList = false) := Lib.hid (by
          rw [HL.out, HD.out]
          unfold namF
          have h4 : classOf s[k] ≠ 4 := fun h => hok (.inl h)
          by_cases hk0 : k = 0
          · rw [if_pos hk0]
            simp [h4]
          · rw [if_neg hk0]
            have h3 : classOf s[k] ≠ 3 := fun h => hok (.inr ⟨h, hk0⟩)
            simp [namL, h4, h3])
        have hne4 : ((classOf s[k] : Int) != 4) = true := by
          have : classOf s[k] ≠ 4 := fun h => hok (.inl h)
          simp; omega
        by_cases h3 : classOf s[k] = 3
        · have hk0 : k = 0 := by omega
          subst hk0
          rw [h3] at HC
          clear h3 hok hne4
          go_wp2_with (go_at_call 80; refine HC.out.mono ?_; rintro e w' ⟨rfl, rfl⟩)
          go_ret
          exact ⟨ret_bool (by rw [HD0.out, HS.out, Bool.and_false]), rfl⟩
        · have hne3 : ((classOf s[k] : Int) != 3) = true := by simp; omega
          clear hok
          generalize classOf s[k] = q at *
          clear h3
          go_wp2_with (go_at_call 80; refine HC.out.mono ?_; rintro e w' ⟨rfl, rfl⟩)
          go_ret
          exact ⟨ret_bool (by rw [HD0.out, HS.out, Bool.and_false]), rfl⟩
    · obtain rfl : k = s.size := by omega
      have h1 : namF 0 s.data.toList = true := by
        rw [HL.out, drop_end]
        unfold namF
        split <;> rfl
      have H1 := Lib.hid h1
      clear h1 HL
      go_wp2
      go_ret
      refine ⟨ret_bool ?_, rfl⟩
      rw [HD0.out, H1.out]
      exact size_pos s
end Go.Proofs.Ytpadnckmheippaa

namespace Go.Proofs.Ytpadnckmheippaa
open Go.RowKit
set_option linter.unusedVariables false
theorem byte_ne {c d : UInt8} (h : c ≠ d) : ((c.toNat : Int) == (d.toNat : Int)) = false := by
  rw [beq_eq_false_iff_ne]
  intro e
  exact h (UInt8.toNat_inj.1 (by omega))
set_option maxHeartbeats 800000 in
theorem clear_any (s : ByteArray) (hs : s.size ≤ 9223372036854775807) (c : UInt8) (w : World) : Calls Try.prog 56 #[.string s, .int .u8 c.toNat] w fun e w' => e = .returned (.bool (clearB s.data.toList c)) ∧ w = w' := by
  go_enter Try.func56, Try.ntmps56
  go_wp2
  go_loop [5] (fun i => ∃ k : Nat, k ≤ s.size ∧ i = .int .i64 k ∧ Hid (clearB s.data.toList c = clearB (s.data.toList.drop k) c)) (fun i => s.size - (intOf i).toNat)
  case atStart => exact ⟨0, Nat.zero_le _, rfl, Lib.hid rfl⟩
  case round =>
    obtain ⟨k, hk, rfl, HL⟩ := hrel
    by_cases hlt : k < s.size
    · have HD := Lib.hid (drop_at s k hlt)
      have HE : Hid (clearB s.data.toList c = ((s[k] != 0 && s[k] != c) && clearB (s.data.toList.drop (k + 1)) c)) := Lib.hid (by rw [HL.out, HD.out]; rfl)
      by_cases h0 : s[k] = 0
      · have HS : Hid (clearB s.data.toList c = false) := Lib.hid (by rw [HE.out, h0]; rfl)
        have hz : ((s[k].toNat : Int) == 0) = true := by rw [h0]; rfl
        clear h0
        go_wp2
        go_ret
        exact ⟨ret_bool (by rw [HS.out]), rfl⟩
      · have hz : ((s[k].toNat : Int) == 0) = false := byte_ne (d := 0) h0
        by_cases h1 : s[k] = c
        · have HS : Hid (clearB s.data.toList c = false) := Lib.hid (by rw [HE.out, h1]; simp)
          have hz2 : ((s[k].toNat : Int) == (c.toNat : Int)) = true := by rw [h1]; simp
          clear h0 h1
          go_wp2
          go_ret
          exact ⟨ret_bool (by rw [HS.out]), rfl⟩
        · have hz2 : ((s[k].toNat : Int) == (c.toNat : Int)) = false := byte_ne h1
          have HS : Hid (clearB s.data.toList c = clearB (s.data.toList.drop (k + 1)) c) := Lib.hid (by rw [HE.out]; simp [h0, h1])
          clear h0 h1
          go_wp2
          go_round
          case rel => exact ⟨k + 1, by omega, by go_num, HS⟩
          case measure => simp [intOf]; omega
    · obtain rfl : k = s.size := by omega
      have HS : Hid (clearB s.data.toList c = true) := Lib.hid (by rw [HL.out, drop_end]; rfl)
      clear HL
      go_wp2
      go_ret
      exact ⟨ret_bool (by rw [HS.out]), rfl⟩
theorem arithB_none {l : List UInt8} (h : arithRun 0 l = none) : arithB l = false := by unfold arithB; rw [h]; rfl
theorem arithB_some {l : List UInt8} {n : Nat} (h : arithRun 0 l = some n) : arithB l = (n == 0) := by
  unfold arithB
  rw [h]
  cases n <;> rfl
set_option maxHeartbeats 1600000 in
theorem arithp_any (s : ByteArray) (hs : s.size ≤ 4611686018427387904) (w : World) : Calls Try.prog 58 #[.string s] w fun e w' => e = .returned (.bool (arithB s.data.toList)) ∧ w = w' := by
  go_enter Try.func58, Try.ntmps58
  go_wp2
  go_loop [3, 4] (fun d i => ∃ k n : Nat, k ≤ s.size ∧ n ≤ k ∧ i = .int .i64 k ∧ d = .int .i64 n ∧ Hid (arithRun 0 s.data.toList = arithRun n (s.data.toList.drop k))) (fun _ i => s.size - (intOf i).toNat)
  case atStart => exact ⟨0, 0, Nat.zero_le _, Nat.le_refl _, rfl, rfl, Lib.hid rfl⟩
  case round =>
    obtain ⟨k, n, hk, hn, rfl, rfl, HL⟩ := hrel
    by_cases hlt : k < s.size
    · have HD := Lib.hid (drop_at s k hlt)
      have HE : Hid (arithRun 0 s.data.toList = if s[k] = 0 then none else if s[k] = 40 then arithRun (n + 1) (s.data.toList.drop (k + 1)) else if s[k] = 41 then (if n = 0 then none else arithRun (n - 1) (s.data.toList.drop (k + 1))) else arithRun n (s.data.toList.drop (k + 1))) := Lib.hid (by rw [HL.out, HD.out]; rfl)
      by_cases h0 : s[k] = 0
      · have HS : Hid (arithB s.data.toList = false) := Lib.hid (arithB_none (by rw [HE.out, if_pos h0]))
        have hz : ((s[k].toNat : Int) == 0) = true := by rw [h0]; rfl
        clear h0
        go_wp2
        go_ret
        exact ⟨ret_bool (by rw [HS.out]), rfl⟩
      · have hz : ((s[k].toNat : Int) == 0) = false := byte_ne (d := 0) h0
        by_cases h40 : s[k] = 40
        · have HS := HE.out
          rw [if_neg h0, if_pos h40] at HS
          have HS2 := Lib.hid HS
          have hz2 : ((s[k].toNat : Int) == 40) = true := by rw [h40]; rfl
          have hz3 : ((s[k].toNat : Int) == 41) = false := byte_ne (d := 41) (by rw [h40]; decide)
          clear h0 h40 HS
          go_wp2
          go_round
          case rel => exact ⟨k + 1, n + 1, by omega, by omega, by go_num, by go_num, HS2⟩
          case measure => simp [intOf]; omega
        · have hz2 : ((s[k].toNat : Int) == 40) = false := byte_ne (d := 40) h40
          by_cases h41 : s[k] = 41
          · have HS := HE.out
            rw [if_neg h0, if_neg h40, if_pos h41] at HS
            have hz3 : ((s[k].toNat : Int) == 41) = true := by rw [h41]; rfl
            by_cases hn0 : n = 0
            · subst hn0
              rw [if_pos rfl] at HS
              have HS2 := Lib.hid (arithB_none HS)
              clear h0 h40 h41 HS
              go_wp2
              go_ret
              exact ⟨ret_bool (by rw [HS2.out]), rfl⟩
            · rw [if_neg hn0] at HS
              have HS2 := Lib.hid HS
              have hn1 : 1 ≤ (n : Int) := by omega
              clear h0 h40 h41 HS hn0
              go_wp2
              go_round
              case rel => exact ⟨k + 1, n - 1, by omega, by omega, by go_num, by go_num, HS2⟩
              case measure => simp [intOf]; omega
          · have hz3 : ((s[k].toNat : Int) == 41) = false := byte_ne (d := 41) h41
            have HS := HE.out
            rw [if_neg h0, if_neg h40, if_neg h41] at HS
            have HS2 := Lib.hid HS
            clear h0 h40 h41 HS
            go_wp2
            go_round
            case rel => exact ⟨k + 1, n, by omega, by omega, by go_num, rfl, HS2⟩
            case measure => simp [intOf]; omega
    · obtain rfl : k = s.size := by omega
      have HS : Hid (arithB s.data.toList = (n == 0)) := Lib.hid (arithB_some (by rw [HL.out, drop_end]; rfl))
      clear HL
      go_wp2
      go_ret
      refine ⟨ret_bool ?_, rfl⟩
      rw [HS.out]
      cases n <;> rfl
end Go.Proofs.Ytpadnckmheippaa

namespace Go.Proofs.Ytpadnckmheippaa
open Go.RowKit
set_option linter.unusedVariables false
def opsL : List (List UInt8) := [[58, 45], [45], [58, 61], [61], [58, 63], [63], [58, 43], [43], [37], [37, 37], [35], [35, 35]]
def opsCells : Array Value := #[.string ⟨#[58, 45]⟩, .string ⟨#[45]⟩, .string ⟨#[58, 61]⟩, .string ⟨#[61]⟩, .string ⟨#[58, 63]⟩, .string ⟨#[63]⟩, .string ⟨#[58, 43]⟩, .string ⟨#[43]⟩, .string ⟨#[37]⟩, .string ⟨#[37, 37]⟩, .string ⟨#[35]⟩, .string ⟨#[35, 35]⟩]
theorem ops_any (w : World) : Calls Try.prog 93 #[] w fun e w' => e = .returned (.slice (some ⟨w.heap.size, 0, none⟩) 12 12) ∧ w' = w.alloc (.cells opsCells 9) := by
  go_enter Try.func93, Try.ntmps93
  go_wp2
  go_ret
  exact ⟨rfl, rfl⟩
theorem opsCells_get (k : Nat) (h : k < opsL.length) : opsCells[k]? = some (.string ⟨opsL[k].toArray⟩) := by
  have h12 : k < 12 := h
  have : k = 0 ∨ k = 1 ∨ k = 2 ∨ k = 3 ∨ k = 4 ∨ k = 5 ∨ k = 6 ∨ k = 7 ∨ k = 8 ∨ k = 9 ∨ k = 10 ∨ k = 11 := by omega
  rcases this with rfl | rfl | rfl | rfl | rfl | rfl | rfl | rfl | rfl | rfl | rfl | rfl <;> rfl
theorem bytes_eq (s t : ByteArray) (h : s.data.toList = t.data.toList) : s = t := ByteArray.ext (Array.ext' h)
theorem toList_data (s : ByteArray) : s.toList = s.data.toList := by
  first
    | exact ByteArray.toList_eq s
    | exact ByteArray.toList_data s
    | (unfold ByteArray.toList; simp)
set_option maxHeartbeats 1600000 in
theorem op_any (s : ByteArray) (w : World) : Calls Try.prog 85 #[.string s] w fun e w' => e = .returned (.bool (opB s.data.toList)) ∧ Below w.heap.size w w' := by
  go_enter Try.func85, Try.ntmps85
  go_wp2_with fail
  refine (ops_any w).mono ?_
  rintro e w1 ⟨rfl, hw1⟩
  have hcell : ∀ k, ∀ h : k < opsL.length, w1.cell? ⟨w.heap.size, k, none⟩ = some (.string ⟨opsL[k].toArray⟩) := fun k h => by
    rw [hw1, (Blk.new w 9 opsCells).cell k, opsCells_get k h]
  have HB : Hid (Below w.heap.size w w1) := Lib.hid (hw1 ▸ below_alloc w _)
  have HC := Lib.hid hcell
  clear hcell hw1
  go_wp2
  go_loop [4] (fun i => ∃ k : Nat, k ≤ 12 ∧ i = .int .i64 k ∧ Hid (opB s.data.toList = (opsL.drop k).contains s.data.toList)) (fun i => 12 - (intOf i).toNat)
  case atStart => exact ⟨0, Nat.zero_le _, rfl, Lib.hid rfl⟩
  case round =>
    obtain ⟨k, hk, rfl, HL⟩ := hrel
    by_cases hlt : k < 12
    · have hlt2 : k < opsL.length := hlt
      have hcell := HC.out k hlt2
      have HE : Hid (opB s.data.toList = (s.data.toList == opsL[k] || (opsL.drop (k + 1)).contains s.data.toList)) := Lib.hid (by
        rw [HL.out, List.drop_eq_getElem_cons hlt2, List.contains_cons])
      obtain ⟨x, hx⟩ : ∃ x : ByteArray, (⟨opsL[k].toArray⟩ : ByteArray) = x := ⟨_, rfl⟩
      rw [hx] at hcell
      have HX := Lib.hid hx
      clear hx
      by_cases h : x = s
      · have HS : Hid (opB s.data.toList = true) := Lib.hid (by rw [HE.out, ← h, ← HX.out]; simp)
        subst h
        go_wp2
        go_ret
        exact ⟨ret_bool (by rw [HS.out]), HB.out⟩
      · have HS : Hid (opB s.data.toList = (opsL.drop (k + 1)).contains s.data.toList) := Lib.hid (by
          rw [HE.out]
          have : (s.data.toList == opsL[k]) = false := by
            rw [beq_eq_false_iff_ne]
            intro e
            exact h (by rw [← HX.out]; exact bytes_eq _ _ (by rw [e]))
          rw [this, Bool.false_or])
        have hne : (x.toList == s.toList) = false := by
          rw [beq_eq_false_iff_ne]
          intro e
          exact h (bytes_eq _ _ (by rw [← toList_data, ← toList_data, e]))
        clear h
        go_wp2
        go_round
        case rel => exact ⟨k + 1, by omega, by go_num, HS⟩
        case measure => simp [intOf]; omega
    · obtain rfl : k = 12 := by omega
      have HS : Hid (opB s.data.toList = false) := Lib.hid (by rw [HL.out]; rfl)
      clear HL
      go_wp2
      go_ret
      exact ⟨ret_bool (by rw [HS.out]), HB.out⟩
end Go.Proofs.Ytpadnckmheippaa
