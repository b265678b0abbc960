/- The program's Name. -/
import Derived.Test.YtdbmeocpjopdhaaG1
import Derived.Laws.RangeString
import Derived.Laws.RangeAny
namespace Go.Proofs.Ytdbmeocpjopdhaa
open Go.RowKit
set_option linter.unusedVariables false
def asciiB (l : List UInt8) : Bool := l.all fun c => decide (c.toNat < 128)
set_option maxRecDepth 100000 in
set_option maxHeartbeats 800000 in
theorem ascii_any (s : ByteArray) (hs : s.size ≤ 9223372036854775807) (w : World) : Calls Try.prog 70 #[.string s] w fun e w' => e = .returned (.bool (asciiB s.data.toList)) ∧ w = w' := by
  go_enter Try.func70, Try.ntmps70
  go_wp2
  go_loop [6] (fun i => ∃ k : Nat, k ≤ s.size ∧ i = .int .i64 k ∧ Hid (asciiB s.data.toList = asciiB (s.data.toList.drop k))) (fun i => s.size - (intOf i).toNat)
  case atStart => exact ⟨0, Nat.zero_le _, rfl, Lib.hid rfl⟩
  case round =>
    obtain ⟨k, hk, rfl, HL⟩ := hrel
    by_cases hlt : k < s.size
    · have HD := Lib.hid (drop_at s k hlt)
      have HE : Hid (asciiB s.data.toList = (decide (s[k].toNat < 128) && asciiB (s.data.toList.drop (k + 1)))) := Lib.hid (by rw [HL.out, HD.out]; rfl)
      by_cases h : s[k].toNat < 128
      · have HS : Hid (asciiB s.data.toList = asciiB (s.data.toList.drop (k + 1))) := Lib.hid (by rw [HE.out, decide_eq_true h, Bool.true_and])
        have h2 : (s[k].toNat : Int) < 128 := by omega
        clear h
        go_wp2
        go_round
        case rel => exact ⟨k + 1, by omega, by go_num, HS⟩
        case measure => simp [intOf]; omega
      · have HS : Hid (asciiB s.data.toList = false) := Lib.hid (by rw [HE.out, decide_eq_false h, Bool.false_and])
        have h2 : 128 ≤ (s[k].toNat : Int) := by omega
        clear h
        go_wp2
        go_ret
        exact ⟨ret_bool HS.out.symm, rfl⟩
    · obtain rfl : k = s.size := by omega
      have HS : Hid (asciiB s.data.toList = true) := Lib.hid (by rw [HL.out, drop_end]; rfl)
      go_wp2
      go_ret
      exact ⟨ret_bool HS.out.symm, rfl⟩
def nameAt (i : Int) (q : Int) : Bool := (q == 4) || ((q == 3) && decide (0 < i))
theorem nameC_any (i : Int) (c : UInt8) (w : World) : Calls Try.prog 72 #[.int .i64 i, .int .u8 c.toNat] w fun e w' => e = .returned (.bool (nameAt i (classOf c))) ∧ w = w' := by
  have HC := Lib.hid (class_any c w)
  generalize (classOf c : Int) = q at *
  unfold nameAt
  go_enter Try.func72, Try.ntmps72
  go_wp2_with (go_at_call 73; refine HC.out.mono ?_; rintro e w' ⟨rfl, rfl⟩)
  all_goals go_ret
  all_goals exact ⟨ret_bool (by simp [*]), rfl⟩
theorem nameAt_byte (k : Nat) (c : UInt8) : nameAt k (classOf c) = (classOf c == 4 || (classOf c == 3 && k != 0)) := by
  have h1 : ((classOf c : Int) == 4) = (classOf c == 4) := by rw [Bool.eq_iff_iff, beq_iff_eq, beq_iff_eq]; omega
  have h2 : ((classOf c : Int) == 3) = (classOf c == 3) := by rw [Bool.eq_iff_iff, beq_iff_eq, beq_iff_eq]; omega
  have h3 : decide ((0 : Int) < (k : Int)) = (k != 0) := by rw [Bool.eq_iff_iff, decide_eq_true_eq, bne_iff_ne]; omega
  unfold nameAt
  rw [h1, h2, h3]
theorem namF_step (s : ByteArray) (k : Nat) (h : k < s.size) (hk : namF 0 s.data.toList = namF k (s.data.toList.drop k)) : namF 0 s.data.toList = (nameAt k (classOf s[k]) && namF (k + 1) (s.data.toList.drop (k + 1))) := by
  rw [hk, drop_at s k h, nameAt_byte]
  unfold namF
  rw [if_neg (Nat.succ_ne_zero k)]
  by_cases hk0 : k = 0
  · rw [if_pos hk0]; simp [hk0]
  · have h4 : (k != 0) = true := by simpa using hk0
    rw [if_neg hk0, h4, Bool.and_true]
    rfl
theorem below_iter (w : World) (s : ByteArray) (k : Nat) : Below w.heap.size w (w.iter s k) := (Below.refl _ _).alloc (Nat.le_refl _) _
set_option maxRecDepth 100000 in
set_option maxHeartbeats 1600000 in
theorem each_any (s : ByteArray) (hs : s.size ≤ 9223372036854775807) (ha : asciiB s.data.toList = true) (w : World) : Calls Try.prog 71 #[.string s, .func (.func 72) #[] #[]] w fun e w' => e = .returned (.bool (nameB s.data.toList)) ∧ Below w.heap.size w w' := by
  have HA : Hid (∀ k, ∀ h : k < s.size, s[k].toNat < 128) := Lib.hid (fun k h => by
    have h1 := List.all_eq_true.1 ha s[k] (by
      have : s.data.toList[k]? = some s[k] := by rw [Array.getElem?_toList]; exact Array.getElem?_eq_getElem h
      exact List.mem_of_getElem? this)
    exact of_decide_eq_true h1)
  have HD0 := Lib.hid (nameB_eq s)
  clear ha
  go_enter Try.func71, Try.ntmps71
  go_wp2
  go_loopw [] (fun wr => ∃ k : Nat, k ≤ s.size ∧ wr = w.iter s k ∧ Hid (namF 0 s.data.toList = namF k (s.data.toList.drop k))) (fun wr => s.size - wr.iterPos w.heap.size)
  case atStart => exact ⟨0, Nat.zero_le _, rfl, Lib.hid rfl⟩
  case round =>
    obtain ⟨k, hk, rfl, HL⟩ := hrel
    by_cases hlt : k < s.size
    · have hnx : ∀ ty, (Instr.next (.pointer (some ⟨w.heap.size, 0, none⟩)) true ty).run Try.prog (w.iter s k) = _ := fun ty => run_next_ascii w s k ty hlt (HA.out k hlt)
      have HE := Lib.hid (namF_step s k hlt HL.out)
      have HC := Lib.hid (nameC_any k s[k] (w.iter s (k + 1)))
      cases hb : nameAt k (classOf s[k]) with
      | true =>
        rw [hb] at HC HE
        have HS : Hid (namF 0 s.data.toList = namF (k + 1) (s.data.toList.drop (k + 1))) := Lib.hid (by rw [HE.out, Bool.true_and])
        clear hb HL
        go_wp2_with (go_at_call 72; refine HC.out.mono ?_; rintro e w' ⟨rfl, rfl⟩)
        go_roundw
        case rel => exact ⟨k + 1, by omega, rfl, HS⟩
        case measure => simp; omega
      | false =>
        rw [hb] at HC HE
        have HS : Hid (namF 0 s.data.toList = false) := Lib.hid (by rw [HE.out, Bool.false_and])
        clear hb HL
        go_wp2_with (go_at_call 72; refine HC.out.mono ?_; rintro e w' ⟨rfl, rfl⟩)
        go_ret
        exact ⟨ret_bool (by rw [HD0.out, HS.out, Bool.and_false]), below_iter w s _⟩
    · have hnx : ∀ ty, (Instr.next (.pointer (some ⟨w.heap.size, 0, none⟩)) true ty).run Try.prog (w.iter s k) = _ := fun ty => run_next_end w s k ty hlt
      obtain rfl : k = s.size := by omega
      have HS : Hid (namF 0 s.data.toList = true) := Lib.hid (by
        rw [HL.out, drop_end]
        unfold namF
        split <;> rfl)
      clear HL
      go_wp2
      go_ret
      refine ⟨ret_bool ?_, below_iter w s _⟩
      rw [HD0.out, HS.out, Bool.and_true]
      rw [show s.toList = s.data.toList from ByteArray.toList_eq s, list_empty]
theorem class_high {c : UInt8} (h : ¬ c.toNat < 128) : classOf c = 8 := by
  have h0 := List.all_eq_true.1 (show allBytes.all (fun c => decide (c.toNat < 128) || (classOf c == 8)) = true by kernel_rfl) c (mem_bytes c)
  rw [decide_eq_false h, Bool.false_or] at h0
  exact beq_iff_eq.1 h0
theorem name_ascii {l : List UInt8} (h : nameB l = true) : asciiB l = true := by
  cases l with
  | nil => cases h
  | cons c r =>
    simp only [nameB, Bool.and_eq_true, beq_iff_eq, List.all_eq_true, Bool.or_eq_true] at h
    unfold asciiB
    rw [List.all_eq_true]
    intro d hd
    rw [decide_eq_true_eq]
    by_cases hh : d.toNat < 128
    · exact hh
    · have h8 := class_high hh
      rcases List.mem_cons.1 hd with rfl | hd
      · omega
      · rcases h.2 d hd with e | e <;> omega
theorem name_any (s : ByteArray) (hs : s.size ≤ 9223372036854775807) (w : World) : Calls Try.prog 53 #[.string s] w fun e w' => e = .returned (.bool (nameB s.data.toList)) ∧ Below w.heap.size w w' := by
  have HA := Lib.hid (ascii_any s hs w)
  cases ha : asciiB s.data.toList with
  | true =>
    rw [ha] at HA
    have HE := Lib.hid (each_any s hs ha w)
    clear ha
    go_enter Try.func53, Try.ntmps53
    go_wp2_with (go_at_call 70; refine HA.out.mono ?_; rintro e w' ⟨rfl, rfl⟩)
    refine HE.out.mono ?_
    rintro e w' ⟨rfl, hb⟩
    have HB := Lib.hid hb
    clear hb
    go_wp2
    go_ret
    exact ⟨rfl, HB.out⟩
  | false =>
    rw [ha] at HA
    have hn : nameB s.data.toList = false := by
      cases h : nameB s.data.toList with
      | false => rfl
      | true => rw [name_ascii h] at ha; cases ha
    rw [hn]
    clear ha hn
    go_enter Try.func53, Try.ntmps53
    go_wp2_with (go_at_call 70; refine HA.out.mono ?_; rintro e w' ⟨rfl, rfl⟩)
    go_ret
    exact ⟨rfl, Below.refl _ _⟩
/-- A nonterminal's name. -/
def okName (l : List UInt8) : Bool := nameB l && decide (l.length ≤ 24)
theorem len_size (t : ByteArray) : t.data.toList.length = t.size := by simp
theorem plain_any (s : ByteArray) (hs : s.size ≤ 9223372036854775807) (w : World) : Calls Try.prog 25 #[.string s] w fun e w' => e = .returned (.bool (okName s.data.toList)) ∧ Below w.heap.size w w' := by
  have HN := Lib.hid (name_any s hs w)
  unfold okName
  rw [len_size]
  generalize nameB s.data.toList = b at *
  by_cases h : s.size ≤ 24
  · rw [decide_eq_true h, Bool.and_true]
    have h2 : (s.size : Int) ≤ 24 := by omega
    clear h
    go_enter Try.func25, Try.ntmps25
    go_wp2_with fail
    refine HN.out.mono ?_
    rintro e w' ⟨rfl, hb⟩
    have HB := Lib.hid hb
    clear hb
    go_wp2
    go_ret
    exact ⟨rfl, HB.out⟩
  · rw [decide_eq_false h, Bool.and_false]
    have h2 : ¬ (s.size : Int) ≤ 24 := by omega
    clear h
    go_enter Try.func25, Try.ntmps25
    go_wp2
    go_ret
    exact ⟨rfl, Below.refl _ _⟩
theorem rplain_any (s : ByteArray) (hs : s.size ≤ 9223372036854775807) (w : World) : Calls Try.prog 63 #[.string s] w fun e w' => e = .returned (.bool (okName s.data.toList)) ∧ w = w' := by
  have HN := Lib.hid (rname_any s hs w)
  unfold okName
  rw [len_size]
  generalize nameB s.data.toList = b at *
  go_enter Try.func63, Try.ntmps63
  go_wp2_with (go_at_call 81; refine HN.out.mono ?_; rintro e w' ⟨rfl, rfl⟩)
  all_goals go_ret
  all_goals refine ⟨ret_bool ?_, rfl⟩
  all_goals (rw [Bool.eq_iff_iff]; simp [*] <;> omega)
end Go.Proofs.Ytdbmeocpjopdhaa
