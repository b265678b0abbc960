/- What is quoted, of the program and of the document. -/
import Derived.Test.YtdbmeocpjopdhaaG2
namespace Go.Proofs.Ytdbmeocpjopdhaa
open Go.RowKit
set_option linter.unusedVariables false
/-- How many bytes from here on may be quoted. -/
def spanL (l : List UInt8) : Nat := (l.takeWhile insideB).length
theorem spanL_le (l : List UInt8) : spanL l ≤ l.length := (List.takeWhile_sublist insideB).length_le
theorem spanL_cons (c : UInt8) (l : List UInt8) : spanL (c :: l) = if insideB c then spanL l + 1 else 0 := by
  unfold spanL
  rw [List.takeWhile_cons]
  split <;> simp
def SpanAt (s : ByteArray) (p k : Nat) : Prop := p + k ≤ s.size ∧ spanL (s.data.toList.drop p) = k + spanL (s.data.toList.drop (p + k))
set_option maxRecDepth 100000 in
set_option maxHeartbeats 1600000 in
theorem span_any (s : ByteArray) (hs : s.size ≤ 4611686018427387904) (p : Nat) (hp : p ≤ s.size) (w : World) : Calls Try.prog 74 #[.string s, .int .i64 p, .func (.func 75) #[] #[]] w fun e w' => e = .returned (.int .i64 (spanL (s.data.toList.drop p))) ∧ w = w' := by
  go_enter Try.func74, Try.ntmps74
  go_wp2
  go_loop [7] (fun n => ∃ k : Nat, p + k ≤ s.size ∧ n = .int .i64 k ∧ Hid (SpanAt s p k)) (fun n => s.size - (intOf n).toNat)
  case atStart => exact ⟨0, by omega, rfl, Lib.hid ⟨by omega, by simp⟩⟩
  case round =>
    obtain ⟨k, hk, rfl, HS⟩ := hrel
    by_cases hlt : p + k < s.size
    · have HD := Lib.hid (drop_at s (p + k) hlt)
      have HI := Lib.hid (inside_any s[p + k] w)
      cases hb : insideB s[p + k] with
      | true =>
        rw [hb] at HI
        have HN : Hid (SpanAt s p (k + 1)) := Lib.hid ⟨by omega, by
          have h1 := HS.out.2
          rw [HD.out, spanL_cons, if_pos hb] at h1
          rw [h1]
          show k + (spanL (s.data.toList.drop (p + k + 1)) + 1) = k + 1 + spanL (s.data.toList.drop (p + (k + 1)))
          rw [Nat.add_assoc p k 1]; omega⟩
        clear hb
        go_wp2_with (go_at_call 75; refine HI.out.mono ?_; rintro e w' ⟨rfl, rfl⟩)
        go_round
        case rel => exact ⟨k + 1, by omega, by go_num, HN⟩
        case measure => simp [intOf]; omega
      | false =>
        rw [hb] at HI
        have HN : Hid (spanL (s.data.toList.drop p) = k) := Lib.hid (by
          have h1 := HS.out.2
          rw [HD.out, spanL_cons, hb] at h1
          simpa using h1)
        clear hb
        go_wp2_with (go_at_call 75; refine HI.out.mono ?_; rintro e w' ⟨rfl, rfl⟩)
        go_ret
        exact ⟨ret_nat HN.out.symm, rfl⟩
    · have HN : Hid (spanL (s.data.toList.drop p) = k) := Lib.hid (by
        have h1 := HS.out.2
        rw [show s.data.toList.drop (p + k) = [] from List.drop_of_length_le (by simp; omega)] at h1
        simpa [spanL] using h1)
      go_wp2
      go_ret
      exact ⟨ret_nat HN.out.symm, rfl⟩
theorem fnew_any (k : Int) (hk : k ≠ 0) (p : Int) (w : World) : Calls Try.prog 76 #[.int .i64 k, .int .i64 p] w fun e w' => e = .returned (.iface 85 (.pointer (some ⟨w.heap.size, 0, none⟩))) ∧ Below w.heap.size w w' := by
  have h0 : (k == 0) = false := by simpa using hk
  clear hk
  go_enter Try.func76, Try.ntmps76
  go_wp2
  go_ret
  exact ⟨rfl, (Below.refl _ _).alloc (Nat.le_refl _) _⟩
/-- What is quoted, from its first byte on: is it as it should be? -/
def quoteOK (s : ByteArray) : Prop := 1 + spanL (s.data.toList.drop 1) < s.size ∧ s.data.toList[1 + spanL (s.data.toList.drop 1)]? = some 39 ∧ spanL (s.data.toList.drop 1) ≠ 0 ∧ 1 + spanL (s.data.toList.drop 1) < 24
theorem get_some (s : ByteArray) (k : Nat) (h : k < s.size) : s.data.toList[k]? = some s[k] := by
  rw [Array.getElem?_toList]; exact Array.getElem?_eq_getElem h
set_option maxHeartbeats 800000 in
theorem quoted_yes (s : ByteArray) (hs : s.size ≤ 4611686018427387904) (h : quoteOK s) (w : World) : Calls Try.prog 54 #[.string s, .int .i64 0] w fun e w' => e = .returned (.tuple #[.int .i64 ((spanL (s.data.toList.drop 1) + 2 : Nat) : Int), .nilIface]) ∧ w = w' := by
  obtain ⟨h1, h2, h3, h4⟩ := h
  have HSP := Lib.hid (span_any s hs 1 (by omega) w)
  generalize spanL (s.data.toList.drop 1) = k at *
  have h5 : s[1 + k] = 39 := by
    rw [get_some s _ h1] at h2
    exact Option.some.inj h2
  have h6 : ((s[1 + k].toNat : Int) != 39) = false := by rw [h5]; rfl
  have h7 : ((1 : Int) + (k : Int) == 1) = false := beq_eq_false_iff_ne.2 (by omega)
  clear h2 h5 h3
  go_enter Try.func54, Try.ntmps54
  go_wp2_with fail
  refine HSP.out.mono ?_
  rintro e w' ⟨rfl, rfl⟩
  go_wp2
  go_ret2
  exact ⟨by simp; omega, rfl⟩
/-- It answers an error. -/
def Errs (w : World) (e : Ending) (w' : World) : Prop := ∃ A, e = .returned (.tuple #[.int .i64 0, .iface 85 (.pointer (some A))]) ∧ Below w.heap.size w w'
set_option maxHeartbeats 1600000 in
theorem quoted_no (s : ByteArray) (hs : s.size ≤ 4611686018427387904) (h0 : 0 < s.size) (h : ¬ quoteOK s) (w : World) : Calls Try.prog 54 #[.string s, .int .i64 0] w (Errs w) := by
  have HSP := Lib.hid (span_any s hs 1 (by omega) w)
  have hk : spanL (s.data.toList.drop 1) < s.size := by
    have := spanL_le (s.data.toList.drop 1)
    simp only [List.length_drop, len_size] at this
    omega
  unfold quoteOK at h
  generalize spanL (s.data.toList.drop 1) = k at *
  by_cases h1 : 1 + k < s.size
  · by_cases h2 : s[1 + k] = 39
    · have h6 : ((s[1 + k].toNat : Int) != 39) = false := by rw [h2]; rfl
      by_cases h3 : k = 0
      · subst h3
        clear h h2
        go_enter Try.func54, Try.ntmps54
        go_wp2_with fail
        refine HSP.out.mono ?_
        rintro e w' ⟨rfl, rfl⟩
        go_wp2_with (go_at_call 76; refine (fnew_any _ (by decide) _ _).mono ?_; rintro e w' ⟨rfl, hb⟩; have HB := Lib.hid hb; clear hb)
        go_ret2
        exact ⟨_, rfl, HB.out⟩
      · have h7 : ((1 : Int) + (k : Int) == 1) = false := beq_eq_false_iff_ne.2 (by omega)
        have h4 : 24 ≤ 1 + k := by
          by_cases h4 : 1 + k < 24
          · exfalso
            exact h ⟨h1, by rw [get_some s _ h1, h2], h3, h4⟩
          · omega
        have h5 : 24 ≤ (1 : Int) + (k : Int) := by omega
        clear h h2 h3 h4
        go_enter Try.func54, Try.ntmps54
        go_wp2_with fail
        refine HSP.out.mono ?_
        rintro e w' ⟨rfl, rfl⟩
        go_wp2_with (go_at_call 76; refine (fnew_any _ (by decide) _ _).mono ?_; rintro e w' ⟨rfl, hb⟩; have HB := Lib.hid hb; clear hb)
        go_ret2
        exact ⟨_, rfl, HB.out⟩
    · have h6 : ((s[1 + k].toNat : Int) != 39) = true := by
        rw [bne_iff_ne]
        intro e
        exact h2 (UInt8.toNat_inj.1 (by show s[1 + k].toNat = 39; omega))
      clear h h2
      go_enter Try.func54, Try.ntmps54
      go_wp2_with fail
      refine HSP.out.mono ?_
      rintro e w' ⟨rfl, rfl⟩
      go_wp2_with (go_at_call 76; refine (fnew_any _ (by decide) _ _).mono ?_; rintro e w' ⟨rfl, hb⟩; have HB := Lib.hid hb; clear hb)
      go_ret2
      exact ⟨_, rfl, HB.out⟩
  · clear h
    go_enter Try.func54, Try.ntmps54
    go_wp2_with fail
    refine HSP.out.mono ?_
    rintro e w' ⟨rfl, rfl⟩
    go_wp2_with (go_at_call 76; refine (fnew_any _ (by decide) _ _).mono ?_; rintro e w' ⟨rfl, hb⟩; have HB := Lib.hid hb; clear hb)
    go_ret2
    exact ⟨_, rfl, HB.out⟩
theorem bytes_list (s : ByteArray) : s.toList = s.data.toList := ByteArray.toList_eq s
/-- Is it what is quoted, as a whole? -/
def quotedB (l : List UInt8) : Bool := l.head? == some 39 && (decide (1 + spanL (l.drop 1) < l.length) && (l[1 + spanL (l.drop 1)]? == some 39) && (spanL (l.drop 1) != 0) && decide (1 + spanL (l.drop 1) < 24)) && (spanL (l.drop 1) + 2 == l.length)
theorem quotedB_ok {s : ByteArray} (h : quoteOK s) (h0 : s.data.toList.head? = some 39) : quotedB s.data.toList = (spanL (s.data.toList.drop 1) + 2 == s.size) := by
  obtain ⟨h1, h2, h3, h4⟩ := h
  unfold quotedB
  rw [h0, h2, len_size, decide_eq_true h1, decide_eq_true h4, show (spanL (s.data.toList.drop 1) != 0) = true from bne_iff_ne.2 h3]
  rfl
theorem quotedB_no {s : ByteArray} (h : ¬ quoteOK s) : quotedB s.data.toList = false := by
  cases hb : quotedB s.data.toList with
  | false => rfl
  | true =>
    exfalso
    unfold quotedB at hb
    simp only [Bool.and_eq_true, decide_eq_true_eq, beq_iff_eq, bne_iff_ne, ne_eq, len_size] at hb
    exact h ⟨hb.1.2.1.1.1, hb.1.2.1.1.2, hb.1.2.1.2, hb.1.2.2⟩
theorem quotedB_head {l : List UInt8} (h : l.head? ≠ some 39) : quotedB l = false := by
  unfold quotedB
  rw [beq_eq_false_iff_ne.2 h]; rfl
theorem head_get (s : ByteArray) (h : 0 < s.size) : s.data.toList.head? = some s[0] := by
  rw [List.head?_eq_getElem?]; exact get_some s 0 h
theorem size_nil {s : ByteArray} (h : s.size = 0) : s = ⟨#[]⟩ := by
  have : s.data.toList = [] := List.eq_nil_of_length_eq_zero (by rw [len_size]; exact h)
  exact ByteArray.ext (Array.ext' this)
set_option maxHeartbeats 1600000 in
theorem isq_any (s : ByteArray) (hs : s.size ≤ 4611686018427387904) (w : World) : Calls Try.prog 26 #[.string s] w fun e w' => e = .returned (.bool (quotedB s.data.toList)) ∧ Below w.heap.size w w' := by
  by_cases h0 : s.size = 0
  · obtain rfl := size_nil h0
    go_enter Try.func26, Try.ntmps26
    go_wp2
    go_ret
    exact ⟨rfl, Below.refl _ _⟩
  have hpos : 0 < s.size := by omega
  have hne : s.toList.isEmpty = false := by rw [bytes_list, list_empty]; exact decide_eq_false h0
  by_cases h1 : s[0] = 39
  · have h6 : ((s[0].toNat : Int) != 39) = false := by rw [h1]; rfl
    have hh : s.data.toList.head? = some 39 := by rw [head_get s hpos, h1]
    by_cases hq : quoteOK s
    · have HQ := Lib.hid (quoted_yes s hs hq w)
      rw [quotedB_ok hq hh]
      clear hq hh h1 h0
      generalize spanL (s.data.toList.drop 1) = k at *
      go_enter Try.func26, Try.ntmps26
      go_wp2_with fail
      refine HQ.out.mono ?_
      rintro e w' ⟨rfl, rfl⟩
      go_wp2
      go_ret
      refine ⟨ret_bool ?_, Below.refl _ _⟩
      rw [Bool.eq_iff_iff, beq_iff_eq, beq_iff_eq]
      omega
    · have HQ := Lib.hid (quoted_no s hs hpos hq w)
      rw [quotedB_no hq]
      clear hq hh h1 h0
      go_enter Try.func26, Try.ntmps26
      go_wp2_with fail
      refine HQ.out.mono ?_
      rintro e w' ⟨A, rfl, hb⟩
      have HB := Lib.hid hb
      clear hb
      go_wp2
      go_ret
      exact ⟨rfl, HB.out⟩
  · have h6 : ((s[0].toNat : Int) != 39) = true := by
      rw [bne_iff_ne]
      intro e
      exact h1 (UInt8.toNat_inj.1 (by show s[0].toNat = 39; omega))
    rw [quotedB_head (by rw [head_get s hpos]; simpa using h1)]
    clear h1 h0
    go_enter Try.func26, Try.ntmps26
    go_wp2
    go_ret
    exact ⟨rfl, Below.refl _ _⟩
def faultOf (e p : Int) : Value := .agg #[.int .i64 e, .int .i64 p]
/-- The document's quoted. -/
def Quotes (w : World) (s : ByteArray) (e : Ending) (w' : World) : Prop := Below w.heap.size w w' ∧
  ((quoteOK s ∧ e = .returned (.tuple #[.int .i64 ((spanL (s.data.toList.drop 1) + 2 : Nat) : Int), faultOf 0 0])) ∨ (¬ quoteOK s ∧ ∃ k p, k ≠ 0 ∧ e = .returned (.tuple #[.int .i64 0, faultOf k p])))
set_option maxRecDepth 100000 in
set_option maxHeartbeats 3200000 in
theorem rquoted_any (s : ByteArray) (hs : s.size ≤ 4611686018427387904) (h0 : 0 < s.size) (w : World) : Calls Try.prog 82 #[.string s, .int .i64 0] w (Quotes w s) := by
  go_enter Try.func82, Try.ntmps82
  go_wp2
  go_loop [6] (fun n => ∃ k : Nat, 1 + k ≤ s.size ∧ n = .int .i64 ((k : Int) + 1) ∧ Hid (SpanAt s 1 k)) (fun n => s.size - (intOf n).toNat)
  case atStart => exact ⟨0, by omega, rfl, Lib.hid ⟨by omega, by simp⟩⟩
  case round =>
    obtain ⟨k, hk, rfl, HS⟩ := hrel
    by_cases hlt : k + 1 < s.size
    · have HD : Hid (s.data.toList.drop (1 + k) = s[k + 1] :: s.data.toList.drop (1 + k + 1)) := Lib.hid (by rw [Nat.add_comm 1 k]; exact drop_at s (k + 1) hlt)
      have HI := Lib.hid (rinside_any s[k + 1])
      cases hb : insideB s[k + 1] with
      | true =>
        rw [hb] at HI
        have HN : Hid (SpanAt s 1 (k + 1)) := Lib.hid ⟨by omega, by
          have h1 := HS.out.2
          rw [HD.out, spanL_cons, if_pos hb] at h1
          rw [h1]
          show k + (spanL (s.data.toList.drop (1 + k + 1)) + 1) = k + 1 + spanL (s.data.toList.drop (1 + (k + 1)))
          rw [Nat.add_assoc 1 k 1]; omega⟩
        clear hb
        go_wp2_with (go_at_call 87; refine (HI.out _).mono ?_; rintro e w' ⟨rfl, rfl⟩)
        go_round
        case rel => exact ⟨k + 1, by omega, by go_num, HN⟩
        case measure => simp [intOf]; omega
      | false =>
        rw [hb] at HI
        have HN : Hid (spanL (s.data.toList.drop 1) = k) := Lib.hid (by
          have h1 := HS.out.2
          rw [HD.out, spanL_cons, hb] at h1
          simpa using h1)
        have HOK : Hid (quoteOK s ↔ (s[k + 1].toNat : Int) = 39 ∧ ¬ k = 0 ∧ k + 1 < 24) := Lib.hid (by
          unfold quoteOK
          rw [HN.out, Nat.add_comm 1 k, get_some s _ hlt]
          constructor
          · rintro ⟨_, a, b, c⟩
            have := Option.some.inj a
            exact ⟨by rw [this]; rfl, b, c⟩
          · rintro ⟨a, b, c⟩
            exact ⟨hlt, by rw [show s[k + 1] = 39 from UInt8.toNat_inj.1 (by show s[k + 1].toNat = 39; omega)], b, c⟩)
        clear hb
        go_wp2_with (go_at_call 87; refine (HI.out _).mono ?_; rintro e w' ⟨rfl, rfl⟩)
        · refine bodyPost_ret (v := .tuple #[.int .i64 0, faultOf 2 ((k : Int) + 1)]) (by simp [results, Try.results82, go_sem, faultOf]) rfl ⟨(Below.refl _ _).alloc (Nat.le_refl _) _, .inr ⟨?_, _, _, by decide, rfl⟩⟩
          rw [HOK.out]
          have h2 : ((k : Int) + 1 == 1) = true := by assumption
          rw [beq_iff_eq] at h2
          omega
        · refine bodyPost_ret (v := .tuple #[.int .i64 0, faultOf 5 (0)]) (by simp [results, Try.results82, go_sem, faultOf]) rfl ⟨(Below.refl _ _).alloc (Nat.le_refl _) _, .inr ⟨?_, _, _, by decide, rfl⟩⟩
          rw [HOK.out]
          omega
        · refine bodyPost_ret (v := .tuple #[.int .i64 ((k : Int) + 1 + 1), faultOf 0 0]) (by simp [results, Try.results82, go_sem, faultOf]) rfl ⟨(Below.refl _ _).alloc (Nat.le_refl _) _, .inl ⟨?_, ?_⟩⟩
          · rw [HOK.out]
            have h2 : ((k : Int) + 1 == 1) = false := by assumption
            rw [beq_eq_false_iff_ne] at h2
            omega
          · rw [HN.out]; congr 4
        · refine bodyPost_ret (v := .tuple #[.int .i64 0, faultOf 2 ((k : Int) + 1)]) (by simp [results, Try.results82, go_sem, faultOf]) rfl ⟨(Below.refl _ _).alloc (Nat.le_refl _) _, .inr ⟨?_, _, _, by decide, rfl⟩⟩
          rw [HOK.out]
          omega
    · have HN : Hid (spanL (s.data.toList.drop 1) = k) := Lib.hid (by
        have h1 := HS.out.2
        rw [show s.data.toList.drop (1 + k) = [] from List.drop_of_length_le (by simp; omega)] at h1
        simpa [spanL] using h1)
      go_wp2
      refine bodyPost_ret (v := .tuple #[.int .i64 0, faultOf 4 ((s.size : Int))]) (by simp [results, Try.results82, go_sem, faultOf]) rfl ⟨(Below.refl _ _).alloc (Nat.le_refl _) _, .inr ⟨?_, _, _, by decide, rfl⟩⟩
      unfold quoteOK
      rw [HN.out]
      omega
set_option maxHeartbeats 1600000 in
theorem risq_any (s : ByteArray) (hs : s.size ≤ 4611686018427387904) (w : World) : Calls Try.prog 64 #[.string s] w fun e w' => e = .returned (.bool (quotedB s.data.toList)) ∧ Below w.heap.size w w' := by
  by_cases h0 : s.size = 0
  · obtain rfl := size_nil h0
    go_enter Try.func64, Try.ntmps64
    go_wp2
    go_ret
    exact ⟨rfl, Below.refl _ _⟩
  have hpos : 0 < s.size := by omega
  have hne : s.toList.isEmpty = false := by rw [bytes_list, list_empty]; exact decide_eq_false h0
  by_cases h1 : s[0] = 39
  · have h6 : ((s[0].toNat : Int) != 39) = false := by rw [h1]; rfl
    have hh : s.data.toList.head? = some 39 := by rw [head_get s hpos, h1]
    have HQ := Lib.hid (rquoted_any s hs hpos w)
    have HY := Lib.hid (fun hq : quoteOK s => quotedB_ok hq hh)
    have HN := Lib.hid (fun hq : ¬ quoteOK s => quotedB_no hq)
    clear hh h1 h0
    generalize hb : quotedB s.data.toList = b at *
    have HB0 := Lib.hid hb
    clear hb
    go_enter Try.func64, Try.ntmps64
    go_wp2_with fail
    refine HQ.out.mono ?_
    rintro e w' ⟨hb, ⟨hq, rfl⟩ | ⟨hq, k, p, hk, rfl⟩⟩
    · have HB := Lib.hid hb
      have HE := Lib.hid (HY.out hq)
      clear hb hq
      unfold faultOf
      generalize spanL (s.data.toList.drop 1) = k at *
      go_wp2
      go_ret
      refine ⟨ret_bool ?_, HB.out.alloc HB.out.size _⟩
      rw [HE.out, Bool.eq_iff_iff, beq_iff_eq, beq_iff_eq]
      omega
    · have HB := Lib.hid hb
      have HE := Lib.hid (HN.out hq)
      have hk0 : (k == 0) = false := by simpa using hk
      clear hb hq hk
      unfold faultOf
      go_wp2
      go_ret
      exact ⟨ret_bool HE.out.symm, HB.out.alloc HB.out.size _⟩
  · have h6 : ((s[0].toNat : Int) != 39) = true := by
      rw [bne_iff_ne]
      intro e
      exact h1 (UInt8.toNat_inj.1 (by show s[0].toNat = 39; omega))
    rw [quotedB_head (by rw [head_get s hpos]; simpa using h1)]
    clear h1 h0
    go_enter Try.func64, Try.ntmps64
    go_wp2
    go_ret
    exact ⟨rfl, Below.refl _ _⟩
end Go.Proofs.Ytdbmeocpjopdhaa
