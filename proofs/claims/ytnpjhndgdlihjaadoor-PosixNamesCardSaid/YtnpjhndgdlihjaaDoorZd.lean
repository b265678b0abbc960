/- Tokens of a grammar's text: bytes, spans. Tokens of a grammar's text: what is quoted, comments, marks. Tokens of a grammar's text: one token. Tokens of a grammar's text: all of them. -/
import Derived.Test.YtnpjhndgdlihjaaDoorZc
import Derived.Test.YtnpjhndgdlihjaaDoorZb
import Derived.Test.YtnpjhndgdlihjaaDoorShelf
import Derived.WalkSpells
import Derived.Lib.IndexMore
namespace Go.Proofs.YtnpjhndgdlihjaaDoor
open Go.RowKit
set_option linter.unusedVariables false
theorem spanBy_cons {p : UInt8 → Bool} (c : UInt8) (l : List UInt8) : spanBy p (c :: l) = if p c then spanBy p l + 1 else 0 := by
  unfold spanBy
  rw [List.takeWhile_cons]
  split <;> simp
theorem spanBy_le (p : UInt8 → Bool) (l : List UInt8) : spanBy p l ≤ l.length := (List.takeWhile_sublist p).length_le
theorem gletter_any (c : UInt8) (w : World) : Calls Tryd.prog 73 #[.int .u8 c.toNat] w fun e w' => e = .returned (.bool (letB c)) ∧ w = w' := by
  have HC := Lib.hid (class_any c w)
  unfold letB
  generalize classOf c = k at *
  go_enter Tryd.func73, Tryd.ntmps73
  cases h4 : (k == 4) with
  | true =>
    have h4' : ((k : Int) == 4) = true := by rw [beq_iff_eq] at h4 ⊢; omega
    go_wp2_with (go_at_call 72; refine HC.out.mono ?_; rintro e w' ⟨rfl, rfl⟩)
    go_ret
    exact ⟨rfl, rfl⟩
  | false =>
    have h4' : ((k : Int) == 4) = false := by rw [beq_eq_false_iff_ne] at h4 ⊢; omega
    have h3' : ((k : Int) == 3) = (k == 3) := by rw [Bool.eq_iff_iff, beq_iff_eq, beq_iff_eq]; omega
    have H3 := Lib.hid h3'
    clear h3'
    go_wp2_with (go_at_call 72; refine HC.out.mono ?_; rintro e w' ⟨rfl, rfl⟩)
    go_ret
    refine ⟨?_, rfl⟩
    rw [← H3.out]; rfl
def whiteN (n : Int) : Bool := decide (0 ≤ Lib.indexByte [32, 9, 10, 13] n.toNat.toUInt8)
theorem white_all : allBytes.all (fun c => whiteN c.toNat == whiteB c) = true := by kernel_rfl
theorem white_eq (c : UInt8) : decide (0 ≤ Lib.indexByte [32, 9, 10, 13] (c.toNat : Int).toNat.toUInt8) = whiteB c := beq_iff_eq.1 (List.all_eq_true.1 white_all c (mem_bytes c))
theorem sIndexByte_any (s : ByteArray) (c : Int) (w : World) : Calls Tryd.prog 89 #[.string s, .int .u8 c] w fun e w' => e = .returned (.int .i64 (Lib.indexByte s.data.toList c.toNat.toUInt8)) ∧ w' = w := by
  have HL := Lib.hid (Tryd.stringslite_IndexByte s c w)
  go_enter Tryd.func89, Tryd.ntmps89
  go_wp2_with (go_at_call 97; refine HL.out.mono ?_; rintro e w' ⟨rfl, rfl⟩)
  go_ret
  exact ⟨rfl, rfl⟩
theorem white_any (c : UInt8) (w : World) : Calls Tryd.prog 67 #[.int .u8 c.toNat] w fun e w' => e = .returned (.bool (whiteB c)) ∧ w = w' := by
  have HS := Lib.hid (sIndexByte_any ⟨#[32, 9, 10, 13]⟩ c.toNat w)
  have HW := Lib.hid (white_eq c)
  generalize Lib.indexByte (⟨#[32, 9, 10, 13]⟩ : ByteArray).data.toList (c.toNat : Int).toNat.toUInt8 = k at *
  go_enter Tryd.func67, Tryd.ntmps67
  go_wp2_with (go_at_call 89; refine HS.out.mono ?_; rintro e w' ⟨rfl, rfl⟩)
  go_ret
  refine ⟨?_, rfl⟩
  rw [← HW.out]
  rfl
theorem sign_any (c : UInt8) (w : World) : Calls Tryd.prog 74 #[.int .u8 c.toNat] w fun e w' => e = .returned (.int .i64 (signL c)) ∧ w = w' := by
  have h58 : (c = 58) = ((c.toNat : Int) = 58) := by rw [← UInt8.toNat_inj]; show (c.toNat = 58) = _; rw [eq_iff_iff]; omega
  have h124 : (c = 124) = ((c.toNat : Int) = 124) := by rw [← UInt8.toNat_inj]; show (c.toNat = 124) = _; rw [eq_iff_iff]; omega
  have h59 : (c = 59) = ((c.toNat : Int) = 59) := by rw [← UInt8.toNat_inj]; show (c.toNat = 59) = _; rw [eq_iff_iff]; omega
  unfold signL
  simp only [h58, h124, h59]
  clear h58 h124 h59
  generalize (c.toNat : Int) = n
  by_cases h1 : n = 58
  · subst h1
    go_enter Tryd.func74, Tryd.ntmps74
    go_wp2
    go_ret
    exact ⟨rfl, rfl⟩
  by_cases h2 : n = 124
  · subst h2
    go_enter Tryd.func74, Tryd.ntmps74
    go_wp2
    go_ret
    exact ⟨rfl, rfl⟩
  by_cases h3 : n = 59
  · subst h3
    go_enter Tryd.func74, Tryd.ntmps74
    go_wp2
    go_ret
    exact ⟨rfl, rfl⟩
  rw [if_neg h1, if_neg h2, if_neg h3]
  have q1 : (n == 58) = false := beq_eq_false_iff_ne.2 h1
  have q2 : (n == 124) = false := beq_eq_false_iff_ne.2 h2
  have q3 : (n == 59) = false := beq_eq_false_iff_ne.2 h3
  clear h1 h2 h3
  go_enter Tryd.func74, Tryd.ntmps74
  go_wp2
  go_ret
  exact ⟨rfl, rfl⟩
def SpanAtwhite (s : ByteArray) (p k : Nat) : Prop := p + k ≤ s.size ∧ spanBy whiteB (s.data.toList.drop p) = k + spanBy whiteB (s.data.toList.drop (p + k))
set_option maxRecDepth 100000 in
set_option maxHeartbeats 1600000 in
theorem span_white (s : ByteArray) (hs : s.size ≤ 4611686018427387904) (p : Nat) (hp : p ≤ s.size) (w : World) : Calls Tryd.prog 68 #[.string s, .int .i64 p, .func (.func 67) #[] #[]] w fun e w' => e = .returned (.int .i64 (spanBy whiteB (s.data.toList.drop p))) ∧ w = w' := by
  go_enter Tryd.func68, Tryd.ntmps68
  go_wp2
  go_loop [7] (fun n => ∃ k : Nat, p + k ≤ s.size ∧ n = .int .i64 k ∧ Hid (SpanAtwhite s p k)) (fun n => s.size - (intOf n).toNat)
  case atStart => exact ⟨0, by omega, rfl, Lib.hid ⟨by omega, by simp⟩⟩
  case round =>
    obtain ⟨k, hk, rfl, HS⟩ := hrel
    by_cases hlt : p + k < s.size
    · have HD := Lib.hid (drop_at s (p + k) hlt)
      have HI := Lib.hid (white_any s[p + k] w)
      cases hb : whiteB s[p + k] with
      | true =>
        rw [hb] at HI
        have HN : Hid (SpanAtwhite s p (k + 1)) := Lib.hid ⟨by omega, by
          have h1 := HS.out.2
          rw [HD.out, spanBy_cons, if_pos hb] at h1
          rw [h1]
          show k + (spanBy whiteB (s.data.toList.drop (p + k + 1)) + 1) = k + 1 + spanBy whiteB (s.data.toList.drop (p + (k + 1)))
          rw [Nat.add_assoc p k 1]; omega⟩
        clear hb
        go_wp2_with (go_at_call 67; refine HI.out.mono ?_; rintro e w' ⟨rfl, rfl⟩)
        go_round
        case rel => exact ⟨k + 1, by omega, by go_num, HN⟩
        case measure => simp [intOf]; omega
      | false =>
        rw [hb] at HI
        have HN : Hid (spanBy whiteB (s.data.toList.drop p) = k) := Lib.hid (by
          have h1 := HS.out.2
          rw [HD.out, spanBy_cons, hb] at h1
          simpa using h1)
        clear hb
        go_wp2_with (go_at_call 67; refine HI.out.mono ?_; rintro e w' ⟨rfl, rfl⟩)
        go_ret
        exact ⟨ret_nat HN.out.symm, rfl⟩
    · have HN : Hid (spanBy whiteB (s.data.toList.drop p) = k) := Lib.hid (by
        have h1 := HS.out.2
        rw [show s.data.toList.drop (p + k) = [] from List.drop_of_length_le (by simp; omega)] at h1
        simpa [spanBy] using h1)
      go_wp2
      go_ret
      exact ⟨ret_nat HN.out.symm, rfl⟩
def SpanAtletter (s : ByteArray) (p k : Nat) : Prop := p + k ≤ s.size ∧ spanBy letB (s.data.toList.drop p) = k + spanBy letB (s.data.toList.drop (p + k))
set_option maxRecDepth 100000 in
set_option maxHeartbeats 1600000 in
theorem span_gletter (s : ByteArray) (hs : s.size ≤ 4611686018427387904) (p : Nat) (hp : p ≤ s.size) (w : World) : Calls Tryd.prog 68 #[.string s, .int .i64 p, .func (.func 73) #[] #[]] w fun e w' => e = .returned (.int .i64 (spanBy letB (s.data.toList.drop p))) ∧ w = w' := by
  go_enter Tryd.func68, Tryd.ntmps68
  go_wp2
  go_loop [7] (fun n => ∃ k : Nat, p + k ≤ s.size ∧ n = .int .i64 k ∧ Hid (SpanAtletter s p k)) (fun n => s.size - (intOf n).toNat)
  case atStart => exact ⟨0, by omega, rfl, Lib.hid ⟨by omega, by simp⟩⟩
  case round =>
    obtain ⟨k, hk, rfl, HS⟩ := hrel
    by_cases hlt : p + k < s.size
    · have HD := Lib.hid (drop_at s (p + k) hlt)
      have HI := Lib.hid (gletter_any s[p + k] w)
      cases hb : letB s[p + k] with
      | true =>
        rw [hb] at HI
        have HN : Hid (SpanAtletter s p (k + 1)) := Lib.hid ⟨by omega, by
          have h1 := HS.out.2
          rw [HD.out, spanBy_cons, if_pos hb] at h1
          rw [h1]
          show k + (spanBy letB (s.data.toList.drop (p + k + 1)) + 1) = k + 1 + spanBy letB (s.data.toList.drop (p + (k + 1)))
          rw [Nat.add_assoc p k 1]; omega⟩
        clear hb
        go_wp2_with (go_at_call 73; refine HI.out.mono ?_; rintro e w' ⟨rfl, rfl⟩)
        go_round
        case rel => exact ⟨k + 1, by omega, by go_num, HN⟩
        case measure => simp [intOf]; omega
      | false =>
        rw [hb] at HI
        have HN : Hid (spanBy letB (s.data.toList.drop p) = k) := Lib.hid (by
          have h1 := HS.out.2
          rw [HD.out, spanBy_cons, hb] at h1
          simpa using h1)
        clear hb
        go_wp2_with (go_at_call 73; refine HI.out.mono ?_; rintro e w' ⟨rfl, rfl⟩)
        go_ret
        exact ⟨ret_nat HN.out.symm, rfl⟩
    · have HN : Hid (spanBy letB (s.data.toList.drop p) = k) := Lib.hid (by
        have h1 := HS.out.2
        rw [show s.data.toList.drop (p + k) = [] from List.drop_of_length_le (by simp; omega)] at h1
        simpa [spanBy] using h1)
      go_wp2
      go_ret
      exact ⟨ret_nat HN.out.symm, rfl⟩
end Go.Proofs.YtnpjhndgdlihjaaDoor

namespace Go.Proofs.YtnpjhndgdlihjaaDoor
open Go.RowKit
set_option linter.unusedVariables false
theorem fnew_at (k : Int) (hk : (k == 0) = false) (p : Int) (w : World) : Calls Tryd.prog 36 #[.int .i64 k, .int .i64 p] w fun e w' => e = .returned (.iface 106 (.pointer (some ⟨w.heap.size, 0, none⟩))) ∧ w' = w.alloc (.cells #[.int .i64 k, .int .i64 p] 108) := by
  go_enter Tryd.func36, Tryd.ntmps36
  go_wp2
  go_ret
  exact ⟨rfl, rfl⟩
/-- An error at a place. -/
def ErrAt (w : World) (v : Value) (f : Flt) : Prop := ∃ b, v = .iface 106 (.pointer (some ⟨b, 0, none⟩)) ∧ Blk w b 108 #[.int .i64 f.1, .int .i64 f.2]
theorem ErrAt.new (w : World) (e p : Nat) : ErrAt (w.alloc (.cells #[.int .i64 e, .int .i64 p] 108)) (.iface 106 (.pointer (some ⟨w.heap.size, 0, none⟩))) (e, p) := ⟨_, rfl, Blk.new _ _ _⟩
theorem ErrAt.later {w w' : World} {v : Value} {f : Flt} (h : ErrAt w v f) (hb : Below w.heap.size w w') : ErrAt w' v f := by
  obtain ⟨b, rfl, hk⟩ := h; exact ⟨b, rfl, hk.below hb hk.lt⟩
/-- How many bytes, or an error. -/
def PairEnd (w : World) (r : Except Flt (Nat × Nat)) (e : Ending) (w' : World) : Prop :=
  Below w.heap.size w w' ∧ match r with
  | .ok (k, n) => e = .returned (.tuple #[.int .i64 n, .nilIface])
  | .error f => ∃ v, e = .returned (.tuple #[.int .i64 0, v]) ∧ ErrAt w' v f
theorem PairEnd.err (w : World) (e p : Nat) : PairEnd w (.error (e, p)) (.returned (.tuple #[.int .i64 0, .iface 106 (.pointer (some ⟨w.heap.size, 0, none⟩))])) (w.alloc (.cells #[.int .i64 e, .int .i64 p] 108)) :=
  ⟨below_alloc _ _, _, rfl, .new _ _ _⟩
theorem PairEnd.errI (w : World) (e p : Nat) (q : Int) (h : q = p) : PairEnd w (.error (e, p)) (.returned (.tuple #[.int .i64 0, .iface 106 (.pointer (some ⟨w.heap.size, 0, none⟩))])) (w.alloc (.cells #[.int .i64 e, .int .i64 q] 108)) := by
  subst h; exact .err w e p
theorem PairEnd.yesI (w : World) (k n : Nat) (q : Int) (h : q = n) : PairEnd w (.ok (k, n)) (.returned (.tuple #[.int .i64 q, .nilIface])) w := by subst h; exact ⟨Below.refl _ _, rfl⟩
theorem PairEnd.yes (w : World) (k n : Nat) : PairEnd w (.ok (k, n)) (.returned (.tuple #[.int .i64 n, .nilIface])) w := ⟨Below.refl _ _, rfl⟩
theorem rest_get (s : ByteArray) (p k : Nat) (h : p + (1 + k) < s.size) : (s.data.toList.drop (p + 1))[k]? = some s[p + (1 + k)] := by
  rw [List.getElem?_drop, Nat.add_assoc]; exact get_some s _ h
set_option maxHeartbeats 1600000 in
theorem quoted_at (s : ByteArray) (hs : s.size ≤ 4611686018427387904) (p : Nat) (hp : p < s.size) (w : World) : Calls Tryd.prog 70 #[.string s, .int .i64 p] w (PairEnd w (quoteL s.size p (s.data.toList.drop (p + 1)))) := by
  have HSP := Lib.hid (span_any s hs (p + 1) (by omega) w)
  have hk : spanL (s.data.toList.drop (p + 1)) < s.size := by
    have := spanL_le (s.data.toList.drop (p + 1))
    simp only [List.length_drop, len_size] at this
    omega
  have hget := rest_get s p (spanL (s.data.toList.drop (p + 1)))
  unfold quoteL
  generalize spanL (s.data.toList.drop (p + 1)) = k at *
  generalize s.data.toList.drop (p + 1) = r at *
  have hi1 : (p : Int) + 1 = ((p + 1 : Nat) : Int) := by omega
  rw [← hi1] at HSP
  have hpi : (p : Int) + (1 + (k : Int)) = ((p + 1 + k : Nat) : Int) := by omega
  by_cases h1 : s.size ≤ p + 1 + k
  · rw [if_pos h1]
    have q1 : (s.size : Int) ≤ (p : Int) + (1 + (k : Int)) := by omega
    clear hget h1 hi1 hpi
    go_enter Tryd.func70, Tryd.ntmps70
    go_wp2_with fail
    refine HSP.out.mono ?_
    rintro e w' ⟨rfl, rfl⟩
    go_wp2_with (go_at_call 36; refine (fnew_at _ rfl _ _).mono ?_; rintro e w' ⟨rfl, rfl⟩)
    go_ret2
    exact PairEnd.err _ _ _
  rw [if_neg h1]
  have hlt : p + (1 + k) < s.size := by omega
  have hg := hget hlt
  rw [hg]
  clear hget hg hi1 hpi
  have q1 : ¬ (s.size : Int) ≤ (p : Int) + (1 + (k : Int)) := by omega
  have q2 : (p : Int) + (1 + (k : Int)) < (s.size : Int) := by omega
  by_cases hc : s[p + (1 + k)] = 39
  · have h6 : ((s[p + (1 + k)].toNat : Int) != 39) = false := by rw [hc]; rfl
    rw [hc]
    clear hc
    by_cases h3 : k = 0
    · subst h3
      rw [if_pos (.inr rfl)]
      go_enter Tryd.func70, Tryd.ntmps70
      go_wp2_with fail
      refine HSP.out.mono ?_
      rintro e w' ⟨rfl, rfl⟩
      go_wp2_with (go_at_call 36; refine (fnew_at _ rfl _ _).mono ?_; rintro e w' ⟨rfl, rfl⟩)
      go_ret2
      exact PairEnd.errI _ 2 (p + 1 + 0) _ (by omega)
    · rw [if_neg (by rintro (h | h) <;> simp_all)]
      have h7 : ((1 : Int) + (k : Int) == 1) = false := beq_eq_false_iff_ne.2 (by omega)
      by_cases h4 : 24 ≤ 1 + k
      · rw [if_pos h4]
        have h5 : 24 ≤ (1 : Int) + (k : Int) := by omega
        clear h3 h4
        go_enter Tryd.func70, Tryd.ntmps70
        go_wp2_with fail
        refine HSP.out.mono ?_
        rintro e w' ⟨rfl, rfl⟩
        go_wp2_with (go_at_call 36; refine (fnew_at _ rfl _ _).mono ?_; rintro e w' ⟨rfl, rfl⟩)
        go_ret2
        exact PairEnd.err _ 5 p
      · rw [if_neg h4]
        have h5 : ¬ 24 ≤ (1 : Int) + (k : Int) := by omega
        clear h3 h4
        go_enter Tryd.func70, Tryd.ntmps70
        go_wp2_with fail
        refine HSP.out.mono ?_
        rintro e w' ⟨rfl, rfl⟩
        go_wp2
        go_ret2
        exact PairEnd.yesI _ 2 (k + 2) _ (by omega)
  · have h6 : ((s[p + (1 + k)].toNat : Int) != 39) = true := by
      rw [bne_iff_ne]
      intro e
      exact hc (UInt8.toNat_inj.1 (by show s[p + (1 + k)].toNat = 39; omega))
    rw [if_pos (.inl (by simpa using hc))]
    clear hc
    go_enter Tryd.func70, Tryd.ntmps70
    go_wp2_with fail
    refine HSP.out.mono ?_
    rintro e w' ⟨rfl, rfl⟩
    go_wp2_with (go_at_call 36; refine (fnew_at _ rfl _ _).mono ?_; rintro e w' ⟨rfl, rfl⟩)
    go_ret2
    exact PairEnd.errI _ 2 (p + 1 + k) _ (by omega)
/-- The variable that package bytealg reads holds a number. -/
def HasMax (w : World) : Prop := ∃ m : Int, w.cell? ⟨2, 0, none⟩ = some (.int .i64 m)
theorem HasMax.later {w w' : World} (h : HasMax w) (hb : Below w.heap.size w w') : HasMax w' := by
  obtain ⟨m, hm⟩ := h; exact ⟨m, (hb.cell (p := ⟨2, 0, none⟩) (World.block_lt_of_cell? w _ hm)).trans hm⟩
theorem drop_extract (s : ByteArray) (p : Nat) : (s.extract p s.size).data.toList = s.data.toList.drop p := by
  rw [Lib.extract_data]
  exact List.take_of_length_le (by simp)
theorem index_le (sub : List UInt8) : ∀ (l : List UInt8), Lib.index l sub ≤ l.length
  | [] => by unfold Lib.index; split <;> simp
  | b :: l => by
    have ih := index_le sub l
    unfold Lib.index
    split
    · exact Int.natCast_nonneg _
    · split
      · simp; omega
      · rw [List.length_cons]; omega
theorem prefix_two (c d : UInt8) (r : List UInt8) : Lib.hasPrefix (c :: r) [c, d] = (r.head? == some d) := by
  unfold Lib.hasPrefix
  cases r with
  | nil => simp [List.isPrefixOf]
  | cons a l => simp [List.isPrefixOf]; exact Bool.beq_comm
theorem drop_two (s : ByteArray) (p : Nat) : (s.data.toList.drop (p + 1)).drop 1 = s.data.toList.drop (p + 2) := by rw [List.drop_drop]
theorem head_lt {s : ByteArray} {p : Nat} {c : UInt8} (h : (s.data.toList.drop (p + 1)).head? = some c) : p + 1 < s.size := by
  rw [List.head?_drop] at h
  have := (List.getElem?_eq_some_iff.1 h).1
  simpa using this
set_option maxHeartbeats 1600000 in
theorem comment_at (s : ByteArray) (hs : s.size ≤ 8192) (p : Nat) (hp : p < s.size) (h47 : s[p] = 47) (w : World) (hm : HasMax w) : Calls Tryd.prog 69 #[.string s, .int .i64 p] w (PairEnd w (commentL s.size p (s.data.toList.drop (p + 1)))) := by
  obtain ⟨m, hm⟩ := hm
  have hpre : Lib.hasPrefix (s.extract p s.size).data.toList [47, 42] = ((s.data.toList.drop (p + 1)).head? == some 42) := by
    rw [drop_extract, drop_at s p hp, h47, prefix_two]
  have hp1 := Tryd.strings_HasPrefix (s.extract p s.size) ⟨#[47, 42]⟩ w
  rw [hpre] at hp1
  have HP := Lib.hid hp1
  clear hp1 hpre h47
  have hd := drop_two s p
  have hh := @head_lt s p 42
  unfold commentL
  rw [hd]
  clear hd
  generalize hr : (s.data.toList.drop (p + 1)).head? = hr' at *
  clear hr
  by_cases h42 : hr' = some 42
  · subst h42
    have hlt := hh rfl
    clear hh
    have hex : (s.extract (p + 2) s.size).data.toList = s.data.toList.drop (p + 2) := drop_extract s (p + 2)
    have hi1 := Tryd.strings_Index (s.extract (p + 2) s.size) ⟨#[42, 47]⟩ m w (by rw [ByteArray.size_extract]; omega) hm
    rw [hex] at hi1
    have HI := Lib.hid hi1
    clear hi1 hex hm
    rw [if_pos rfl]
    generalize hk : Lib.index (s.data.toList.drop (p + 2)) (⟨#[42, 47]⟩ : ByteArray).data.toList = k at *
    have hkl : k ≤ 8192 ∧ -1 ≤ k := by
      rw [← hk]
      have h1 := index_le (⟨#[42, 47]⟩ : ByteArray).data.toList (s.data.toList.drop (p + 2))
      have h2 := Lib.index_ge (s.data.toList.drop (p + 2)) (⟨#[42, 47]⟩ : ByteArray).data.toList
      rw [List.length_drop, len_size] at h1
      omega
    clear hk
    by_cases h0 : k < 0
    · rw [if_pos h0]
      go_enter Tryd.func69, Tryd.ntmps69
      go_wp2_with (first
        | (go_at_call 90; refine HP.out.mono ?_; rintro e w' ⟨rfl, rfl⟩)
        | (go_at_call 91; refine HI.out.mono ?_; rintro e w' ⟨rfl, rfl⟩)
        | (go_at_call 36; refine (fnew_at _ rfl _ _).mono ?_; rintro e w' ⟨rfl, rfl⟩))
      go_ret2
      exact PairEnd.err _ 4 _
    · rw [if_neg h0]
      obtain ⟨k1, k2⟩ := hkl
      go_enter Tryd.func69, Tryd.ntmps69
      go_wp2_with (first
        | (go_at_call 90; refine HP.out.mono ?_; rintro e w' ⟨rfl, rfl⟩)
        | (go_at_call 91; refine HI.out.mono ?_; rintro e w' ⟨rfl, rfl⟩)
        | (go_at_call 36; refine (fnew_at _ rfl _ _).mono ?_; rintro e w' ⟨rfl, rfl⟩))
      go_ret2
      exact PairEnd.yesI _ 0 _ _ (by omega)
  · rw [if_neg h42]
    have hb : (hr' == some 42) = false := by simpa using h42
    rw [hb] at HP
    clear h42 hb hh hm
    go_enter Tryd.func69, Tryd.ntmps69
    go_wp2_with (first
      | (go_at_call 90; refine HP.out.mono ?_; rintro e w' ⟨rfl, rfl⟩)
      | (go_at_call 36; refine (fnew_at _ rfl _ _).mono ?_; rintro e w' ⟨rfl, rfl⟩))
    go_ret2
    exact PairEnd.err _ 2 p
/-- A kind, how many bytes, or an error. -/
def OneEnd (w : World) (r : Except Flt (Nat × Nat)) (e : Ending) (w' : World) : Prop :=
  Below w.heap.size w w' ∧ match r with
  | .ok (k, n) => e = .returned (.tuple #[.int .i64 k, .int .i64 n, .nilIface])
  | .error f => ∃ (k : Int) (v : Value), e = .returned (.tuple #[.int .i64 k, .int .i64 0, v]) ∧ ErrAt w' v f
theorem OneEnd.errI (w : World) (e p : Nat) (k q : Int) (h : q = p) : OneEnd w (.error (e, p)) (.returned (.tuple #[.int .i64 k, .int .i64 0, .iface 106 (.pointer (some ⟨w.heap.size, 0, none⟩))])) (w.alloc (.cells #[.int .i64 e, .int .i64 q] 108)) := by
  subst h; exact ⟨below_alloc _ _, k, _, rfl, .new _ _ _⟩
theorem OneEnd.yesI (w : World) (k n : Nat) (q : Int) (h : q = n) : OneEnd w (.ok (k, n)) (.returned (.tuple #[.int .i64 k, .int .i64 q, .nilIface])) w := by subst h; exact ⟨Below.refl _ _, rfl⟩
theorem extract_take (s : ByteArray) (p n : Nat) : (s.extract p (p + n)).data.toList = (s.data.toList.drop p).take n := by
  rw [Lib.extract_data, Nat.add_sub_cancel_left]
set_option maxRecDepth 100000 in
set_option maxHeartbeats 1600000 in
theorem mark_at (s : ByteArray) (hs : s.size ≤ 8192) (p : Nat) (hp : p < s.size) (h37 : s[p] = 37) (w : World) : Calls Tryd.prog 71 #[.string s, .int .i64 p] w (OneEnd w (markL p (s.data.toList.drop (p + 1)))) := by
  have hpre : Lib.hasPrefix (s.extract p s.size).data.toList [37, 37] = ((s.data.toList.drop (p + 1)).head? == some 37) := by
    rw [drop_extract, drop_at s p hp, h37, prefix_two]
  have hp1 := Tryd.strings_HasPrefix (s.extract p s.size) ⟨#[37, 37]⟩ w
  rw [hpre] at hp1
  have HP := Lib.hid hp1
  clear hp1 hpre h37
  unfold markL
  by_cases h37 : (s.data.toList.drop (p + 1)).head? = some 37
  · rw [if_pos h37]
    rw [show ((s.data.toList.drop (p + 1)).head? == some 37) = true by rw [h37]; rfl] at HP
    clear h37
    go_enter Tryd.func71, Tryd.ntmps71
    go_wp2_with (go_at_call 90; refine HP.out.mono ?_; rintro e w' ⟨rfl, rfl⟩)
    go_ret3
    exact OneEnd.yesI _ 6 2 _ rfl
  rw [if_neg h37]
  rw [show ((s.data.toList.drop (p + 1)).head? == some 37) = false by simpa using h37] at HP
  clear h37
  have HSP := Lib.hid (span_gletter s (by omega) (p + 1) (by omega) w)
  have hk : spanBy letB (s.data.toList.drop (p + 1)) ≤ s.size - (p + 1) := by
    have := spanBy_le letB (s.data.toList.drop (p + 1))
    simp only [List.length_drop, len_size] at this
    omega
  have htk := extract_take s (p + 1) (spanBy letB (s.data.toList.drop (p + 1)))
  generalize spanBy letB (s.data.toList.drop (p + 1)) = k at *
  rw [← htk]
  have hi1 : (p : Int) + 1 = ((p + 1 : Nat) : Int) := by omega
  rw [← hi1] at HSP
  have b1 : (p : Int) + 1 + (k : Int) ≤ (s.size : Int) := by omega
  have b2 : p + 1 + k ≤ s.size := by omega
  generalize hx : s.extract (p + 1) (p + 1 + k) = x at *
  have hxx : x.toList = x.data.toList := Lib.toList_data x
  cases hT : (x.toList == [116, 111, 107, 101, 110]) with
  | true =>
    rw [if_pos (by rw [← hxx]; exact beq_iff_eq.1 hT)]
    subst hx
    clear hxx htk hi1
    go_enter Tryd.func71, Tryd.ntmps71
    go_wp2_with (first
      | (go_at_call 90; refine HP.out.mono ?_; rintro e w' ⟨rfl, rfl⟩)
      | (go_at_call 68; refine HSP.out.mono ?_; rintro e w' ⟨rfl, rfl⟩))
    go_ret3
    exact OneEnd.yesI _ 7 _ _ (by omega)
  | false =>
    rw [if_neg (by rw [← hxx]; simpa using hT)]
    cases hS : (x.toList == [115, 116, 97, 114, 116]) with
    | true =>
      rw [if_pos (by rw [← hxx]; exact beq_iff_eq.1 hS)]
      subst hx
      clear hxx htk hi1
      go_enter Tryd.func71, Tryd.ntmps71
      go_wp2_with (first
        | (go_at_call 90; refine HP.out.mono ?_; rintro e w' ⟨rfl, rfl⟩)
        | (go_at_call 68; refine HSP.out.mono ?_; rintro e w' ⟨rfl, rfl⟩))
      go_ret3
      exact OneEnd.yesI _ 8 _ _ (by omega)
    | false =>
      rw [if_neg (by rw [← hxx]; simpa using hS)]
      subst hx
      clear hxx htk hi1
      go_enter Tryd.func71, Tryd.ntmps71
      go_wp2_with (first
        | (go_at_call 90; refine HP.out.mono ?_; rintro e w' ⟨rfl, rfl⟩)
        | (go_at_call 68; refine HSP.out.mono ?_; rintro e w' ⟨rfl, rfl⟩)
        | (go_at_call 36; refine (fnew_at _ rfl _ _).mono ?_; rintro e w' ⟨rfl, rfl⟩))
      go_ret3
      exact OneEnd.errI _ 2 p _ _ rfl
end Go.Proofs.YtnpjhndgdlihjaaDoor

namespace Go.Proofs.YtnpjhndgdlihjaaDoor
open Go.RowKit
set_option linter.unusedVariables false
theorem PairEnd.one {w : World} {r : Except Flt (Nat × Nat)} {e : Ending} {w' : World} (h : PairEnd w r e w') : ∃ (n : Int) (v : Value), e = .returned (.tuple #[.int .i64 n, v]) ∧
    ∀ K : Nat, (∀ k n, r = .ok (k, n) → k = K) → OneEnd w r (.returned (.tuple #[.int .i64 K, .int .i64 n, v])) w' := by
  obtain ⟨hb, h⟩ := h
  cases r with
  | error f => obtain ⟨v, rfl, hv⟩ := h; exact ⟨0, v, rfl, fun K _ => ⟨hb, K, v, rfl, hv⟩⟩
  | ok q => obtain ⟨k, n⟩ := q; exact ⟨n, .nilIface, h, fun K hK => by obtain rfl := hK k n rfl; exact ⟨hb, rfl⟩⟩
theorem byte_eq (c : UInt8) (n : Nat) (hn : n < 256) : ((c.toNat : Int) == (n : Int)) = (c == UInt8.ofNat n) := by
  rw [Bool.eq_iff_iff, beq_iff_eq, beq_iff_eq, ← UInt8.toNat_inj]
  rw [UInt8.toNat_ofNat', Nat.mod_eq_of_lt hn]
  omega
theorem quoteL_kind {sz p : Nat} {r : List UInt8} : ∀ k n, quoteL sz p r = .ok (k, n) → k = 2 := by
  intro k n h
  unfold quoteL at h
  split at h; · cases h
  split at h; · cases h
  split at h; · cases h
  injection h with h; exact (Prod.mk.inj h).1.symm
theorem commentL_kind {sz p : Nat} {r : List UInt8} : ∀ k n, commentL sz p r = .ok (k, n) → k = 0 := by
  intro k n h
  unfold commentL at h
  split at h
  · split at h
    · cases h
    · injection h with h; exact (Prod.mk.inj h).1.symm
  · cases h
set_option maxRecDepth 100000 in
set_option maxHeartbeats 3200000 in
theorem one_at (s : ByteArray) (hs : s.size ≤ 8192) (p : Nat) (hp : p < s.size) (w : World) (hm : HasMax w) : Calls Tryd.prog 49 #[.string s, .int .i64 p] w (OneEnd w (oneL s.size p (s.data.toList.drop p))) := by
  have HW := Lib.hid (white_any s[p] w)
  have e47 := byte_eq s[p] 47 (by decide)
  have e39 := byte_eq s[p] 39 (by decide)
  have e37 := byte_eq s[p] 37 (by decide)
  have hd := drop_at s p hp
  unfold oneL
  rw [hd]
  simp only
  rw [← hd]
  clear hd
  cases hw : whiteB s[p] with
  | true =>
    rw [hw] at HW
    rw [if_pos rfl]
    have HSP := Lib.hid (span_white s (by omega) p (by omega) w)
    clear hw e47 e39 e37
    go_enter Tryd.func49, Tryd.ntmps49
    go_wp2_with (first
      | (go_at_call 67; refine HW.out.mono ?_; rintro e w' ⟨rfl, rfl⟩)
      | (go_at_call 68; refine HSP.out.mono ?_; rintro e w' ⟨rfl, rfl⟩))
    go_ret3
    exact OneEnd.yesI _ 0 _ _ rfl
  | false =>
  rw [hw] at HW
  rw [if_neg (by decide)]
  clear hw
  by_cases h47 : s[p] = 47
  · rw [if_pos h47]
    have q47 : ((s[p].toNat : Int) == 47) = true := by rw [h47]; rfl
    have HC := Lib.hid (comment_at s hs p hp h47 w hm)
    clear e47 e39 e37 h47
    go_enter Tryd.func49, Tryd.ntmps49
    go_wp2_with (first
      | (go_at_call 67; refine HW.out.mono ?_; rintro e w' ⟨rfl, rfl⟩)
      | (go_at_call 69; refine HC.out.mono ?_; intro e w' hx; obtain ⟨n, v, rfl, hx2⟩ := hx.one; clear hx; have HX := Lib.hid (hx2 0 commentL_kind); clear hx2))
    go_ret3
    exact HX.out
  rw [if_neg h47]
  have q47 : ((s[p].toNat : Int) == 47) = false := by rw [show ((s[p].toNat : Int) == 47) = _ from e47]; exact beq_eq_false_iff_ne.2 h47
  clear e47 h47
  by_cases h39 : s[p] = 39
  · rw [if_pos h39]
    have q39 : ((s[p].toNat : Int) == 39) = true := by rw [h39]; rfl
    have HC := Lib.hid (quoted_at s (by omega) p hp w)
    clear e39 e37 h39
    go_enter Tryd.func49, Tryd.ntmps49
    go_wp2_with (first
      | (go_at_call 67; refine HW.out.mono ?_; rintro e w' ⟨rfl, rfl⟩)
      | (go_at_call 70; refine HC.out.mono ?_; intro e w' hx; obtain ⟨n, v, rfl, hx2⟩ := hx.one; clear hx; have HX := Lib.hid (hx2 2 quoteL_kind); clear hx2))
    go_ret3
    exact HX.out
  rw [if_neg h39]
  have q39 : ((s[p].toNat : Int) == 39) = false := by rw [show ((s[p].toNat : Int) == 39) = _ from e39]; exact beq_eq_false_iff_ne.2 h39
  clear e39 h39
  by_cases h37 : s[p] = 37
  · rw [if_pos h37]
    have q37 : ((s[p].toNat : Int) == 37) = true := by rw [h37]; rfl
    have HC := Lib.hid (mark_at s hs p hp h37 w)
    clear e37 h37
    generalize markL p (s.data.toList.drop (p + 1)) = res at *
    cases res with
    | ok q =>
      obtain ⟨k, n⟩ := q
      go_enter Tryd.func49, Tryd.ntmps49
      go_wp2_with (first
        | (go_at_call 67; refine HW.out.mono ?_; rintro e w' ⟨rfl, rfl⟩)
        | (go_at_call 71; refine HC.out.mono ?_; intro e w' hx; obtain ⟨hb, rfl⟩ := hx; have HX := Lib.hid hb; clear hb))
      go_ret3
      exact ⟨HX.out, rfl⟩
    | error f =>
      go_enter Tryd.func49, Tryd.ntmps49
      go_wp2_with (first
        | (go_at_call 67; refine HW.out.mono ?_; rintro e w' ⟨rfl, rfl⟩)
        | (go_at_call 71; refine HC.out.mono ?_; intro e w' hx; obtain ⟨hb, k, v, rfl, hv⟩ := hx; have HX := Lib.hid hb; have HV := Lib.hid hv; clear hb hv))
      go_ret3
      exact ⟨HX.out, _, _, rfl, HV.out⟩
  rw [if_neg h37]
  have q37 : ((s[p].toNat : Int) == 37) = false := by rw [show ((s[p].toNat : Int) == 37) = _ from e37]; exact beq_eq_false_iff_ne.2 h37
  clear e37 h37
  have HCL := Lib.hid (class_any s[p] w)
  by_cases h4 : classOf s[p] = 4
  · rw [if_pos h4]
    rw [h4] at HCL
    clear h4
    have HSP := Lib.hid (span_gletter s (by omega) p (by omega) w)
    generalize spanBy letB (s.data.toList.drop p) = k at *
    by_cases h24 : 24 < k
    · rw [if_pos h24]
      have q24 : (24 : Int) < (k : Int) := by omega
      clear h24
      go_enter Tryd.func49, Tryd.ntmps49
      go_wp2_with (first
        | (go_at_call 67; refine HW.out.mono ?_; rintro e w' ⟨rfl, rfl⟩)
        | (go_at_call 72; refine HCL.out.mono ?_; rintro e w' ⟨rfl, rfl⟩)
        | (go_at_call 68; refine HSP.out.mono ?_; rintro e w' ⟨rfl, rfl⟩)
        | (go_at_call 36; refine (fnew_at _ rfl _ _).mono ?_; rintro e w' ⟨rfl, rfl⟩))
      go_ret3
      exact OneEnd.errI _ 5 p _ _ rfl
    · rw [if_neg h24]
      have q24 : ¬ (24 : Int) < (k : Int) := by omega
      clear h24
      go_enter Tryd.func49, Tryd.ntmps49
      go_wp2_with (first
        | (go_at_call 67; refine HW.out.mono ?_; rintro e w' ⟨rfl, rfl⟩)
        | (go_at_call 72; refine HCL.out.mono ?_; rintro e w' ⟨rfl, rfl⟩)
        | (go_at_call 68; refine HSP.out.mono ?_; rintro e w' ⟨rfl, rfl⟩))
      go_ret3
      exact OneEnd.yesI _ 1 k _ rfl
  rw [if_neg h4]
  have q4 : ((classOf s[p] : Int) == 4) = false := beq_eq_false_iff_ne.2 (by omega)
  clear h4
  have HS := Lib.hid (sign_any s[p] w)
  generalize classOf s[p] = cl at *
  by_cases h0 : signL s[p] = 0
  · rw [if_neg (by simpa using h0)]
    rw [h0] at HS
    clear h0
    go_enter Tryd.func49, Tryd.ntmps49
    go_wp2_with (first
      | (go_at_call 67; refine HW.out.mono ?_; rintro e w' ⟨rfl, rfl⟩)
      | (go_at_call 72; refine HCL.out.mono ?_; rintro e w' ⟨rfl, rfl⟩)
      | (go_at_call 74; refine HS.out.mono ?_; rintro e w' ⟨rfl, rfl⟩)
      | (go_at_call 36; refine (fnew_at _ rfl _ _).mono ?_; rintro e w' ⟨rfl, rfl⟩))
    go_ret3
    exact OneEnd.errI _ 2 p _ _ rfl
  · rw [if_pos h0]
    generalize signL s[p] = sg at *
    have q0 : ((sg : Int) != 0) = true := bne_iff_ne.2 (by omega)
    clear h0
    go_enter Tryd.func49, Tryd.ntmps49
    go_wp2_with (first
      | (go_at_call 67; refine HW.out.mono ?_; rintro e w' ⟨rfl, rfl⟩)
      | (go_at_call 72; refine HCL.out.mono ?_; rintro e w' ⟨rfl, rfl⟩)
      | (go_at_call 74; refine HS.out.mono ?_; rintro e w' ⟨rfl, rfl⟩))
    go_ret3
    exact OneEnd.yesI _ sg 1 _ rfl
end Go.Proofs.YtnpjhndgdlihjaaDoor

namespace Go.Proofs.YtnpjhndgdlihjaaDoor
open Go.RowKit
set_option linter.unusedVariables false
theorem one_len {sz p : Nat} {l : List UInt8} {k n : Nat} (he : oneL sz p l = .ok (k, n)) (hsz : sz = p + l.length) : n ≤ l.length := by
  unfold oneL at he
  cases l with
  | nil => injection he with he; obtain ⟨rfl, rfl⟩ := Prod.mk.inj he; simp
  | cons c r =>
    simp only at he
    split at he
    · injection he with he
      obtain ⟨rfl, rfl⟩ := Prod.mk.inj he
      exact spanBy_le _ _
    split at he
    · unfold commentL at he
      split at he
      · rename_i h42
        split at he
        · cases he
        · rename_i h0
          injection he with he; obtain ⟨rfl, rfl⟩ := Prod.mk.inj he
          cases r with
          | nil => cases h42
          | cons d t =>
            simp only [List.drop_succ_cons, List.drop_zero] at h0 ⊢
            have hroom : (Lib.index t [42, 47]).toNat + 2 ≤ t.length := by
              rcases Lib.index_spec t [42, 47] with ⟨h1, _⟩ | ⟨i, h1, _, h2, _⟩
              · omega
              · rcases Lib.occAt_room h2 with h3 | h3
                · rw [h1]; simpa using h3
                · cases h3
            simp; omega
      · cases he
    split at he
    · unfold quoteL at he
      split at he; · cases he
      split at he; · cases he
      rename_i h2
      split at he; · cases he
      injection he with he
      obtain ⟨rfl, rfl⟩ := Prod.mk.inj he
      have h2a : r[spanL r]? = some 39 := by
        by_cases h : r[spanL r]? = some 39
        · exact h
        · exact absurd (.inl h) h2
      have hlt : spanL r < r.length := (List.getElem?_eq_some_iff.1 h2a).1
      simp; omega
    split at he
    · have hsp := spanBy_le letB r
      unfold markL at he
      split at he
      · rename_i h37
        injection he with he; obtain ⟨rfl, rfl⟩ := Prod.mk.inj he
        cases r with
        | nil => cases h37
        | cons d t => simp
      split at he
      · injection he with he; obtain ⟨rfl, rfl⟩ := Prod.mk.inj he; simp; omega
      split at he
      · injection he with he; obtain ⟨rfl, rfl⟩ := Prod.mk.inj he; simp; omega
      · cases he
    split at he
    · split at he
      · cases he
      injection he with he
      obtain ⟨rfl, rfl⟩ := Prod.mk.inj he
      exact spanBy_le _ _
    split at he
    · injection he with he
      obtain ⟨rfl, rfl⟩ := Prod.mk.inj he
      simp
    · cases he
/-- A token as it lies. -/
def Tk.cells (t : Tk) : List Value := [.int .i64 t.k, .string (str t.s), .int .i64 t.p]
theorem Tk.cells_len (t : Tk) : t.cells.length = 3 := rfl
theorem Tk.one (l : List Tk) : ∀ u ∈ l.flatMap Tk.cells, u.oneCell' = true := by
  intro u hu
  obtain ⟨t, _, ht⟩ := List.mem_flatMap.1 hu
  simp only [Tk.cells, List.mem_cons, List.not_mem_nil, or_false] at ht
  rcases ht with rfl | rfl | rfl <;> rfl
theorem ElTok : El Tryd.prog 47 60 3 32 := El.of (z := .agg #[.int .i64 0, .string ⟨#[]⟩, .int .i64 0]) Tryd.underlying47 (by kernel_rfl) rfl (by decide)
theorem src_tok (y : World) (a c : Int) (b : ByteArray) : SrcOK (y.alloc (.cells #[.int .i64 a, .string b, .int .i64 c] 60)) (.slice (some ⟨y.heap.size, 0, none⟩) 1 1) 1 3 [.int .i64 a, .string b, .int .i64 c] :=
  SrcOK.blk (c := 1) (Blk.new y 60 #[.int .i64 a, .string b, .int .i64 c]) rfl (by simp [Value.oneCell'])
theorem below_app {B : Nat} {w1 w2 : World} {o : Obj} {T : List TypeId} (h : Keeps B T (w1.alloc o) w2) (hB : B ≤ w1.heap.size) : Below B w1 w2 :=
  ((below_alloc w1 o).mono hB).trans (h.below (by simp; omega))
def prep (acc : List Tk) : Except Flt (List Tk) → Except Flt (List Tk)
  | .ok ts => .ok (acc ++ ts)
  | .error e => .error e
/-- The tokens that are left, behind those that are taken. -/
def TokAt (s : ByteArray) (p : Nat) (acc : List Tk) : Prop := ∃ f, s.size - p < f ∧ toksL s.size (s.size + 1) 0 s.data.toList = prep acc (toksL s.size f p (s.data.toList.drop p))
theorem TokAt.start (s : ByteArray) : TokAt s 0 [] := ⟨s.size + 1, by omega, by
  rw [List.drop_zero]
  generalize toksL s.size (s.size + 1) 0 s.data.toList = r
  cases r <;> rfl⟩
theorem TokAt.last {s : ByteArray} {p : Nat} {acc : List Tk} (h : TokAt s p acc) (hp : p = s.size) : toksL s.size (s.size + 1) 0 s.data.toList = .ok (acc ++ [⟨0, [], s.size⟩]) := by
  obtain ⟨f, hf, h⟩ := h
  subst hp
  rw [h, drop_end]
  cases f with
  | zero => omega
  | succ f => rfl
theorem TokAt.step {s : ByteArray} {p : Nat} {acc : List Tk} (h : TokAt s p acc) (hp : p < s.size) :
    match oneL s.size p (s.data.toList.drop p) with
    | .error e => toksL s.size (s.size + 1) 0 s.data.toList = .error e
    | .ok (k, n) => 0 < n ∧ p + n ≤ s.size ∧ TokAt s (p + n) (if k = 0 then acc else acc ++ [⟨k, (s.data.toList.drop p).take n, p⟩]) := by
  obtain ⟨f, hf, h⟩ := h
  have hlen : (s.data.toList.drop p).length = s.size - p := by rw [List.length_drop, len_size]
  cases f with
  | zero => omega
  | succ f =>
    have hne : (s.data.toList.drop p).isEmpty = false := by
      cases hh : s.data.toList.drop p with
      | nil => rw [hh] at hlen; simp at hlen; omega
      | cons a l => rfl
    cases ho : oneL s.size p (s.data.toList.drop p) with
    | error e =>
      simp only
      rw [h]
      simp only [toksL, hne, ho]
      rfl
    | ok q =>
      obtain ⟨k, n⟩ := q
      simp only
      have h1 := (one_ok ho).2 (by omega)
      have h2 := one_len ho (by omega)
      refine ⟨h1, by omega, f, by omega, ?_⟩
      rw [h]
      simp only [toksL, hne, ho]
      rw [List.drop_drop]
      cases toksL s.size f (p + n) (s.data.toList.drop (p + n)) with
      | error e => rfl
      | ok ts =>
        simp only [prep]
        by_cases hk : k = 0
        · rw [if_pos hk, if_pos hk]; rfl
        · rw [if_neg hk, if_neg hk]; simp
/-- The tokens of a text, or an error. -/
def AllEnd (w : World) (r : Except Flt (List Tk)) (e : Ending) (w' : World) : Prop :=
  Below w.heap.size w w' ∧ match r with
  | .ok ts => ∃ v, e = .returned (.tuple #[v, .nilIface]) ∧ w'.ownsRow w.heap.size 60 3 v ts.length (ts.flatMap Tk.cells)
  | .error f => ∃ v, e = .returned (.tuple #[.slice none 0 0, v]) ∧ ErrAt w' v f
set_option maxRecDepth 100000 in
set_option maxHeartbeats 3200000 in
theorem all_any (s : ByteArray) (hs : s.size ≤ 4611686018427387904) (w : World) (hm : HasMax w) : Calls Tryd.prog 34 #[.string s] w (AllEnd w (tokens s.data.toList)) := by
  unfold tokens
  rw [len_size]
  by_cases hlong : 8192 < s.size
  · rw [if_pos hlong]
    have q1 : (8192 : Int) < (s.size : Int) := by omega
    clear hlong
    go_enter Tryd.func34, Tryd.ntmps34
    go_wp2
    go_step3
    go_wp2_with (go_at_call 36; refine (fnew_at _ rfl _ _).mono ?_; rintro e w' ⟨rfl, rfl⟩)
    rw [Exit.noGoto_ret]
    go_ret2
    exact ⟨below_alloc _ _, _, rfl, ErrAt.new w 5 0⟩
  rw [if_neg hlong]
  have q1 : ¬ (8192 : Int) < (s.size : Int) := by omega
  have hs2 : s.size ≤ 8192 := by omega
  have HM := Lib.hid hm
  clear hlong hm
  go_enter Tryd.func34, Tryd.ntmps34
  go_wp2
  go_step3
  go_wp2
  go_step3
  go_wp2
  go_loopw [4, 5] (fun v i wr => ∃ (p : Nat) (acc : List Tk), p ≤ s.size ∧ i = .int .i64 p ∧ acc.length ≤ p ∧ (∃ A c, v = .slice A acc.length c) ∧ Hid (wr.ownsRow w.heap.size 60 3 v acc.length (acc.flatMap Tk.cells)) ∧ Hid (Below w.heap.size w wr) ∧ Hid (TokAt s p acc)) (fun _ i _ => s.size - (intOf i).toNat)
  case atStart => exact ⟨0, [], Nat.zero_le _, rfl, Nat.le_refl _, ⟨none, 0, rfl⟩, Lib.hid (World.ownsRow_nil _ _ _ _), Lib.hid (Below.refl _ _), Lib.hid (TokAt.start s)⟩
  case round =>
    obtain ⟨p, acc, hp, rfl, hacc, ⟨A, c, rfl⟩, HO, HB, HT⟩ := hrel
    by_cases hlt : p < s.size
    · have hq1 : ¬ (s.size : Int) ≤ (p : Int) := by omega
      have HONE := Lib.hid (one_at s hs2 p hlt wr (HM.out.later HB.out))
      have hstep := HT.out.step hlt
      cases ho : oneL s.size p (s.data.toList.drop p) with
      | error f =>
        rw [ho] at HONE hstep
        have HS := Lib.hid hstep
        clear hstep ho
        go_wp2_with (go_at_call 49; refine HONE.out.mono ?_; intro e w1 hx; obtain ⟨hb, k, v, rfl, hv⟩ := hx; obtain ⟨b, rfl, hk⟩ := hv; have HB1 := Lib.hid hb; have HV := Lib.hid hk; clear hb hk)
        go_ret2
        rw [HS.out]
        exact ⟨HB.out.trans (HB1.out.mono HB.out.size), _, rfl, _, rfl, HV.out⟩
      | ok q =>
        obtain ⟨k, n⟩ := q
        rw [ho] at HONE hstep
        obtain ⟨hn0, hn1, hn2⟩ := hstep
        have HN := Lib.hid hn2
        have b1 : (p : Int) + (n : Int) ≤ (s.size : Int) := by omega
        have hstr : str ((s.data.toList.drop p).take n) = s.extract p (p + n) := by rw [← extract_take, str_data]
        have HSTR := Lib.hid hstr
        clear ho hn2 hstr
        by_cases hk : k = 0
        · subst hk
          have HN2 : Hid (TokAt s (p + n) acc) := Lib.hid HN.out
          go_wp2_with (go_at_call 49; refine HONE.out.mono ?_; intro e w1 hx; obtain ⟨hb, rfl⟩ := hx; have HB1 := Lib.hid hb; clear hb)
          go_roundw
          case rel => exact ⟨p + n, acc, by omega, by go_num, by omega, ⟨_, _, rfl⟩, Lib.hid ((Keeps.of_below (B := 0) (T := []) HB1.out).own HO.out (.inr (by simp))), Lib.hid (HB.out.trans (HB1.out.mono HB.out.size)), HN2⟩
          case measure => simp [intOf]; omega
        · have HN2 : Hid (TokAt s (p + n) (acc ++ [⟨k, (s.data.toList.drop p).take n, p⟩])) := Lib.hid (by have := HN.out; rw [if_neg hk] at this; exact this)
          have q0 : ((k : Int) != 0) = true := bne_iff_ne.2 (by omega)
          clear hk
          go_wp2_with (first
            | (go_at_call 49; refine HONE.out.mono ?_; intro e w1 hx; obtain ⟨hb, rfl⟩ := hx; have HB1 := Lib.hid hb; have HO1 := Lib.hid ((Keeps.of_below (B := 0) (T := []) hb).own HO.out (.inr (by simp))); have hsz1 := HB.out.size; have hsz2 := hb.size; clear hb)
            | (at_builtin; refine wpList_app ElTok (.tmp 29) (.tmp 39) rfl rfl (base := w.heap.size) (n := acc.length) (m := 1) (N := acc.length + 1) (xs := acc.flatMap Tk.cells) (news := [.int .i64 k, .string (s.extract p (p + n)), .int .i64 p]) rfl rfl (HO1.out.alloc _) (src_tok w1 _ _ _) rfl (by unfold maxLen; omega) (by omega) (by simp; omega) ?_; intro A2 c2 w2 r1 r2 r3; have HR1 := Lib.hid r1; have HK2 := Lib.hid (below_app r2 (by omega)); clear r1 r2 r3))
          go_roundw
          case rel =>
            refine ⟨p + n, acc ++ [⟨k, (s.data.toList.drop p).take n, p⟩], by omega, by go_num, by simp; omega, ⟨A2, c2, by simp⟩, Lib.hid ?_, Lib.hid ((HB.out.trans (HB1.out.mono HB.out.size)).trans HK2.out), HN2⟩
            have := HR1.out
            rw [← HSTR.out] at this
            simpa [Tk.cells] using this
          case measure => simp [intOf]; omega
    · have hq1 : (s.size : Int) ≤ (p : Int) := by omega
      obtain rfl : p = s.size := by omega
      have HL := Lib.hid (HT.out.last rfl)
      have hsz1 := HB.out.size
      go_wp2_with (at_builtin; refine wpList_app ElTok (.tmp 44) (.tmp 48) rfl rfl (base := w.heap.size) (n := acc.length) (m := 1) (N := acc.length + 1) (xs := acc.flatMap Tk.cells) (news := [.int .i64 0, .string ⟨#[]⟩, .int .i64 s.size]) rfl rfl (HO.out.alloc _) (src_tok wr _ _ _) rfl (by unfold maxLen; omega) (by omega) (by simp; omega) ?_; intro A2 c2 w2 r1 r2 r3; have HR1 := Lib.hid r1; have HK2 := Lib.hid (below_app r2 (by omega)); clear r1 r2 r3)
      rw [Exit.noGoto_ret]
      go_ret2
      rw [HL.out]
      refine ⟨HB.out.trans HK2.out, _, rfl, ?_⟩
      have := HR1.out
      simpa [Tk.cells, str] using this
end Go.Proofs.YtnpjhndgdlihjaaDoor
