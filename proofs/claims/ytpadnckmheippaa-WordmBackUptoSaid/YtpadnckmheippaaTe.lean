/- The reference's one: is a part right at a place? Its ways, one by one. The reference's param: may it be a parameter? The reference's param with an operator, and what stands behind it. -/
import Derived.Test.YtpadnckmheippaaTd
import Derived.Deep.QuietTactic
import Derived.BigQuiet
namespace Go.Proofs.Ytpadnckmheippaa
open Go.RowKit
set_option linter.unusedVariables false
def partV (k : Int) (t o : ByteArray) (kv cv : Value) : Value := .agg #[.int .i64 k, .string t, .string o, kv, cv]
/-- What a function of this kind says of a boolean. -/
def Says (w : World) (b : Bool) (e : Ending) (w' : World) : Prop := e = .returned (.bool b) ∧ Below w.heap.size w w'
theorem below_box (w : World) (o : Obj) : Below w.heap.size w (w.alloc o) := (Below.refl _ _).alloc (Nat.le_refl _) _
theorem below_boxed {w w' : World} {o : Obj} (h : Below (w.alloc o).heap.size (w.alloc o) w') : Below w.heap.size w w' := (below_box w o).trans (h.mono (by simp))
section
variable {w : World} {k : Int} {t o : ByteArray} {kA cA : Option Addr} {kn kc cn cc : Nat} {p : Nat}
/-- No operator, but at a parameter. -/
theorem one_bad1 (hk : k ≠ 5) (ho : o.toList ≠ []) : Calls Try.prog 31 #[partV k t o (.slice kA kn kc) (.slice cA cn cc), .int .i64 p] w (Says w false) := by
  have h5 : (k != 5) = true := by simpa using hk
  have h1 : (o.toList == []) = false := by simpa using ho
  have h2 : o.toList.isEmpty = false := by simpa using ho
  clear hk ho
  unfold partV
  go_enter Try.func31, Try.ntmps31
  go_wp2
  all_goals go_ret
  all_goals exact ⟨rfl, below_box _ _⟩
/-- No kids, but at a parameter and in double quotes. -/
theorem one_bad2 (hk5 : k ≠ 5) (hk4 : k ≠ 4) (hn : 0 < kn) : Calls Try.prog 31 #[partV k t ByteArray.empty (.slice kA kn kc) (.slice cA cn cc), .int .i64 p] w (Says w false) := by
  have h5 : (k != 5) = true := by simpa using hk5
  have h4 : (k != 4) = true := by simpa using hk4
  clear hk5 hk4
  unfold partV
  go_enter Try.func31, Try.ntmps31
  go_wp2
  all_goals go_ret
  all_goals exact ⟨rfl, below_box _ _⟩
/-- No commands, but there. -/
theorem one_bad3a (hn : 0 < cn) : Calls Try.prog 31 #[partV 5 t o (.slice kA kn kc) (.slice cA cn cc), .int .i64 p] w (Says w false) := by
  unfold partV
  go_enter Try.func31, Try.ntmps31
  go_wp2
  all_goals go_ret
  all_goals exact ⟨rfl, below_box _ _⟩
theorem one_bad3b (hn : 0 < cn) : Calls Try.prog 31 #[partV 4 t ByteArray.empty (.slice kA kn kc) (.slice cA cn cc), .int .i64 p] w (Says w false) := by
  unfold partV
  go_enter Try.func31, Try.ntmps31
  go_wp2
  all_goals go_ret
  all_goals exact ⟨rfl, below_box _ _⟩
theorem one_bad3c (hk5 : k ≠ 5) (hk4 : k ≠ 4) (hk6 : k ≠ 6) (hn : 0 < cn) : Calls Try.prog 31 #[partV k t ByteArray.empty (.slice kA 0 kc) (.slice cA cn cc), .int .i64 p] w (Says w false) := by
  have h5 : (k != 5) = true := by simpa using hk5
  have h4 : (k != 4) = true := by simpa using hk4
  have h6 : (k != 6) = true := by simpa using hk6
  clear hk5 hk4 hk6
  unfold partV
  go_enter Try.func31, Try.ntmps31
  go_wp2
  all_goals go_ret
  all_goals exact ⟨rfl, below_box _ _⟩
/-- No such kind. -/
theorem one_none (h1 : k ≠ 1) (h2 : k ≠ 2) (h3 : k ≠ 3) (hk4 : k ≠ 4) (hk5 : k ≠ 5) (h6 : k ≠ 6) (h7 : k ≠ 7) : Calls Try.prog 31 #[partV k t ByteArray.empty (.slice kA 0 kc) (.slice cA 0 cc), .int .i64 p] w (Says w false) := by
  have g5 : (k != 5) = true := by simpa using hk5
  have g4 : (k != 4) = true := by simpa using hk4
  have g6 : (k != 6) = true := by simpa using h6
  have f1 : (k == 1) = false := by simpa using h1
  have f2 : (k == 2) = false := by simpa using h2
  have f3 : (k == 3) = false := by simpa using h3
  have f4 : (k == 4) = false := by simpa using hk4
  have f5 : (k == 5) = false := by simpa using hk5
  have f6 : (k == 6) = false := by simpa using h6
  have f7 : (k == 7) = false := by simpa using h7
  clear h1 h2 h3 hk4 hk5 h6 h7
  unfold partV
  go_enter Try.func31, Try.ntmps31
  go_wp2
  all_goals go_ret
  all_goals exact ⟨rfl, below_box _ _⟩
theorem one_lit {b : Bool} (h : ∀ y, Calls Try.prog 54 #[.string t, .int .i64 p] y fun e w' => e = .returned (.bool b) ∧ y = w') :
    Calls Try.prog 31 #[partV 1 t ByteArray.empty (.slice kA 0 kc) (.slice cA 0 cc), .int .i64 p] w (Says w b) := by
  have H := Lib.hid h
  clear h
  unfold partV
  go_enter Try.func31, Try.ntmps31
  go_wp2_with (go_at_call 54; refine (H.out _).mono ?_; rintro e w' ⟨rfl, rfl⟩)
  all_goals go_ret
  all_goals exact ⟨rfl, below_box _ _⟩
theorem one_arith {b : Bool} (h : ∀ y, Calls Try.prog 58 #[.string t] y fun e w' => e = .returned (.bool b) ∧ y = w') :
    Calls Try.prog 31 #[partV 7 t ByteArray.empty (.slice kA 0 kc) (.slice cA 0 cc), .int .i64 p] w (Says w b) := by
  have H := Lib.hid h
  clear h
  unfold partV
  go_enter Try.func31, Try.ntmps31
  go_wp2_with (go_at_call 58; refine (H.out _).mono ?_; rintro e w' ⟨rfl, rfl⟩)
  all_goals go_ret
  all_goals exact ⟨rfl, below_box _ _⟩
theorem one_single {b : Bool} (h : ∀ y, Calls Try.prog 56 #[.string t, .int .u8 39] y fun e w' => e = .returned (.bool b) ∧ y = w') :
    Calls Try.prog 31 #[partV 3 t ByteArray.empty (.slice kA 0 kc) (.slice cA 0 cc), .int .i64 p] w (Says w (p != 1 && b)) := by
  have H := Lib.hid h
  clear h
  unfold partV
  by_cases hp : p = 1
  · subst hp
    go_enter Try.func31, Try.ntmps31
    go_wp2
    all_goals go_ret
    all_goals exact ⟨rfl, below_box _ _⟩
  · have hp1 : ((p : Int) != 1) = true := by simp; omega
    have hp2 : (p != 1) = true := by simpa using hp
    rw [hp2, Bool.true_and]
    clear hp hp2
    go_enter Try.func31, Try.ntmps31
    go_wp2_with (go_at_call 56; refine (H.out _).mono ?_; rintro e w' ⟨rfl, rfl⟩)
    all_goals go_ret
    all_goals exact ⟨rfl, below_box _ _⟩
theorem one_cmd : Calls Try.prog 31 #[partV 6 t ByteArray.empty (.slice kA 0 kc) (.slice cA cn cc), .int .i64 p] w (Says w (t.toList.isEmpty)) := by
  unfold partV
  go_enter Try.func31, Try.ntmps31
  go_wp2
  all_goals go_ret
  all_goals exact ⟨by simp [*], below_box _ _⟩
theorem one_esc1 (ht : t.size ≠ 1) : Calls Try.prog 31 #[partV 2 t ByteArray.empty (.slice kA 0 kc) (.slice cA 0 cc), .int .i64 p] w (Says w false) := by
  have h1 : ((t.size : Int) == 1) = false := by simp; omega
  clear ht
  unfold partV
  go_enter Try.func31, Try.ntmps31
  go_wp2
  all_goals go_ret
  all_goals exact ⟨by simp [*], below_box _ _⟩
theorem one_esc (h0 : 0 < t.size) (h1 : ((t.size : Int) == 1) = true) (h : ∀ y, Calls Try.prog 55 #[.int .u8 t[0].toNat] y fun e w' => e = .returned (.bool (quotes t[0])) ∧ y = w') : Calls Try.prog 31 #[partV 2 t ByteArray.empty (.slice kA 0 kc) (.slice cA 0 cc), .int .i64 p] w
    (Says w (!((t[0].toNat : Int) == 0) && !((t[0].toNat : Int) == 10) && (!((p : Int) == 1) || quotes t[0]))) := by
  have H := Lib.hid h
  clear h
  unfold partV
  generalize quotes t[0] = b at *
  generalize (p : Int) = P at *
  go_enter Try.func31, Try.ntmps31
  go_wp2_with (go_at_call 55; refine (H.out _).mono ?_; rintro e w' ⟨rfl, rfl⟩)
  all_goals go_ret
  all_goals exact ⟨by first | (simp [*]; done) | (simp [*]; rfl) | (simp [*]; rw [show (P == 1) = false from beq_eq_false_iff_ne.2 (by assumption)]; simp [bne]), below_box _ _⟩
theorem one_double {b : Bool} (h : ∀ y, Below w.heap.size w y → Calls Try.prog 24 #[.slice kA kn kc, .int .i64 1] y (Says y b)) :
    Calls Try.prog 31 #[partV 4 t ByteArray.empty (.slice kA kn kc) (.slice cA 0 cc), .int .i64 p] w (Says w (!((p : Int) == 1) && t.toList.isEmpty && b)) := by
  have H := Lib.hid h
  clear h
  unfold partV
  generalize (p : Int) = P at *
  go_enter Try.func31, Try.ntmps31
  go_wp2_with (go_at_call 24; refine (H.out _ (below_box _ _)).mono ?_; rintro e w' ⟨rfl, hb⟩; have HB := Lib.hid (below_boxed hb); clear hb)
  all_goals go_ret
  all_goals exact ⟨by first | (simp [*]; done) | (simp [*]; rfl), by first | exact below_box _ _ | exact HB.out⟩
theorem one_param {b : Bool} (h : ∀ y, Below w.heap.size w y → Calls Try.prog 57 #[partV 5 t o (.slice kA kn kc) (.slice cA 0 cc)] y (Says y b)) :
    Calls Try.prog 31 #[partV 5 t o (.slice kA kn kc) (.slice cA 0 cc), .int .i64 p] w (Says w b) := by
  have H := Lib.hid h
  clear h
  unfold partV at *
  go_enter Try.func31, Try.ntmps31
  go_wp2_with (go_at_call 57; refine (H.out _ (below_box _ _)).mono ?_; rintro e w' ⟨rfl, hb⟩; have HB := Lib.hid (below_boxed hb); clear hb)
  all_goals go_ret
  all_goals exact ⟨rfl, HB.out⟩
end
end Go.Proofs.Ytpadnckmheippaa

namespace Go.Proofs.Ytpadnckmheippaa
open Go.RowKit
set_option linter.unusedVariables false
section
variable {w : World} {k : Int} {t o : ByteArray} {kA cA : Option Addr} {kn kc cn cc : Nat}
/-- What the three functions say of the name. -/
structure Named (t : ByteArray) : Prop where
  name : ∀ y, Calls Try.prog 82 #[.string t] y fun e w' => e = .returned (.bool (nameB t.data.toList)) ∧ y = w'
  digits : ∀ y, Calls Try.prog 83 #[.string t] y fun e w' => e = .returned (.bool (digitsB t.data.toList)) ∧ y = w'
  special : ∀ c y, Calls Try.prog 84 #[.int .u8 (c : UInt8).toNat] y fun e w' => e = .returned (.bool (special c)) ∧ y = w'
theorem head_at (t : ByteArray) (h : 0 < t.size) : t.data.toList.headD 0 = t[0] := by
  cases hl : t.data.toList with
  | nil =>
    have : t.data.toList.length = t.size := by simp
    rw [hl] at this
    simp at this
    omega
  | cons a l =>
    have h1 : t.data.toList[0]? = some a := by rw [hl]; rfl
    have h2 : t.data.toList[0]? = some t[0] := by
      rw [Array.getElem?_toList]
      exact Array.getElem?_eq_getElem h
    rw [h1] at h2
    cases h2
    rfl
theorem len_size (t : ByteArray) : t.data.toList.length = t.size := by simp
theorem param_no (H : Named t) (hf : paramText t.data.toList = false) : Calls Try.prog 57 #[partV k t o (.slice kA kn kc) (.slice cA cn cc)] w (Says w false) := by
  have HN := Lib.hid H.name
  have HD := Lib.hid H.digits
  have HS := Lib.hid H.special
  unfold paramText at hf
  simp only [Bool.or_eq_false_iff] at hf
  obtain ⟨⟨h1, h2⟩, h3⟩ := hf
  rw [h1] at HN
  rw [h2] at HD
  clear H h1 h2
  unfold partV
  by_cases hz : t.size = 1
  · have h0 : 0 < t.size := by omega
    have hs : special (t[0]'(by omega)) = false := by
      rw [len_size, head_at t h0, hz] at h3
      simpa using h3
    have hz1 : ((t.size : Int) != 1) = false := by simp; omega
    have HS2 := Lib.hid (HS.out (t[0]'(by omega)))
    rw [hs] at HS2
    clear HS hs h3 hz
    go_enter Try.func57, Try.ntmps57
    go_wp2_with (first
      | (go_at_call 82; refine (HN.out _).mono ?_; rintro e w' ⟨rfl, rfl⟩)
      | (go_at_call 83; refine (HD.out _).mono ?_; rintro e w' ⟨rfl, rfl⟩)
      | (go_at_call 84; refine (HS2.out _).mono ?_; rintro e w' ⟨rfl, rfl⟩))
    all_goals go_ret
    all_goals exact ⟨rfl, below_box _ _⟩
  · have hz1 : ((t.size : Int) != 1) = true := by simp; omega
    clear HS h3 hz
    go_enter Try.func57, Try.ntmps57
    go_wp2_with (first
      | (go_at_call 82; refine (HN.out _).mono ?_; rintro e w' ⟨rfl, rfl⟩)
      | (go_at_call 83; refine (HD.out _).mono ?_; rintro e w' ⟨rfl, rfl⟩))
    all_goals go_ret
    all_goals exact ⟨rfl, below_box _ _⟩
/-- The ways in which a name is one, as the walk takes them. -/
inductive NameWay (t : ByteArray) : Prop where
  | name (h : ∀ y, Calls Try.prog 82 #[.string t] y fun e w' => e = .returned (.bool true) ∧ y = w')
  | digits (h : ∀ y, Calls Try.prog 82 #[.string t] y fun e w' => e = .returned (.bool false) ∧ y = w') (h2 : ∀ y, Calls Try.prog 83 #[.string t] y fun e w' => e = .returned (.bool true) ∧ y = w')
  | special (h : ∀ y, Calls Try.prog 82 #[.string t] y fun e w' => e = .returned (.bool false) ∧ y = w') (h2 : ∀ y, Calls Try.prog 83 #[.string t] y fun e w' => e = .returned (.bool false) ∧ y = w')
      (h0 : 0 < t.size) (h1 : ((t.size : Int) != 1) = false) (h3 : ∀ y, Calls Try.prog 84 #[.int .u8 t[0].toNat] y fun e w' => e = .returned (.bool true) ∧ y = w')
theorem name_way (H : Named t) (hf : paramText t.data.toList = true) : NameWay t := by
  have HN := H.name
  have HD := H.digits
  by_cases h1 : nameB t.data.toList = true
  · rw [h1] at HN; exact .name HN
  · have h1' : nameB t.data.toList = false := by simpa using h1
    rw [h1'] at HN
    by_cases h2 : digitsB t.data.toList = true
    · rw [h2] at HD; exact .digits HN HD
    · have h2' : digitsB t.data.toList = false := by simpa using h2
      rw [h2'] at HD
      unfold paramText at hf
      rw [h1', h2', Bool.false_or, Bool.false_or, Bool.and_eq_true, len_size] at hf
      obtain ⟨h3, h4⟩ := hf
      have hz : t.size = 1 := by simpa using h3
      have h0 : 0 < t.size := by omega
      rw [head_at t h0] at h4
      refine .special HN HD h0 (by simp; omega) ?_
      have := H.special (t[0]'(by omega))
      rw [h4] at this
      exact this
/-- No operator, or the length. -/
theorem param_short (H : NameWay t) (ho : o = ⟨#[]⟩ ∨ o = ⟨#[108, 101, 110]⟩) : Calls Try.prog 57 #[partV k t o (.slice kA kn kc) (.slice cA cn cc)] w (Says w ((kn : Int) == 0)) := by
  unfold partV
  rcases ho with rfl | rfl
  all_goals
    rcases H with h | ⟨h, h2⟩ | ⟨h, h2, h0, h1, h3⟩
    · have HN := Lib.hid h
      clear h
      go_enter Try.func57, Try.ntmps57
      go_wp2_with (go_at_call 82; refine (HN.out _).mono ?_; rintro e w' ⟨rfl, rfl⟩)
      all_goals go_ret
      all_goals exact ⟨by first | rfl | simp [*], below_box _ _⟩
    · have HN := Lib.hid h
      have HD := Lib.hid h2
      clear h h2
      go_enter Try.func57, Try.ntmps57
      go_wp2_with (first
        | (go_at_call 82; refine (HN.out _).mono ?_; rintro e w' ⟨rfl, rfl⟩)
        | (go_at_call 83; refine (HD.out _).mono ?_; rintro e w' ⟨rfl, rfl⟩))
      all_goals go_ret
      all_goals exact ⟨by first | rfl | simp [*], below_box _ _⟩
    · have HN := Lib.hid h
      have HD := Lib.hid h2
      have HS := Lib.hid h3
      clear h h2 h3
      go_enter Try.func57, Try.ntmps57
      go_wp2_with (first
        | (go_at_call 82; refine (HN.out _).mono ?_; rintro e w' ⟨rfl, rfl⟩)
        | (go_at_call 83; refine (HD.out _).mono ?_; rintro e w' ⟨rfl, rfl⟩)
        | (go_at_call 84; refine (HS.out _).mono ?_; rintro e w' ⟨rfl, rfl⟩))
      all_goals go_ret
      all_goals exact ⟨by first | rfl | simp [*], below_box _ _⟩
end
end Go.Proofs.Ytpadnckmheippaa

namespace Go.Proofs.Ytpadnckmheippaa
open Go.RowKit
set_option linter.unusedVariables false
section
variable {w : World} {k : Int} {t o : ByteArray} {kA cA : Option Addr} {kn kc cn cc : Nat} {b : Bool}
theorem txt_ne {o : ByteArray} {l : List UInt8} (h : o.toList ≠ l) : (o.toList == l) = false := beq_eq_false_iff_ne.2 h
theorem txt_ne0 {o : ByteArray} (h : o.toList ≠ []) : o.toList.isEmpty = false := by simpa using h
theorem below_two {w y z : World} {o : Obj} (h : Below (w.alloc o).heap.size (w.alloc o) y) (h2 : Below y.heap.size y z) : Below w.heap.size w z :=
  (below_boxed h).trans (h2.mono (below_boxed h).size)
/-- The cells of the boxed part behind a call. -/
theorem box_cells {w w1 : World} {a0 a1 a2 a3 a4 : Value} (h : Below (w.alloc (.cells #[a0, a1, a2, a3, a4] 48)).heap.size (w.alloc (.cells #[a0, a1, a2, a3, a4] 48)) w1) :
    w1.cell? ⟨w.heap.size, 1, none⟩ = some a1 ∧ w1.cell? ⟨w.heap.size, 2, none⟩ = some a2 ∧ w1.cell? ⟨w.heap.size, 3, none⟩ = some a3 ∧ w.heap.size < w1.heap.size :=
  ⟨(h.cell (p := ⟨w.heap.size, 1, none⟩) (by simp)).trans ((Blk.new w 48 _).cell 1), (h.cell (p := ⟨w.heap.size, 2, none⟩) (by simp)).trans ((Blk.new w 48 _).cell 2), (h.cell (p := ⟨w.heap.size, 3, none⟩) (by simp)).trans ((Blk.new w 48 _).cell 3), by have := h.size; simp at this; omega⟩
theorem below_draws {B : Nat} {w w' : World} (h : Below B w w') (n : Nat) : Below B w (w'.drewN n) := ⟨h.os, h.tape, h.output, h.size, h.block⟩
theorem front_eq {t0 : ByteArray} (h : 0 < t0.size) (q : UInt8) (k : Int) (hk : k = q.toNat) : ((t0[0].toNat : Int) != k) = (((1 : Int) != 1) || (t0.data.toList.headD 0 != q)) := by
  subst hk
  rw [head_at t0 h, show (((1 : Int) != 1) = false) from rfl, Bool.false_or, bne, bne, byte_test]
theorem param_op_no (H : NameWay t) (ho : o.toList ≠ []) (hl : o.toList ≠ [108, 101, 110]) (h : ∀ y, Calls Try.prog 85 #[.string o] y (Says y false)) :
    Calls Try.prog 57 #[partV k t o (.slice kA kn kc) (.slice cA cn cc)] w (Says w false) := by
  have e1 := txt_ne0 ho
  have e2 := txt_ne hl
  have HO := Lib.hid h
  clear h hl
  unfold partV
  rcases H with h | ⟨h, h2⟩ | ⟨h, h2, h0, h1, h3⟩
  all_goals (have HN := Lib.hid h; clear h)
  any_goals (have HD := Lib.hid h2; clear h2)
  any_goals (have HS := Lib.hid h3; clear h3)
  all_goals
    go_enter Try.func57, Try.ntmps57
    go_wp2_with (first
      | (go_at_call 82; refine (HN.out _).mono ?_; rintro e w' ⟨rfl, rfl⟩)
      | (go_at_call 83; refine (HD.out _).mono ?_; rintro e w' ⟨rfl, rfl⟩)
      | (go_at_call 84; refine (HS.out _).mono ?_; rintro e w' ⟨rfl, rfl⟩)
      | (go_at_call 85; refine (HO.out _).mono ?_; rintro e w' ⟨rfl, hb⟩; have HB := Lib.hid (below_boxed hb); clear hb))
    all_goals go_ret
    all_goals exact ⟨rfl, HB.out⟩
theorem param_op_hash (H : NameWay t) (ht : t.toList = [35]) (ho : o.toList ≠ []) (hl : o.toList ≠ [108, 101, 110]) (h : ∀ y, Calls Try.prog 85 #[.string o] y (Says y true)) :
    Calls Try.prog 57 #[partV k t o (.slice kA kn kc) (.slice cA cn cc)] w (Says w false) := by
  have e1 := txt_ne0 ho
  have e2 := txt_ne hl
  have HO := Lib.hid h
  clear h hl
  unfold partV
  rcases H with h | ⟨h, h2⟩ | ⟨h, h2, h0, h1, h3⟩
  all_goals (have HN := Lib.hid h; clear h)
  any_goals (have HD := Lib.hid h2; clear h2)
  any_goals (have HS := Lib.hid h3; clear h3)
  all_goals
    go_enter Try.func57, Try.ntmps57
    go_wp2_with (first
      | (go_at_call 82; refine (HN.out _).mono ?_; rintro e w' ⟨rfl, rfl⟩)
      | (go_at_call 83; refine (HD.out _).mono ?_; rintro e w' ⟨rfl, rfl⟩)
      | (go_at_call 84; refine (HS.out _).mono ?_; rintro e w' ⟨rfl, rfl⟩)
      | (go_at_call 85; refine (HO.out _).mono ?_; rintro e w1 ⟨rfl, hb⟩; obtain ⟨c1, c2, c3, c4⟩ := box_cells hb; have HB := Lib.hid (below_boxed hb); clear hb))
    all_goals go_ret
    all_goals exact ⟨rfl, HB.out⟩
set_option maxHeartbeats 1600000 in
theorem param_op_kids (H : NameWay t) (ht : t.toList ≠ [35]) (ho : o.toList ≠ []) (hl : o.toList ≠ [108, 101, 110]) (h : ∀ y, Calls Try.prog 85 #[.string o] y (Says y true))
    (hall : ∀ y, Below w.heap.size w y → Calls Try.prog 24 #[.slice kA kn kc, .int .i64 2] y (Says y b)) (hk : b = false ∨ (b = true ∧ kn = 0) ∨ (b = true ∧ o.toList ≠ [37] ∧ o.toList ≠ [35])) :
    Calls Try.prog 57 #[partV k t o (.slice kA kn kc) (.slice cA cn cc)] w (Says w b) := by
  have e1 := txt_ne0 ho
  have e2 := txt_ne hl
  have e3 := txt_ne ht
  have HO := Lib.hid h
  have HA := Lib.hid hall
  clear h hl ht hall
  unfold partV
  rcases H with h | ⟨h, h2⟩ | ⟨h, h2, h0, h1, h3⟩
  all_goals (have HN := Lib.hid h; clear h)
  any_goals (have HD := Lib.hid h2; clear h2)
  any_goals (have HS := Lib.hid h3; clear h3)
  all_goals
    rcases hk with rfl | ⟨rfl, rfl⟩ | ⟨rfl, hk1, hk2⟩
    all_goals (try (have e4 := txt_ne hk1; have e5 := txt_ne hk2; clear hk1 hk2))
    all_goals
      go_enter Try.func57, Try.ntmps57
      go_wp2_with (first
        | (go_at_call 82; refine (HN.out _).mono ?_; rintro e w' ⟨rfl, rfl⟩)
        | (go_at_call 83; refine (HD.out _).mono ?_; rintro e w' ⟨rfl, rfl⟩)
        | (go_at_call 84; refine (HS.out _).mono ?_; rintro e w' ⟨rfl, rfl⟩)
        | (go_at_call 85; refine (HO.out _).mono ?_; rintro e w1 ⟨rfl, hb⟩; obtain ⟨c1, c2, c3, c4⟩ := box_cells hb; have HB := Lib.hid (below_boxed hb); clear hb))
      refine (HA.out _ HB.out).mono ?_
      rintro e w2 ⟨rfl, hb⟩
      have HB2 := Lib.hid (HB.out.trans (hb.mono HB.out.size))
      have d2 := (hb.cell (p := ⟨w.heap.size, 2, none⟩) c4).trans c2
      have d3 := (hb.cell (p := ⟨w.heap.size, 3, none⟩) c4).trans c3
      clear hb c1 c2 c3
      go_wp2
      all_goals go_ret
      all_goals exact ⟨by first | rfl | simp [*], HB2.out⟩
set_option maxHeartbeats 3200000 in
/-- The first kid is asked. -/
theorem param_op_front (H : NameWay t) (ht : t.toList ≠ [35]) (q : UInt8) (hq : q = 37 ∨ q = 35) (h : ∀ y, Calls Try.prog 85 #[.string ⟨#[q]⟩] y (Says y true)) (kb ko : Nat) (hn : 0 < kn) (k0 : Int) (t0 : ByteArray)
    (hall : ∀ y, Below w.heap.size w y → Calls Try.prog 24 #[.slice (some ⟨kb, ko, none⟩) kn kc, .int .i64 2] y (Says y true))
    (hkb : kb < w.heap.size) (hk0 : w.cell? ⟨kb, ko, none⟩ = some (.int .i64 k0)) (hk1 : w.cell? ⟨kb, ko + 1, none⟩ = some (.string t0)) (ht0 : k0 = 1 → 0 < t0.size) :
    Calls Try.prog 57 #[partV k t ⟨#[q]⟩ (.slice (some ⟨kb, ko, none⟩) kn kc) (.slice cA cn cc)] w (Says w (k0 != 1 || (t0.data.toList.headD 0 != q))) := by
  have e3 := txt_ne ht
  have HO := Lib.hid h
  have HA := Lib.hid hall
  clear h ht hall
  unfold partV
  rcases H with h | ⟨h, h2⟩ | ⟨h, h2, h0, h1, h3⟩
  all_goals (have HN := Lib.hid h; clear h)
  any_goals (have HD := Lib.hid h2; clear h2)
  any_goals (have HS := Lib.hid h3; clear h3)
  all_goals
    rcases hq with rfl | rfl
    all_goals
      go_enter Try.func57, Try.ntmps57
      go_wp2_with (first
        | (go_at_call 82; refine (HN.out _).mono ?_; rintro e w' ⟨rfl, rfl⟩)
        | (go_at_call 83; refine (HD.out _).mono ?_; rintro e w' ⟨rfl, rfl⟩)
        | (go_at_call 84; refine (HS.out _).mono ?_; rintro e w' ⟨rfl, rfl⟩)
        | (go_at_call 85; refine (HO.out _).mono ?_; rintro e w1 ⟨rfl, hb⟩; obtain ⟨c1, c2, c3, c4⟩ := box_cells hb; have HB := Lib.hid (below_boxed hb); clear hb))
      refine (HA.out _ HB.out).mono ?_
      rintro e w2 ⟨rfl, hb⟩
      have HB2 := Lib.hid (HB.out.trans (hb.mono HB.out.size))
      have d2 := (hb.cell (p := ⟨w.heap.size, 2, none⟩) c4).trans c2
      have d3 := (hb.cell (p := ⟨w.heap.size, 3, none⟩) c4).trans c3
      have d0 := (HB2.out.cell (p := ⟨kb, ko, none⟩) hkb).trans hk0
      have d1 := (HB2.out.cell (p := ⟨kb, ko + 1, none⟩) hkb).trans hk1
      clear hb c1 c2 c3
      by_cases hk : k0 = 1
      · subst hk
        have hz := ht0 rfl
        clear ht0
        go_wp2
        go_quiet (fail)
        go_wp2
        all_goals go_ret
        all_goals exact ⟨ret_bool (front_eq hz _ _ rfl), below_draws HB2.out _⟩
      · have hk2 : (k0 != 1) = true := by simpa using hk
        clear hk ht0
        go_wp2
        go_quiet (fail)
        go_wp2
        all_goals go_ret
        all_goals exact ⟨ret_bool (by rw [hk2, Bool.true_or]), below_draws HB2.out _⟩
end
end Go.Proofs.Ytpadnckmheippaa
