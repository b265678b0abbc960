/- The states of the word machine: again, operator, opened. -/
import Derived.Test.YtpadnckmheippaaS3
namespace Go.Proofs.Ytpadnckmheippaa
open Go.RowKit
set_option linter.unusedVariables false
section
variable {w w1 : World} {B : Bs} {g : Nat} {nx : Value} {x : MR}
theorem Now.before {x1 : MR} {m : MS} {w' : World} (s : Step (x.foot g) w (x1.foot g) w1) (h : Now w1 B g x1 m w') : Now w B g x m w' := by
  obtain ⟨y, h1, h2, h3⟩ := h
  exact ⟨y, h1, h2, s.trans h3⟩
set_option maxHeartbeats 800000 in
theorem again_text (h : MRep w B g nx x) (hz : x.ms.sz ≤ 900000) (hwf : x.ms.wf) (c : UInt8) :
    Calls Try.prog 72 #[.pointer (some ⟨g, 0, none⟩), .int .i64 0, .int .u8 c.toNat] w (Took w B g x ((x.ms.turn 0).text c)) := by
  have H0 := Lib.hid h
  clear h
  go_enter Try.func72, Try.ntmps72
  go_wp2_with fail
  refine (turn_any H0.out 0 (by omega)).mono ?_
  rintro e w1 ⟨rfl, h1, s1⟩
  have n0 := h1.blk.cell 1
  simp only [MR.cells, nextVal, List.getElem?_toArray, List.getElem?_cons_zero, List.getElem?_cons_succ] at n0
  have H1 := Lib.hid h1
  have S1 := Lib.hid s1
  clear h1 s1
  go_wp2_with fail
  refine (text_any (x := { x with kind := 0 }) H1.out hz hwf c).mono ?_
  rintro e w2 ⟨rfl, h2⟩
  have HF := Lib.hid (h2.before S1.out)
  clear h2
  go_wp2
  go_ret
  exact ⟨rfl, HF.out⟩
set_option maxHeartbeats 800000 in
theorem operator_any (h : MRep w B g nx x) (hz : x.ms.sz ≤ 900000) (op : List UInt8) :
    Calls Try.prog 75 #[.pointer (some ⟨g, 0, none⟩), .string ⟨op.toArray⟩] w (Took w B g x (x.ms.operator op, 0)) := by
  obtain ⟨z1, z2, z3, z4, z5, z6, z7, z8⟩ := x.sizes hz
  have hB := h.bufOwn
  obtain ⟨BA, Bc, hBv⟩ := own_val hB
  have b0 := h.blk.cell 7
  simp only [MR.cells, List.getElem?_toArray, List.getElem?_cons_zero, List.getElem?_cons_succ, hBv] at b0
  rw [hBv] at hB
  have cv0 := conv_own (P := Try.prog) (y := w) Try.underlying55 Try.underlying5 Try.underlying9 hB
  have H0 := Lib.hid h
  clear h hB hBv
  go_enter Try.func75, Try.ntmps75
  go_wp2_with fail
  refine (push_any H0.out (by omega) 2 x.buf op).mono ?_
  rintro e w2 ⟨rfl, h2⟩
  have HF := Lib.hid h2
  clear h2
  go_wp2
  go_ret
  exact ⟨rfl, HF.out⟩
set_option maxHeartbeats 800000 in
theorem opened_any (h : MRep w B g (nextVal x.kind g) x) (c : UInt8) :
    Calls Try.prog 39 #[.pointer (some ⟨g, 0, none⟩), .int .u8 c.toNat] w (Took w B g x (x.ms.opened c)) := by
  have q7 := h.blk.cell 7
  have q8 := h.blk.cell 8
  have f7 := h.blk.frozen 7
  have f8 := h.blk.frozen 8
  simp only [MR.cells, List.getElem?_toArray, List.getElem?_cons_zero, List.getElem?_cons_succ] at q7 q8
  have hb := h.bufNil
  have hd := MRep.field (x' := { x with buf := [], vbuf := .slice none 0 0, deep := 0 }) hb.1 8 (.int .i64 0) rfl rfl rfl
  have H0 := Lib.hid h
  have HB := Lib.hid hb
  have HD := Lib.hid hd
  clear h hb hd
  have hop : x.ms.opened c = if c.toNat = 40 then (({ x.ms with buf := [], deep := 0 }).turn 13, 0) else (x.ms.turn 15, 2) := by
    unfold MS.opened
    simp only [u8_eq]
    rfl
  go_enter Try.func39, Try.ntmps39
  go_wp2_with (first
    | (go_at_call 68; refine (goes_any HD.out.1 13 (by omega)).mono ?_; rintro e w3 ⟨rfl, h3, s3⟩
       have HF : Hid (Now w B g x (({ x.ms with buf := [], deep := 0 }).turn 13) w3) := Lib.hid ⟨{ x with buf := [], vbuf := .slice none 0 0, deep := 0, kind := 13 }, h3, rfl, (HB.out.2.trans HD.out.2).trans s3⟩
       clear h3 s3)
    | (go_at_call 29; refine (turn_any H0.out 15 (by omega)).mono ?_; rintro e w3 ⟨rfl, h3, s3⟩
       have HF : Hid (Now w B g x (x.ms.turn 15) w3) := Lib.hid ⟨{ x with kind := 15 }, h3, rfl, s3⟩
       clear h3 s3))
  all_goals go_ret
  all_goals (
    try simp only [beq_iff_eq, beq_eq_false_iff_ne] at *
    rw [hop]
    repeat (first | rw [if_pos (by omega)] | rw [if_neg (by omega)])
    exact ⟨rfl, HF.out⟩)
end
end Go.Proofs.Ytpadnckmheippaa
