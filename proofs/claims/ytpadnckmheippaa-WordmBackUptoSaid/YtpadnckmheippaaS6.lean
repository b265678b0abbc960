/- The states of the word machine: head, hash, arithEnd, bare. -/
import Derived.Test.YtpadnckmheippaaS5
namespace Go.Proofs.Ytpadnckmheippaa
open Go.RowKit
set_option linter.unusedVariables false
section
variable {w w1 : World} {B : Bs} {g : Nat} {nx : Value} {x : MR}
theorem add_leaf (h : MRep w B g nx x) (hz : x.ms.sz ≤ 900000) (k : Nat) (t o : List UInt8) :
    Calls Try.prog 28 #[.pointer (some ⟨g, 0, none⟩), .agg #[.int .i64 k, .string ⟨t.toArray⟩, .string ⟨o.toArray⟩, .slice none 0 0, .slice none 0 0]] w fun e w' => e = .returned (.tuple #[]) ∧ Turns w B g x nx (x.ms.add (.mk k t o [] noCmds)) w' := by
  obtain ⟨z1, z2, z3, z4, z5, z6, z7, z8⟩ := x.sizes hz
  exact add_any h (by omega) (by omega) (by omega) (.mk k t o [] noCmds) none 0 0 none 0 0 rfl .nil
theorem now_turns {x1 y : MR} {m : MS} {w2 w3 : World} {k : Nat} (s1 : Step (x.foot g) w (x1.foot g) w1) (h2 : y.ms = m) (s2 : Step (x1.foot g) w1 (y.foot g) w2) (h3 : MRep w3 B g (nextVal k g) { y with kind := k }) (s3 : Step (y.foot g) w2 (y.foot g) w3) : Now w B g x (m.turn k) w3 :=
  ⟨{ y with kind := k }, h3, by rw [← h2]; rfl, (s1.trans s2).trans s3⟩
theorem MRep.len (h : MRep w B g nx x) (v : Bool) : MRep (w.setCell ⟨g, 9, none⟩ (.bool v)) B g nx { x with length := v } ∧ Step (x.foot g) w (MR.foot { x with length := v } g) (w.setCell ⟨g, 9, none⟩ (.bool v)) :=
  MRep.field (x' := { x with length := v }) h 9 (.bool v) rfl rfl rfl
theorem MS.hash_nat (m : MS) (c : UInt8) : m.hash c = if c.toNat = 125 then ((m.add (.leaf 5 [35])).turn 0, 0) else m.parameter c := by unfold MS.hash; simp only [u8_eq]; rfl
theorem MS.head_nat (m : MS) (c : UInt8) : m.head c = if c.toNat = 35 then (({ m with length := true }).turn 6, 0) else ({ m with length := false } : MS).parameter c := by unfold MS.head; simp only [u8_eq]; rfl
theorem MS.arithEnd_nat (m : MS) (c : UInt8) : m.arithEnd c = if ¬ c.toNat = 41 then (m.turn 17, 3) else ((m.add (.leaf 7 m.buf)).turn 0, 0) := by unfold MS.arithEnd; simp only [ne_eq, u8_eq]; rfl

set_option maxRecDepth 100000 in
set_option maxHeartbeats 800000 in
theorem hash_any (h : MRep w B g (nextVal x.kind g) x) (hz : x.ms.sz ≤ 900000) (c : UInt8) :
    Calls Try.prog 42 #[.pointer (some ⟨g, 0, none⟩), .int .u8 c.toNat] w (Took w B g x (x.ms.hash c)) := by
  have HN := Lib.hid (MS.hash_nat x.ms c)
  have HA := Lib.hid (add_leaf h hz 5 [35] [])
  have HP := Lib.hid (param_any h c)
  clear h
  go_enter Try.func42, Try.ntmps42
  go_wp2_with (first
    | (go_at_call 28; refine HA.out.mono ?_; rintro e w2 ⟨rfl, y, h2, e2, s2⟩
       have H2 := Lib.hid h2
       have E2 := Lib.hid e2
       have S2 := Lib.hid s2
       clear h2 e2 s2)
    | (go_at_call 68; refine (goes_any H2.out 0 (by omega)).mono ?_; rintro e w3 ⟨rfl, h3, s3⟩
       have HF : Hid (Now w B g x ((x.ms.add (.leaf 5 [35])).turn 0) w3) := Lib.hid (now_turns (Step.refl _ _) E2.out S2.out h3 s3)
       clear h3 s3)
    | (go_at_call 73; refine HP.out.mono ?_; rintro e w3 ⟨rfl, h3⟩
       have HF := Lib.hid h3
       clear h3))
  all_goals go_ret
  all_goals (
    try simp only [beq_iff_eq, beq_eq_false_iff_ne] at *
    rw [HN.out]
    repeat (first | rw [if_pos (by omega)] | rw [if_neg (by omega)])
    exact ⟨rfl, HF.out⟩)
set_option maxRecDepth 100000 in
set_option maxHeartbeats 800000 in
theorem head_any (h : MRep w B g (nextVal x.kind g) x) (c : UInt8) :
    Calls Try.prog 41 #[.pointer (some ⟨g, 0, none⟩), .int .u8 c.toNat] w (Took w B g x (x.ms.head c)) := by
  have HN := Lib.hid (MS.head_nat x.ms c)
  have q9 := h.blk.cell 9
  have f9 := h.blk.frozen 9
  simp only [MR.cells, List.getElem?_toArray, List.getElem?_cons_zero, List.getElem?_cons_succ] at q9
  have HL := Lib.hid (h.len false)
  have HT := Lib.hid ((h.len false).1.len true)
  have HP := Lib.hid (param_any (h.len false).1 c)
  clear h
  go_enter Try.func41, Try.ntmps41
  go_wp2_with (first
    | (go_at_call 68; refine (goes_any HT.out.1 6 (by omega)).mono ?_; rintro e w3 ⟨rfl, h3, s3⟩
       have HF : Hid (Now w B g x (({ x.ms with length := true }).turn 6) w3) := Lib.hid ⟨{ x with length := true, kind := 6 }, h3, rfl, (HL.out.2.trans HT.out.2).trans s3⟩
       clear h3 s3)
    | (go_at_call 73; refine HP.out.mono ?_; rintro e w3 ⟨rfl, h3⟩
       have HF := Lib.hid (h3.before HL.out.2)
       clear h3))
  all_goals go_ret
  all_goals (
    try simp only [beq_iff_eq, beq_eq_false_iff_ne] at *
    rw [HN.out]
    repeat (first | rw [if_pos (by omega)] | rw [if_neg (by omega)])
    exact ⟨rfl, HF.out⟩)
set_option maxRecDepth 100000 in
set_option maxHeartbeats 800000 in
theorem arithEnd_any (h : MRep w B g (nextVal x.kind g) x) (hz : x.ms.sz ≤ 900000) (c : UInt8) :
    Calls Try.prog 49 #[.pointer (some ⟨g, 0, none⟩), .int .u8 c.toNat] w (Took w B g x (x.ms.arithEnd c)) := by
  have HN := Lib.hid (MS.arithEnd_nat x.ms c)
  have hB := h.bufOwn
  obtain ⟨BA, Bc, hBv⟩ := own_val hB
  have b0 := h.blk.cell 7
  simp only [MR.cells, List.getElem?_toArray, List.getElem?_cons_zero, List.getElem?_cons_succ, hBv] at b0
  rw [hBv] at hB
  have cv0 := conv_own (P := Try.prog) (y := w) Try.underlying55 Try.underlying5 Try.underlying9 hB
  have HA := Lib.hid (add_leaf h hz 7 x.buf [])
  have H0 := Lib.hid h
  clear h hB hBv
  go_enter Try.func49, Try.ntmps49
  go_wp2_with (first
    | (go_at_call 28; refine HA.out.mono ?_; rintro e w2 ⟨rfl, y, h2, e2, s2⟩
       have H2 := Lib.hid h2
       have E2 := Lib.hid e2
       have S2 := Lib.hid s2
       clear h2 e2 s2)
    | (go_at_call 68; refine (goes_any H2.out 0 (by omega)).mono ?_; rintro e w3 ⟨rfl, h3, s3⟩
       have HF : Hid (Now w B g x ((x.ms.add (.leaf 7 x.ms.buf)).turn 0) w3) := Lib.hid (now_turns (Step.refl _ _) E2.out S2.out h3 s3)
       clear h3 s3)
    | (go_at_call 66; refine (wrong_any H0.out).mono ?_; rintro e w3 ⟨rfl, h3, s3⟩
       have HF : Hid (Now w B g x (x.ms.turn 17) w3) := Lib.hid ⟨{ x with kind := 17 }, h3, rfl, s3⟩
       clear h3 s3))
  all_goals go_ret
  all_goals (
    try simp only [bne_iff_ne, bne_eq_false_iff_eq, ne_eq] at *
    rw [HN.out]
    repeat (first | rw [if_pos (by omega)] | rw [if_neg (by omega)])
    exact ⟨rfl, HF.out⟩)
end
end Go.Proofs.Ytpadnckmheippaa
