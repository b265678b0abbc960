/- The states of the word machine: behind. -/
import Derived.Test.YtpadnckmheippaaS8
namespace Go.Proofs.Ytpadnckmheippaa
open Go.RowKit
set_option linter.unusedVariables false
section
variable {w w1 : World} {B : Bs} {g : Nat} {nx : Value} {x : MR}
theorem MRep.cutSet (h : MRep w B g nx x) (c : UInt8) : MRep (w.setCell ⟨g, 10, none⟩ (.int .u8 c.toNat)) B g nx { x with cut := c } ∧ Step (x.foot g) w (MR.foot { x with cut := c } g) (w.setCell ⟨g, 10, none⟩ (.int .u8 c.toNat)) :=
  MRep.field (x' := { x with cut := c }) h 10 (.int .u8 c.toNat) rfl rfl rfl
theorem MS.behind_nat (m : MS) (c : UInt8) : m.behind c = if c.toNat = 125 then ((m.add (.mk 5 m.buf (if m.length then [108, 101, 110] else []) [] noCmds)).turn 0, 0) else if m.length = true then (m.turn 17, 3) else if c.toNat = 58 then (m.turn 10, 0) else if c.toNat = 37 ∨ c.toNat = 35 then (({ m with cut := c }).turn 11, 0) else if single1 c = true then (m.operator [c], 0) else (m.turn 17, 3) := by
  unfold MS.behind; simp only [u8_eq]; rfl
set_option maxRecDepth 100000 in
set_option maxHeartbeats 3200000 in
theorem behind_false_false (h : MRep w B g (nextVal x.kind g) x) (hz : x.ms.sz ≤ 800000) (c : UInt8) (hl : x.length = false) (hs : single1 c = false) :
    Calls Try.prog 44 #[.pointer (some ⟨g, 0, none⟩), .int .u8 c.toNat] w (Took w B g x (x.ms.behind c)) := by
  obtain ⟨z1, z2, z3, z4, z5, z6, z7, z8⟩ := x.sizes hz
  have HN := Lib.hid (MS.behind_nat x.ms c)
  have hB := h.bufOwn
  obtain ⟨BA, Bc, hBv⟩ := own_val hB
  have b0 := h.blk.cell 7
  have b9 := h.blk.cell 9
  have b10 := h.blk.cell 10
  have f10 := h.blk.frozen 10
  simp only [MR.cells, List.getElem?_toArray, List.getElem?_cons_zero, List.getElem?_cons_succ, hBv] at b0 b9 b10
  rw [hBv] at hB
  have cv0 := conv_own (P := Try.prog) (y := w) Try.underlying55 Try.underlying5 Try.underlying9 hB
  have cv1 : (convert 55 9 (.slice (some ⟨w.heap.size, 0, none⟩) 1 1)).run Try.prog (w.alloc (.cells #[.int .u8 c.toNat] 5)) = .ok (.string ⟨#[c]⟩) (w.alloc (.cells #[.int .u8 c.toNat] 5)) := conv_new w [c]
  have hgl := h.blk.lt
  have hgx : ¬ g = w.heap.size := by omega
  have hgx2 : ¬ w.heap.size = g := by omega
  have HA1 := Lib.hid (fun o => h.grown (below_alloc w o))
  have HC := Lib.hid (h.cutSet 37)
  have HC2 := Lib.hid (h.cutSet 35)
  have HC3 := Lib.hid (h.cutSet c)
  have H0 := Lib.hid h
  clear h hB hBv z8
  have hlen : x.ms.length = false := hl
  rw [hl] at b9
  have hl2 : ¬ x.ms.length = true := by rw [hlen]; decide
  have hs2 : ¬ single1 c = true := by rw [hs]; decide
  have HS1 : ∀ y, Hid (Calls Try.prog 74 #[.int .u8 c.toNat] y fun e w' => e = .returned (.bool false) ∧ w' = y) := fun y => Lib.hid (hs ▸ single1_any c y)
  go_enter Try.func44, Try.ntmps44
  go_wp2_with (first
    | (go_at_call 74; refine (HS1 _).out.mono ?_; rintro e w2 ⟨rfl, hw⟩; cases hw)
    | (go_at_call 66; refine (wrong_any H0.out).mono ?_; rintro e w3 ⟨rfl, h3, s3⟩
       have HF : Hid (Now w B g x (x.ms.turn 17) w3) := Lib.hid ⟨{ x with kind := 17 }, h3, rfl, s3⟩
       clear h3 s3)
    | (go_at_call 28; refine (add_leaf (HA1.out _).1 (by omega) 5 x.buf []).mono ?_; rintro e w2 ⟨rfl, y, h2, e2, s2⟩
       have H2 := Lib.hid h2
       have E2 := Lib.hid e2
       have S2 := Lib.hid ((HA1.out _).2.trans s2)
       have S2' := Lib.hid s2
       clear h2 e2 s2)
    | (go_at_call 68; refine (goes_any H2.out 0 (by omega)).mono ?_; rintro e w3 ⟨rfl, h3, s3⟩
       have HF : Hid (Now w B g x ((x.ms.add (.mk 5 x.ms.buf [] [] noCmds)).turn 0) w3) := Lib.hid (now_turns (Step.refl _ _) E2.out S2.out h3 s3)
       clear h3 s3)
    | (go_at_call 68; refine (goes_any H0.out 10 (by omega)).mono ?_; rintro e w3 ⟨rfl, h3, s3⟩
       have HF : Hid (Now w B g x (x.ms.turn 10) w3) := Lib.hid ⟨{ x with kind := 10 }, h3, rfl, s3⟩
       clear h3 s3)
    | (go_at_call 68; refine (goes_any HC.out.1 11 (by omega)).mono ?_; rintro e w3 ⟨rfl, h3, s3⟩
       have HF : Hid (Now w B g x (({ x.ms with cut := 37 }).turn 11) w3) := Lib.hid ⟨{ x with cut := 37, kind := 11 }, h3, rfl, HC.out.2.trans s3⟩
       clear h3 s3)
    | (go_at_call 68; refine (goes_any HC2.out.1 11 (by omega)).mono ?_; rintro e w3 ⟨rfl, h3, s3⟩
       have HF : Hid (Now w B g x (({ x.ms with cut := 35 }).turn 11) w3) := Lib.hid ⟨{ x with cut := 35, kind := 11 }, h3, rfl, HC2.out.2.trans s3⟩
       clear h3 s3)
    | (go_at_call 68; refine (goes_any HC3.out.1 11 (by omega)).mono ?_; rintro e w3 ⟨rfl, h3, s3⟩
       have HF : Hid (Now w B g x (({ x.ms with cut := c }).turn 11) w3) := Lib.hid ⟨{ x with cut := c, kind := 11 }, h3, rfl, HC3.out.2.trans s3⟩
       clear h3 s3)
    | (go_at_call 75; refine (operator_any (HA1.out _).1 (by omega) [c]).mono ?_; rintro e w3 ⟨rfl, h3⟩
       have HF : Hid (Now w B g x (x.ms.operator [c]) w3) := Lib.hid (h3.before (HA1.out _).2)
       clear h3))
  all_goals go_ret
  all_goals (
    try simp only [beq_iff_eq, beq_eq_false_iff_ne] at *
    rw [HN.out]
    repeat (first | rw [if_pos (by omega)] | rw [if_neg (by omega)] | rw [if_neg hl2] | rw [if_neg hs2])
    first
      | exact ⟨rfl, HF.out⟩
      | (rw [hlen]; exact ⟨rfl, HF.out⟩)
      | (have hc : c = 37 := UInt8.toNat_inj.1 (show c.toNat = 37 by omega); rw [hc]; exact ⟨rfl, HF.out⟩)
      | (have hc : c = 35 := UInt8.toNat_inj.1 (show c.toNat = 35 by omega); rw [hc]; exact ⟨rfl, HF.out⟩))
set_option maxRecDepth 100000 in
set_option maxHeartbeats 3200000 in
theorem behind_false_true (h : MRep w B g (nextVal x.kind g) x) (hz : x.ms.sz ≤ 800000) (c : UInt8) (hl : x.length = false) (hs : single1 c = true) :
    Calls Try.prog 44 #[.pointer (some ⟨g, 0, none⟩), .int .u8 c.toNat] w (Took w B g x (x.ms.behind c)) := by
  obtain ⟨z1, z2, z3, z4, z5, z6, z7, z8⟩ := x.sizes hz
  have HN := Lib.hid (MS.behind_nat x.ms c)
  have hB := h.bufOwn
  obtain ⟨BA, Bc, hBv⟩ := own_val hB
  have b0 := h.blk.cell 7
  have b9 := h.blk.cell 9
  have b10 := h.blk.cell 10
  have f10 := h.blk.frozen 10
  simp only [MR.cells, List.getElem?_toArray, List.getElem?_cons_zero, List.getElem?_cons_succ, hBv] at b0 b9 b10
  rw [hBv] at hB
  have cv0 := conv_own (P := Try.prog) (y := w) Try.underlying55 Try.underlying5 Try.underlying9 hB
  have cv1 : (convert 55 9 (.slice (some ⟨w.heap.size, 0, none⟩) 1 1)).run Try.prog (w.alloc (.cells #[.int .u8 c.toNat] 5)) = .ok (.string ⟨#[c]⟩) (w.alloc (.cells #[.int .u8 c.toNat] 5)) := conv_new w [c]
  have hgl := h.blk.lt
  have hgx : ¬ g = w.heap.size := by omega
  have hgx2 : ¬ w.heap.size = g := by omega
  have HA1 := Lib.hid (fun o => h.grown (below_alloc w o))
  have HC := Lib.hid (h.cutSet 37)
  have HC2 := Lib.hid (h.cutSet 35)
  have HC3 := Lib.hid (h.cutSet c)
  have H0 := Lib.hid h
  clear h hB hBv z8
  have hlen : x.ms.length = false := hl
  rw [hl] at b9
  have hl2 : ¬ x.ms.length = true := by rw [hlen]; decide
  have hs2 : single1 c = true := hs
  have HS1 : ∀ y, Hid (Calls Try.prog 74 #[.int .u8 c.toNat] y fun e w' => e = .returned (.bool true) ∧ w' = y) := fun y => Lib.hid (hs ▸ single1_any c y)
  go_enter Try.func44, Try.ntmps44
  go_wp2_with (first
    | (go_at_call 74; refine (HS1 _).out.mono ?_; rintro e w2 ⟨rfl, hw⟩; cases hw)
    | (go_at_call 66; refine (wrong_any H0.out).mono ?_; rintro e w3 ⟨rfl, h3, s3⟩
       have HF : Hid (Now w B g x (x.ms.turn 17) w3) := Lib.hid ⟨{ x with kind := 17 }, h3, rfl, s3⟩
       clear h3 s3)
    | (go_at_call 28; refine (add_leaf (HA1.out _).1 (by omega) 5 x.buf []).mono ?_; rintro e w2 ⟨rfl, y, h2, e2, s2⟩
       have H2 := Lib.hid h2
       have E2 := Lib.hid e2
       have S2 := Lib.hid ((HA1.out _).2.trans s2)
       have S2' := Lib.hid s2
       clear h2 e2 s2)
    | (go_at_call 68; refine (goes_any H2.out 0 (by omega)).mono ?_; rintro e w3 ⟨rfl, h3, s3⟩
       have HF : Hid (Now w B g x ((x.ms.add (.mk 5 x.ms.buf [] [] noCmds)).turn 0) w3) := Lib.hid (now_turns (Step.refl _ _) E2.out S2.out h3 s3)
       clear h3 s3)
    | (go_at_call 68; refine (goes_any H0.out 10 (by omega)).mono ?_; rintro e w3 ⟨rfl, h3, s3⟩
       have HF : Hid (Now w B g x (x.ms.turn 10) w3) := Lib.hid ⟨{ x with kind := 10 }, h3, rfl, s3⟩
       clear h3 s3)
    | (go_at_call 68; refine (goes_any HC.out.1 11 (by omega)).mono ?_; rintro e w3 ⟨rfl, h3, s3⟩
       have HF : Hid (Now w B g x (({ x.ms with cut := 37 }).turn 11) w3) := Lib.hid ⟨{ x with cut := 37, kind := 11 }, h3, rfl, HC.out.2.trans s3⟩
       clear h3 s3)
    | (go_at_call 68; refine (goes_any HC2.out.1 11 (by omega)).mono ?_; rintro e w3 ⟨rfl, h3, s3⟩
       have HF : Hid (Now w B g x (({ x.ms with cut := 35 }).turn 11) w3) := Lib.hid ⟨{ x with cut := 35, kind := 11 }, h3, rfl, HC2.out.2.trans s3⟩
       clear h3 s3)
    | (go_at_call 68; refine (goes_any HC3.out.1 11 (by omega)).mono ?_; rintro e w3 ⟨rfl, h3, s3⟩
       have HF : Hid (Now w B g x (({ x.ms with cut := c }).turn 11) w3) := Lib.hid ⟨{ x with cut := c, kind := 11 }, h3, rfl, HC3.out.2.trans s3⟩
       clear h3 s3)
    | (go_at_call 75; refine (operator_any (HA1.out _).1 (by omega) [c]).mono ?_; rintro e w3 ⟨rfl, h3⟩
       have HF : Hid (Now w B g x (x.ms.operator [c]) w3) := Lib.hid (h3.before (HA1.out _).2)
       clear h3))
  all_goals go_ret
  all_goals (
    try simp only [beq_iff_eq, beq_eq_false_iff_ne] at *
    rw [HN.out]
    repeat (first | rw [if_pos (by omega)] | rw [if_neg (by omega)] | rw [if_neg hl2] | rw [if_pos hs2])
    first
      | exact ⟨rfl, HF.out⟩
      | (rw [hlen]; exact ⟨rfl, HF.out⟩)
      | (have hc : c = 37 := UInt8.toNat_inj.1 (show c.toNat = 37 by omega); rw [hc]; exact ⟨rfl, HF.out⟩)
      | (have hc : c = 35 := UInt8.toNat_inj.1 (show c.toNat = 35 by omega); rw [hc]; exact ⟨rfl, HF.out⟩))
set_option maxRecDepth 100000 in
set_option maxHeartbeats 3200000 in
theorem behind_true_false (h : MRep w B g (nextVal x.kind g) x) (hz : x.ms.sz ≤ 800000) (c : UInt8) (hl : x.length = true) (hs : single1 c = false) :
    Calls Try.prog 44 #[.pointer (some ⟨g, 0, none⟩), .int .u8 c.toNat] w (Took w B g x (x.ms.behind c)) := by
  obtain ⟨z1, z2, z3, z4, z5, z6, z7, z8⟩ := x.sizes hz
  have HN := Lib.hid (MS.behind_nat x.ms c)
  have hB := h.bufOwn
  obtain ⟨BA, Bc, hBv⟩ := own_val hB
  have b0 := h.blk.cell 7
  have b9 := h.blk.cell 9
  have b10 := h.blk.cell 10
  have f10 := h.blk.frozen 10
  simp only [MR.cells, List.getElem?_toArray, List.getElem?_cons_zero, List.getElem?_cons_succ, hBv] at b0 b9 b10
  rw [hBv] at hB
  have cv0 := conv_own (P := Try.prog) (y := w) Try.underlying55 Try.underlying5 Try.underlying9 hB
  have cv1 : (convert 55 9 (.slice (some ⟨w.heap.size, 0, none⟩) 1 1)).run Try.prog (w.alloc (.cells #[.int .u8 c.toNat] 5)) = .ok (.string ⟨#[c]⟩) (w.alloc (.cells #[.int .u8 c.toNat] 5)) := conv_new w [c]
  have hgl := h.blk.lt
  have hgx : ¬ g = w.heap.size := by omega
  have hgx2 : ¬ w.heap.size = g := by omega
  have HA1 := Lib.hid (fun o => h.grown (below_alloc w o))
  have HC := Lib.hid (h.cutSet 37)
  have HC2 := Lib.hid (h.cutSet 35)
  have HC3 := Lib.hid (h.cutSet c)
  have H0 := Lib.hid h
  clear h hB hBv z8
  have hlen : x.ms.length = true := hl
  rw [hl] at b9
  have hl2 : x.ms.length = true := hlen
  have hs2 : ¬ single1 c = true := by rw [hs]; decide
  have HS1 : ∀ y, Hid (Calls Try.prog 74 #[.int .u8 c.toNat] y fun e w' => e = .returned (.bool false) ∧ w' = y) := fun y => Lib.hid (hs ▸ single1_any c y)
  go_enter Try.func44, Try.ntmps44
  go_wp2_with (first
    | (go_at_call 74; refine (HS1 _).out.mono ?_; rintro e w2 ⟨rfl, hw⟩; cases hw)
    | (go_at_call 66; refine (wrong_any H0.out).mono ?_; rintro e w3 ⟨rfl, h3, s3⟩
       have HF : Hid (Now w B g x (x.ms.turn 17) w3) := Lib.hid ⟨{ x with kind := 17 }, h3, rfl, s3⟩
       clear h3 s3)
    | (go_at_call 28; refine (add_leaf (HA1.out _).1 (by omega) 5 x.buf [108, 101, 110]).mono ?_; rintro e w2 ⟨rfl, y, h2, e2, s2⟩
       have H2 := Lib.hid h2
       have E2 := Lib.hid e2
       have S2 := Lib.hid ((HA1.out _).2.trans s2)
       have S2' := Lib.hid s2
       clear h2 e2 s2)
    | (go_at_call 68; refine (goes_any H2.out 0 (by omega)).mono ?_; rintro e w3 ⟨rfl, h3, s3⟩
       have HF : Hid (Now w B g x ((x.ms.add (.mk 5 x.ms.buf [108, 101, 110] [] noCmds)).turn 0) w3) := Lib.hid (now_turns (Step.refl _ _) E2.out S2.out h3 s3)
       clear h3 s3)
    | (go_at_call 68; refine (goes_any H0.out 10 (by omega)).mono ?_; rintro e w3 ⟨rfl, h3, s3⟩
       have HF : Hid (Now w B g x (x.ms.turn 10) w3) := Lib.hid ⟨{ x with kind := 10 }, h3, rfl, s3⟩
       clear h3 s3)
    | (go_at_call 68; refine (goes_any HC.out.1 11 (by omega)).mono ?_; rintro e w3 ⟨rfl, h3, s3⟩
       have HF : Hid (Now w B g x (({ x.ms with cut := 37 }).turn 11) w3) := Lib.hid ⟨{ x with cut := 37, kind := 11 }, h3, rfl, HC.out.2.trans s3⟩
       clear h3 s3)
    | (go_at_call 68; refine (goes_any HC2.out.1 11 (by omega)).mono ?_; rintro e w3 ⟨rfl, h3, s3⟩
       have HF : Hid (Now w B g x (({ x.ms with cut := 35 }).turn 11) w3) := Lib.hid ⟨{ x with cut := 35, kind := 11 }, h3, rfl, HC2.out.2.trans s3⟩
       clear h3 s3)
    | (go_at_call 68; refine (goes_any HC3.out.1 11 (by omega)).mono ?_; rintro e w3 ⟨rfl, h3, s3⟩
       have HF : Hid (Now w B g x (({ x.ms with cut := c }).turn 11) w3) := Lib.hid ⟨{ x with cut := c, kind := 11 }, h3, rfl, HC3.out.2.trans s3⟩
       clear h3 s3)
    | (go_at_call 75; refine (operator_any (HA1.out _).1 (by omega) [c]).mono ?_; rintro e w3 ⟨rfl, h3⟩
       have HF : Hid (Now w B g x (x.ms.operator [c]) w3) := Lib.hid (h3.before (HA1.out _).2)
       clear h3))
  all_goals go_ret
  all_goals (
    try simp only [beq_iff_eq, beq_eq_false_iff_ne] at *
    rw [HN.out]
    repeat (first | rw [if_pos (by omega)] | rw [if_neg (by omega)] | rw [if_pos hl2] | rw [if_neg hs2])
    first
      | exact ⟨rfl, HF.out⟩
      | (rw [hlen]; exact ⟨rfl, HF.out⟩)
      | (have hc : c = 37 := UInt8.toNat_inj.1 (show c.toNat = 37 by omega); rw [hc]; exact ⟨rfl, HF.out⟩)
      | (have hc : c = 35 := UInt8.toNat_inj.1 (show c.toNat = 35 by omega); rw [hc]; exact ⟨rfl, HF.out⟩))
set_option maxRecDepth 100000 in
set_option maxHeartbeats 3200000 in
theorem behind_true_true (h : MRep w B g (nextVal x.kind g) x) (hz : x.ms.sz ≤ 800000) (c : UInt8) (hl : x.length = true) (hs : single1 c = true) :
    Calls Try.prog 44 #[.pointer (some ⟨g, 0, none⟩), .int .u8 c.toNat] w (Took w B g x (x.ms.behind c)) := by
  obtain ⟨z1, z2, z3, z4, z5, z6, z7, z8⟩ := x.sizes hz
  have HN := Lib.hid (MS.behind_nat x.ms c)
  have hB := h.bufOwn
  obtain ⟨BA, Bc, hBv⟩ := own_val hB
  have b0 := h.blk.cell 7
  have b9 := h.blk.cell 9
  have b10 := h.blk.cell 10
  have f10 := h.blk.frozen 10
  simp only [MR.cells, List.getElem?_toArray, List.getElem?_cons_zero, List.getElem?_cons_succ, hBv] at b0 b9 b10
  rw [hBv] at hB
  have cv0 := conv_own (P := Try.prog) (y := w) Try.underlying55 Try.underlying5 Try.underlying9 hB
  have cv1 : (convert 55 9 (.slice (some ⟨w.heap.size, 0, none⟩) 1 1)).run Try.prog (w.alloc (.cells #[.int .u8 c.toNat] 5)) = .ok (.string ⟨#[c]⟩) (w.alloc (.cells #[.int .u8 c.toNat] 5)) := conv_new w [c]
  have hgl := h.blk.lt
  have hgx : ¬ g = w.heap.size := by omega
  have hgx2 : ¬ w.heap.size = g := by omega
  have HA1 := Lib.hid (fun o => h.grown (below_alloc w o))
  have HC := Lib.hid (h.cutSet 37)
  have HC2 := Lib.hid (h.cutSet 35)
  have HC3 := Lib.hid (h.cutSet c)
  have H0 := Lib.hid h
  clear h hB hBv z8
  have hlen : x.ms.length = true := hl
  rw [hl] at b9
  have hl2 : x.ms.length = true := hlen
  have hs2 : single1 c = true := hs
  have HS1 : ∀ y, Hid (Calls Try.prog 74 #[.int .u8 c.toNat] y fun e w' => e = .returned (.bool true) ∧ w' = y) := fun y => Lib.hid (hs ▸ single1_any c y)
  go_enter Try.func44, Try.ntmps44
  go_wp2_with (first
    | (go_at_call 74; refine (HS1 _).out.mono ?_; rintro e w2 ⟨rfl, hw⟩; cases hw)
    | (go_at_call 66; refine (wrong_any H0.out).mono ?_; rintro e w3 ⟨rfl, h3, s3⟩
       have HF : Hid (Now w B g x (x.ms.turn 17) w3) := Lib.hid ⟨{ x with kind := 17 }, h3, rfl, s3⟩
       clear h3 s3)
    | (go_at_call 28; refine (add_leaf (HA1.out _).1 (by omega) 5 x.buf [108, 101, 110]).mono ?_; rintro e w2 ⟨rfl, y, h2, e2, s2⟩
       have H2 := Lib.hid h2
       have E2 := Lib.hid e2
       have S2 := Lib.hid ((HA1.out _).2.trans s2)
       have S2' := Lib.hid s2
       clear h2 e2 s2)
    | (go_at_call 68; refine (goes_any H2.out 0 (by omega)).mono ?_; rintro e w3 ⟨rfl, h3, s3⟩
       have HF : Hid (Now w B g x ((x.ms.add (.mk 5 x.ms.buf [108, 101, 110] [] noCmds)).turn 0) w3) := Lib.hid (now_turns (Step.refl _ _) E2.out S2.out h3 s3)
       clear h3 s3)
    | (go_at_call 68; refine (goes_any H0.out 10 (by omega)).mono ?_; rintro e w3 ⟨rfl, h3, s3⟩
       have HF : Hid (Now w B g x (x.ms.turn 10) w3) := Lib.hid ⟨{ x with kind := 10 }, h3, rfl, s3⟩
       clear h3 s3)
    | (go_at_call 68; refine (goes_any HC.out.1 11 (by omega)).mono ?_; rintro e w3 ⟨rfl, h3, s3⟩
       have HF : Hid (Now w B g x (({ x.ms with cut := 37 }).turn 11) w3) := Lib.hid ⟨{ x with cut := 37, kind := 11 }, h3, rfl, HC.out.2.trans s3⟩
       clear h3 s3)
    | (go_at_call 68; refine (goes_any HC2.out.1 11 (by omega)).mono ?_; rintro e w3 ⟨rfl, h3, s3⟩
       have HF : Hid (Now w B g x (({ x.ms with cut := 35 }).turn 11) w3) := Lib.hid ⟨{ x with cut := 35, kind := 11 }, h3, rfl, HC2.out.2.trans s3⟩
       clear h3 s3)
    | (go_at_call 68; refine (goes_any HC3.out.1 11 (by omega)).mono ?_; rintro e w3 ⟨rfl, h3, s3⟩
       have HF : Hid (Now w B g x (({ x.ms with cut := c }).turn 11) w3) := Lib.hid ⟨{ x with cut := c, kind := 11 }, h3, rfl, HC3.out.2.trans s3⟩
       clear h3 s3)
    | (go_at_call 75; refine (operator_any (HA1.out _).1 (by omega) [c]).mono ?_; rintro e w3 ⟨rfl, h3⟩
       have HF : Hid (Now w B g x (x.ms.operator [c]) w3) := Lib.hid (h3.before (HA1.out _).2)
       clear h3))
  all_goals go_ret
  all_goals (
    try simp only [beq_iff_eq, beq_eq_false_iff_ne] at *
    rw [HN.out]
    repeat (first | rw [if_pos (by omega)] | rw [if_neg (by omega)] | rw [if_pos hl2] | rw [if_pos hs2])
    first
      | exact ⟨rfl, HF.out⟩
      | (rw [hlen]; exact ⟨rfl, HF.out⟩)
      | (have hc : c = 37 := UInt8.toNat_inj.1 (show c.toNat = 37 by omega); rw [hc]; exact ⟨rfl, HF.out⟩)
      | (have hc : c = 35 := UInt8.toNat_inj.1 (show c.toNat = 35 by omega); rw [hc]; exact ⟨rfl, HF.out⟩))
theorem behind_any (h : MRep w B g (nextVal x.kind g) x) (hz : x.ms.sz ≤ 800000) (c : UInt8) :
    Calls Try.prog 44 #[.pointer (some ⟨g, 0, none⟩), .int .u8 c.toNat] w (Took w B g x (x.ms.behind c)) := by
  cases hl : x.length <;> cases hs : single1 c
  · exact behind_false_false h hz c hl hs
  · exact behind_false_true h hz c hl hs
  · exact behind_true_false h hz c hl hs
  · exact behind_true_true h hz c hl hs
end
end Go.Proofs.Ytpadnckmheippaa
