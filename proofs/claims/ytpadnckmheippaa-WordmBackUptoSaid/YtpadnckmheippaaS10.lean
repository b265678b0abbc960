/- The states of the word machine: again, name. -/
import Derived.Test.YtpadnckmheippaaS9
namespace Go.Proofs.Ytpadnckmheippaa
open Go.RowKit
set_option linter.unusedVariables false
section
variable {w w1 : World} {B : Bs} {g : Nat} {nx : Value} {x : MR}
set_option maxHeartbeats 800000 in
theorem again_behind (h : MRep w B g nx x) (hz : x.ms.sz ≤ 800000) (c : UInt8) :
    Calls Try.prog 72 #[.pointer (some ⟨g, 0, none⟩), .int .i64 9, .int .u8 c.toNat] w (Took w B g x ((x.ms.turn 9).behind c)) := by
  have H0 := Lib.hid h
  clear h
  go_enter Try.func72, Try.ntmps72
  go_wp2_with fail
  refine (turn_any H0.out 9 (by omega)).mono ?_
  rintro e w1 ⟨rfl, h1, s1⟩
  have n0 := h1.blk.cell 1
  simp only [MR.cells, nextVal, List.getElem?_toArray, List.getElem?_cons_zero, List.getElem?_cons_succ] at n0
  have H1 := Lib.hid h1
  have S1 := Lib.hid s1
  clear h1 s1
  go_wp2_with fail
  refine (behind_any (x := { x with kind := 9 }) H1.out hz c).mono ?_
  rintro e w2 ⟨rfl, h2⟩
  have HF := Lib.hid (h2.before S1.out)
  clear h2
  go_wp2
  go_ret
  exact ⟨rfl, HF.out⟩
theorem MS.named_nat (m : MS) (c : UInt8) : m.named c = if classOf c = 3 ∨ (classOf c = 4 ∧ m.kind = 7) then ({ m with buf := m.buf ++ [c] }, 0) else (m.turn 9).behind c := rfl
set_option maxRecDepth 100000 in
set_option maxHeartbeats 1600000 in
theorem name_any (h : MRep w B g (nextVal x.kind g) x) (hz : x.ms.sz ≤ 800000) (c : UInt8) :
    Calls Try.prog 43 #[.pointer (some ⟨g, 0, none⟩), .int .u8 c.toNat] w (Took w B g x (x.ms.named c)) := by
  obtain ⟨z1, z2, z3, z4, z5, z6, z7, z8⟩ := x.sizes hz
  have HN := Lib.hid (MS.named_nat x.ms c)
  have hB := h.bufOwn
  obtain ⟨BA, Bc, hBv⟩ := own_val hB
  have b0 := h.blk.cell 7
  have bf := h.blk.frozen 7
  have b2 := h.blk.cell 2
  simp only [MR.cells, List.getElem?_toArray, List.getElem?_cons_zero, List.getElem?_cons_succ, hBv] at b0 b2
  rw [hBv] at hB
  have HA := Lib.hid (again_behind h hz c)
  have hBw := h.base_le
  have hgl := h.blk.lt
  have hgx : ¬ g = w.heap.size := by omega
  have hgx2 : ¬ w.heap.size = g := by omega
  have hA2 := h.grown (below_alloc w (.cells (byteCells [c]).toArray 5))
  have HBV := Lib.hid hBv
  have HB := Lib.hid hB
  have H1 := Lib.hid hA2
  have hkind : x.ms.kind = x.kind := rfl
  clear h hB hBv hA2 z8
  generalize hk : classOf c = k at *
  have HC : ∀ y, Hid (Calls Try.prog 65 #[.int .u8 c.toNat] y fun e w' => e = .returned (.int .i64 k) ∧ w' = y) := fun y => Lib.hid (hk ▸ class_any c y)
  go_enter Try.func43, Try.ntmps43
  go_wp2_with (first
    | (go_at_call 65; refine (HC _).out.mono ?_; rintro e w2 ⟨rfl, hw⟩; cases hw)
    | (at_builtin; refine wpList_app ElByte (.tmp 25) (.tmp 27) rfl rfl (base := B) (n := x.buf.length) (m := 1) (N := x.buf.length + 1) (v := .slice BA x.buf.length Bc) (xs := byteCells x.buf) (news := byteCells [c]) rfl rfl (HB.out.alloc _) (src_one _ 5 c) rfl (by unfold maxLen; omega) (by omega) (by simp; omega) ?_; intro A k3 w3 r1 r2 r3
       have hh := H1.out.1.appBuf [c] r1 rfl (by rw [HBV.out]; exact r3)
       obtain ⟨⟨k4, k5⟩, hM3, s3⟩ := hh
       rw [HBV.out] at k4
       have HF : Hid (Now _ B g x { x.ms with buf := x.ms.buf ++ [c] } (w3.setCell ⟨g, 7, none⟩ (.slice A (x.buf.length + 1) k3))) := Lib.hid ⟨{ x with buf := x.buf ++ [c], vbuf := .slice A (x.buf.length + 1) k3 }, hM3, rfl, H1.out.2.trans s3⟩
       clear r1 r2 r3 hM3 s3)
    | (go_at_call 72; refine HA.out.mono ?_; rintro e w3 ⟨rfl, h3⟩
       have HF := Lib.hid h3
       clear h3))
  all_goals go_ret
  all_goals (
    try simp only [beq_iff_eq, beq_eq_false_iff_ne] at *
    rw [HN.out]
    repeat (first | rw [if_pos (by omega)] | rw [if_neg (by omega)])
    exact ⟨rfl, HF.out⟩)
end
end Go.Proofs.Ytpadnckmheippaa
