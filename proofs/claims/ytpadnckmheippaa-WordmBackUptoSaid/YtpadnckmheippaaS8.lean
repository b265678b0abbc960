/- The states of the word machine: single, arith. -/
import Derived.Test.YtpadnckmheippaaS7
namespace Go.Proofs.Ytpadnckmheippaa
open Go.RowKit
set_option linter.unusedVariables false
section
variable {w w1 : World} {B : Bs} {g : Nat} {nx : Value} {x : MR}
set_option maxRecDepth 100000 in
set_option maxHeartbeats 1600000 in
theorem single_any (h : MRep w B g (nextVal x.kind g) x) (hz : x.ms.sz ≤ 800000) (c : UInt8) :
    Calls Try.prog 47 #[.pointer (some ⟨g, 0, none⟩), .int .u8 c.toNat] w (Took w B g x (x.ms.single c)) := by
  obtain ⟨z1, z2, z3, z4, z5, z6, z7, z8⟩ := x.sizes hz
  have HN := Lib.hid (MS.single_nat x.ms c)
  have hB := h.bufOwn
  obtain ⟨BA, Bc, hBv⟩ := own_val hB
  obtain ⟨TA, Tc, hTv⟩ := own_val h.tookOwn
  have b0 := h.blk.cell 7
  have bf := h.blk.frozen 7
  simp only [MR.cells, List.getElem?_toArray, List.getElem?_cons_zero, List.getElem?_cons_succ, hBv] at b0
  rw [hBv] at hB
  have cv0 := conv_own (P := Try.prog) (y := w) Try.underlying55 Try.underlying5 Try.underlying9 hB
  have HA := Lib.hid (add_leaf h (by omega) 3 x.buf [])
  have hBw := h.base_le
  have hgl := h.blk.lt
  have hgx : ¬ g = w.heap.size := by omega
  have hgx2 : ¬ w.heap.size = g := by omega
  have hA2 := h.grown (below_alloc w (.cells (byteCells [c]).toArray 5))
  have HBV := Lib.hid hBv
  have HTV := Lib.hid hTv
  have HB := Lib.hid hB
  have H1 := Lib.hid hA2
  have H0 := Lib.hid h
  clear h hB hBv hA2 z8 hTv
  go_enter Try.func47, Try.ntmps47
  go_wp2_with (first
    | (go_at_call 66; refine (wrong_any H0.out).mono ?_; rintro e w3 ⟨rfl, h3, s3⟩
       have HF : Hid (Now w B g x (x.ms.turn 17) w3) := Lib.hid ⟨{ x with kind := 17 }, h3, rfl, s3⟩
       clear h3 s3)
    | (go_at_call 28; refine HA.out.mono ?_; rintro e w2 ⟨rfl, y, h2, e2, s2⟩
       have H2 := Lib.hid h2
       have E2 := Lib.hid e2
       have S2 := Lib.hid s2
       clear h2 e2 s2)
    | (go_at_call 68; refine (goes_any H2.out 0 (by omega)).mono ?_; rintro e w3 ⟨rfl, h3, s3⟩
       have HF : Hid (Now w B g x ((x.ms.add (.leaf 3 x.ms.buf)).turn 0) w3) := Lib.hid (now_turns (Step.refl _ _) E2.out S2.out h3 s3)
       clear h3 s3)
    | (at_builtin; refine wpList_app ElByte (.tmp 26) (.tmp 28) rfl rfl (base := B) (n := x.buf.length) (m := 1) (N := x.buf.length + 1) (v := .slice BA x.buf.length Bc) (xs := byteCells x.buf) (news := byteCells [c]) rfl rfl (HB.out.alloc _) (src_one _ 5 c) rfl (by unfold maxLen; omega) (by omega) (by simp; omega) ?_; intro A k3 w3 r1 r2 r3
       have hh := H1.out.1.appBuf [c] r1 rfl (by rw [HBV.out]; exact r3)
       obtain ⟨⟨k4, k5⟩, hM3, s3⟩ := hh
       rw [HBV.out] at k4
       have t0 := hM3.blk.cell 3
       have t1 := hM3.blk.frozen 3
       simp only [MR.cells, List.getElem?_toArray, List.getElem?_cons_zero, List.getElem?_cons_succ, HTV.out] at t0
       have hTo := hM3.tookOwn
       simp only [HTV.out] at hTo
       have hgl4 := hM3.blk.lt
       have hBw4 := hM3.base_le
       have hsz4 : (w3.setCell ⟨g, 7, none⟩ (.slice A (x.buf.length + 1) k3)).heap.size = w3.heap.size := by simp [World.setCell]
       have hsrc := src_one (w3.setCell ⟨g, 7, none⟩ (.slice A (x.buf.length + 1) k3)) 5 c
       rw [hsz4] at hsrc
       have HSRC := Lib.hid hsrc
       have HTO := Lib.hid hTo
       have H4 := Lib.hid (hM3.grown (below_alloc _ (.cells (byteCells [c]).toArray 5)))
       have S4 := Lib.hid (H1.out.2.trans s3)
       clear r1 r2 r3 hM3 s3 hTo hsrc)
    | (at_builtin; refine wpList_app ElByte (.tmp 36) (.tmp 38) rfl rfl (base := B) (n := x.took.length) (m := 1) (N := x.took.length + 1) (v := .slice TA x.took.length Tc) (xs := byteCells x.took) (news := byteCells [c]) rfl rfl (HTO.out.alloc _) HSRC.out rfl (by unfold maxLen; omega) (by omega) (by simp; omega) ?_; intro A5 k5' w5 r1 r2 r3
       have hh := H4.out.1.appTook [c] r1 rfl (by simp only [HTV.out]; exact r3)
       obtain ⟨⟨k6, k7⟩, hM5, s5⟩ := hh
       simp only [HTV.out] at k6
       have HF : Hid (Now w B g x { x.ms with buf := x.ms.buf ++ [c], took := x.ms.took ++ [c] } (w5.setCell ⟨g, 3, none⟩ (.slice A5 (x.took.length + 1) k5'))) := Lib.hid ⟨{ x with buf := x.buf ++ [c], vbuf := .slice A (x.buf.length + 1) k3, took := x.took ++ [c], vtook := .slice A5 (x.took.length + 1) k5' }, hM5, rfl, (S4.out.trans H4.out.2).trans s5⟩
       clear r1 r2 r3 hM5 s5))
  all_goals go_ret
  all_goals (
    try simp only [beq_iff_eq, beq_eq_false_iff_ne] at *
    rw [HN.out]
    repeat (first | rw [if_pos (by omega)] | rw [if_neg (by omega)])
    exact ⟨rfl, HF.out⟩)
end
end Go.Proofs.Ytpadnckmheippaa
