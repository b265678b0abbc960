/- The states of the word machine: arith. -/
import Derived.Test.YtpadnckmheippaaS12
namespace Go.Proofs.Ytpadnckmheippaa
open Go.RowKit
set_option linter.unusedVariables false
section
variable {w w1 : World} {B : Bs} {g : Nat} {nx : Value} {x : MR}
set_option maxRecDepth 100000 in
set_option maxHeartbeats 1600000 in
theorem arith_else (h : MRep w B g (nextVal x.kind g) x) (hz : x.ms.sz ≤ 800000) (c : UInt8) (h0 : ¬ c.toNat = 0) (h41 : ¬ c.toNat = 41) (h40 : ¬ c.toNat = 40) :
    Calls Try.prog 48 #[.pointer (some ⟨g, 0, none⟩), .int .u8 c.toNat] w (Took w B g x (x.ms.arith c)) := by
  obtain ⟨z1, z2, z3, z4, z5, z6, z7, z8⟩ := x.sizes hz
  have hB := h.bufOwn
  obtain ⟨BA, Bc, hBv⟩ := own_val hB
  have b0 := h.blk.cell 7
  have bf := h.blk.frozen 7
  have b8 := h.blk.cell 8
  have f8 := h.blk.frozen 8
  simp only [MR.cells, List.getElem?_toArray, List.getElem?_cons_zero, List.getElem?_cons_succ, hBv] at b0 b8
  rw [hBv] at hB
  have hBw := h.base_le
  have hgl := h.blk.lt
  have hgx : ¬ g = w.heap.size := by omega
  have hgx2 : ¬ w.heap.size = g := by omega
  have HBV := Lib.hid hBv
  have HB := Lib.hid hB
  have H0 := Lib.hid h
  clear h hB hBv z8
  have t0 : ((c.toNat : Int) == 0) = false := by simp; omega
  have t1 : ((c.toNat : Int) == 41) = false := by simp; omega
  have t2 : ((c.toNat : Int) == 40) = false := by simp; omega
  go_enter Try.func48, Try.ntmps48
  go_wp2_with (first
    | (at_builtin; refine wpList_app ElByte (.tmp 46) (.tmp 48) rfl rfl (base := B) (n := x.buf.length) (m := 1) (N := x.buf.length + 1) (v := .slice BA x.buf.length Bc) (xs := byteCells x.buf) (news := byteCells [c]) rfl rfl (HB.out.alloc _) (src_one _ 5 c) rfl (by unfold maxLen; omega) (by omega) (by simp; omega) ?_; intro A k3 w3 r1 r2 r3
       have hh := arith_app (Step.refl _ _) H0.out (by omega) c HBV.out r1 r3
       obtain ⟨⟨k4, k5⟩, hf⟩ := hh
       have HF := Lib.hid hf
       clear r1 r2 r3 hf))
  go_ret
  rw [MS.arith_nat, if_neg h0, if_neg (by omega), if_neg h41, if_neg h40]
  exact ⟨rfl, HF.out⟩
end
end Go.Proofs.Ytpadnckmheippaa
