/- The states of the word machine: arith. -/
import Derived.Test.YtpadnckmheippaaS13
namespace Go.Proofs.Ytpadnckmheippaa
open Go.RowKit
set_option linter.unusedVariables false
section
variable {w w1 : World} {B : Bs} {g : Nat} {nx : Value} {x : MR}
set_option maxRecDepth 100000 in
set_option maxHeartbeats 1600000 in
theorem arith_close (h : MRep w B g (nextVal x.kind g) x) (hz : x.ms.sz ≤ 800000) (d : Nat) (hd0 : x.deep = d + 1) :
    Calls Try.prog 48 #[.pointer (some ⟨g, 0, none⟩), .int .u8 41] w (Took w B g x (x.ms.arith 41)) := by
  obtain ⟨z1, z2, z3, z4, z5, z6, z7, z8⟩ := x.sizes hz
  have hB := h.bufOwn
  obtain ⟨BA, Bc, hBv⟩ := own_val hB
  have b0 := h.blk.cell 7
  have bf := h.blk.frozen 7
  have b8 := h.blk.cell 8
  have f8 := h.blk.frozen 8
  simp only [MR.cells, List.getElem?_toArray, List.getElem?_cons_zero, List.getElem?_cons_succ, hBv] at b0 b8
  simp only [hBv] at hB
  have hBw := h.base_le
  have hgl := h.blk.lt
  have hgx : ¬ g = w.heap.size := by omega
  have hgx2 : ¬ w.heap.size = g := by omega
  have hd := h.deepSet (d)
  have hb2 := hd.1.bufOwn
  simp only [hBv] at hb2
  have HB2 := Lib.hid hb2
  have hsz : (w.setCell ⟨g, 8, none⟩ (.int .i64 ((d : Nat) : Int))).heap.size = w.heap.size := by simp [World.setCell]
  have hsrc := src_one (w.setCell ⟨g, 8, none⟩ (.int .i64 ((d : Nat) : Int))) 5 41
  rw [hsz] at hsrc
  have HSRC := Lib.hid hsrc
  have HD := Lib.hid hd
  have HBV := Lib.hid hBv
  have HB := Lib.hid hB
  have H0 := Lib.hid h
  clear h hB hBv z8 hd hsrc hb2
  rw [hd0] at b8
  have hdl : d ≤ 900000 := by omega
  have hwr : IntKind.i64.wrap (d : Int) = (d : Int) := by rw [IntKind.wrap_i64]; omega
  have hz0 : ((d : Int) + 1 == 0) = false := by simp; omega
  have HD0 := Lib.hid hd0
  clear hd0
  go_enter Try.func48, Try.ntmps48
  go_wp2_with (first
    | (at_builtin; refine wpList_app ElByte (.tmp 46) (.tmp 48) rfl rfl (base := B) (n := x.buf.length) (m := 1) (N := x.buf.length + 1) (v := .slice BA x.buf.length Bc) (xs := byteCells x.buf) (news := byteCells [41]) rfl rfl (HB2.out.alloc _) HSRC.out rfl (by unfold maxLen; omega) (by omega) (by simp; omega) ?_; intro A k3 w3 r1 r2 r3
       have hh := arith_app HD.out.2 HD.out.1 (by show x.buf.length ≤ 900000; omega) 41 HBV.out r1 r3
       obtain ⟨⟨k4, k5⟩, hf⟩ := hh
       have HF := Lib.hid hf
       clear r1 r2 r3 hf))
  go_ret
  have e : x.ms.deep = d + 1 := HD0.out
  rw [MS.arith_nat, if_neg (by decide), if_neg (by rw [e]; omega), if_pos (by decide), e]
  exact ⟨rfl, HF.out⟩
set_option maxRecDepth 100000 in
set_option maxHeartbeats 1600000 in
theorem arith_open (h : MRep w B g (nextVal x.kind g) x) (hz : x.ms.sz ≤ 800000)  :
    Calls Try.prog 48 #[.pointer (some ⟨g, 0, none⟩), .int .u8 40] w (Took w B g x (x.ms.arith 40)) := by
  obtain ⟨z1, z2, z3, z4, z5, z6, z7, z8⟩ := x.sizes hz
  have hB := h.bufOwn
  obtain ⟨BA, Bc, hBv⟩ := own_val hB
  have b0 := h.blk.cell 7
  have bf := h.blk.frozen 7
  have b8 := h.blk.cell 8
  have f8 := h.blk.frozen 8
  simp only [MR.cells, List.getElem?_toArray, List.getElem?_cons_zero, List.getElem?_cons_succ, hBv] at b0 b8
  simp only [hBv] at hB
  have hBw := h.base_le
  have hgl := h.blk.lt
  have hgx : ¬ g = w.heap.size := by omega
  have hgx2 : ¬ w.heap.size = g := by omega
  have hd := h.deepSet (x.deep + 1)
  have ec : ((x.deep + 1 : Nat) : Int) = (x.deep : Int) + 1 := rfl
  rw [ec] at hd
  have hb2 := hd.1.bufOwn
  simp only [hBv] at hb2
  have HB2 := Lib.hid hb2
  have hsz : (w.setCell ⟨g, 8, none⟩ (.int .i64 ((x.deep : Int) + 1))).heap.size = w.heap.size := by simp [World.setCell]
  have hsrc := src_one (w.setCell ⟨g, 8, none⟩ (.int .i64 ((x.deep : Int) + 1))) 5 40
  rw [hsz] at hsrc
  have HSRC := Lib.hid hsrc
  have HD := Lib.hid hd
  have HBV := Lib.hid hBv
  have HB := Lib.hid hB
  have H0 := Lib.hid h
  clear h hB hBv z8 hd hsrc hb2
  have hwr : IntKind.i64.wrap ((x.deep : Int) + 1) = (x.deep : Int) + 1 := by rw [IntKind.wrap_i64]; omega
  go_enter Try.func48, Try.ntmps48
  go_wp2_with (first
    | (at_builtin; refine wpList_app ElByte (.tmp 46) (.tmp 48) rfl rfl (base := B) (n := x.buf.length) (m := 1) (N := x.buf.length + 1) (v := .slice BA x.buf.length Bc) (xs := byteCells x.buf) (news := byteCells [40]) rfl rfl (HB2.out.alloc _) HSRC.out rfl (by unfold maxLen; omega) (by omega) (by simp; omega) ?_; intro A k3 w3 r1 r2 r3
       have hh := arith_app HD.out.2 HD.out.1 (by show x.buf.length ≤ 900000; omega) 40 HBV.out r1 r3
       obtain ⟨⟨k4, k5⟩, hf⟩ := hh
       have HF := Lib.hid hf
       clear r1 r2 r3 hf))
  go_ret
  rw [MS.arith_nat, if_neg (by decide), if_neg (fun e => absurd e.1 (by decide)), if_neg (by decide), if_pos (by decide)]
  exact ⟨rfl, HF.out⟩
end
end Go.Proofs.Ytpadnckmheippaa
