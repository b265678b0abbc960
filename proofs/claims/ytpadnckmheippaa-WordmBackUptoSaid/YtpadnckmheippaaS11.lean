/- The states of the word machine: double, arith. -/
import Derived.Test.YtpadnckmheippaaS10
namespace Go.Proofs.Ytpadnckmheippaa
open Go.RowKit
set_option linter.unusedVariables false
section
variable {w w1 : World} {B : Bs} {g : Nat} {nx : Value} {x : MR}
theorem push_sz (m : MS) (pl : Nat) (nm op : List UInt8) : (m.push ⟨pl, [], [], nm, op⟩).sz = m.sz + 1 := by
  simp only [MS.push, MS.sz, LV.sz, List.map_append, List.map_cons, List.map_nil, List.sum_append, List.sum_cons, List.sum_nil, List.length_append, List.length_cons, List.length_nil]
  omega
theorem push_wf (m : MS) (l : LV) (h : m.wf) : (m.push l).wf := by
  unfold MS.wf MS.push at *
  cases hl : m.lower with
  | nil => rw [hl] at h; simpa using h
  | cons a t => rw [hl] at h; simpa using h
theorem MS.double_nat (m : MS) (c : UInt8) : m.double c = if c.toNat = m.cut.toNat then (m.operator [c, c], 0) else (m.operator [m.cut]).text c := by unfold MS.double; simp only [u8_eq]
set_option maxRecDepth 100000 in
set_option maxHeartbeats 1600000 in
theorem double_any (h : MRep w B g (nextVal x.kind g) x) (hz : x.ms.sz ≤ 800000) (hwf : x.ms.wf) (c : UInt8) :
    Calls Try.prog 46 #[.pointer (some ⟨g, 0, none⟩), .int .u8 c.toNat] w (Took w B g x (x.ms.double c)) := by
  have HN := Lib.hid (MS.double_nat x.ms c)
  have b10 := h.blk.cell 10
  simp only [MR.cells, List.getElem?_toArray, List.getElem?_cons_zero, List.getElem?_cons_succ] at b10
  have cv1 : (convert 55 9 (.slice (some ⟨w.heap.size, 0, none⟩) 1 1)).run Try.prog (w.alloc (.cells #[.int .u8 x.cut.toNat] 5)) = .ok (.string ⟨#[x.cut]⟩) (w.alloc (.cells #[.int .u8 x.cut.toNat] 5)) := conv_new w [x.cut]
  have cv2 : (convert 55 9 (.slice (some ⟨w.heap.size, 0, none⟩) 2 2)).run Try.prog (w.alloc (.cells #[.int .u8 c.toNat, .int .u8 c.toNat] 5)) = .ok (.string ⟨#[c, c]⟩) (w.alloc (.cells #[.int .u8 c.toNat, .int .u8 c.toNat] 5)) := conv_new w [c, c]
  have HA1 := Lib.hid (fun o => h.grown (below_alloc w o))
  have HWF := Lib.hid hwf
  clear h
  by_cases hc : c.toNat = x.cut.toNat
  · have hc2 : ((c.toNat : Int) == (x.cut.toNat : Int)) = true := by simp; omega
    rw [← UInt8.toNat_inj.1 hc] at b10
    have hc3 : ((c.toNat : Int) == (c.toNat : Int)) = true := by simp
    have HCC := Lib.hid hc
    clear hc2 hc
    go_enter Try.func46, Try.ntmps46
    go_wp2_with fail
    refine (operator_any (HA1.out _).1 (by omega) [c, c]).mono ?_
    rintro e w3 ⟨rfl, h3⟩
    have HF := Lib.hid (h3.before (HA1.out _).2)
    clear h3
    go_wp2
    go_ret
    rw [HN.out, if_pos (show c.toNat = x.ms.cut.toNat from HCC.out)]
    exact ⟨rfl, HF.out⟩
  · have hc2 : ((c.toNat : Int) == (x.cut.toNat : Int)) = false := by simp; omega
    go_enter Try.func46, Try.ntmps46
    go_wp2_with fail
    refine (operator_any (HA1.out _).1 (by omega) [x.cut]).mono ?_
    rintro e w3 ⟨rfl, y, h3, e3, s3⟩
    have hk : y.kind = 0 := by have := congrArg MS.kind e3; exact this
    have n0 := h3.blk.cell 1
    simp only [MR.cells, hk, nextVal, List.getElem?_toArray, List.getElem?_cons_zero, List.getElem?_cons_succ] at n0
    have hyz : y.ms.sz ≤ 900000 := by rw [e3]; show (x.ms.push ⟨2, [], [], x.ms.buf, [x.cut]⟩).sz ≤ 900000; rw [push_sz]; omega
    have hyw : y.ms.wf := by rw [e3]; exact push_wf _ _ HWF.out
    have HT := Lib.hid (text_any h3 hyz hyw c)
    have E3 := Lib.hid e3
    have S3 := Lib.hid ((HA1.out _).2.trans s3)
    clear h3 e3 s3
    go_wp2_with fail
    refine HT.out.mono ?_
    rintro e w4 ⟨rfl, h4⟩
    have HF := Lib.hid (h4.before S3.out)
    clear h4
    go_wp2
    go_ret
    rw [HN.out, if_neg (show ¬ c.toNat = x.ms.cut.toNat from hc)]
    have e5 : y.ms = x.ms.operator [x.ms.cut] := E3.out
    have h6 := HF.out
    rw [e5] at h6
    refine ⟨?_, h6⟩
    rw [e5]
    rfl
end
end Go.Proofs.Ytpadnckmheippaa
