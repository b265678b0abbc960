/- The word machine's Feed: the next byte. -/
import Derived.Test.YtpadnckmheippaaS18
namespace Go.Proofs.Ytpadnckmheippaa
open Go.RowKit
set_option linter.unusedVariables false
section
variable {w w1 : World} {B : Bs} {g : Nat} {nx : Value} {x : MR}
theorem MS.feed_go (m : MS) (c : UInt8) (h : (m.next c).2 = 0) : m.feed c = ({ (m.next c).1 with plain := (m.next c).1.plain ++ [c] }, 0) := by unfold MS.feed; simp only [h, if_true]
theorem MS.feed_no (m : MS) (c : UInt8) (h : ¬ (m.next c).2 = 0) : m.feed c = m.next c := by unfold MS.feed; simp only [h, if_false]
set_option maxHeartbeats 1600000 in
theorem feed_any (h : MRep w B g (nextVal x.kind g) x) (hz : x.ms.sz ≤ 800000) (hok : x.ms.ok) (hk : x.kind ≤ 17) (c : UInt8) :
    Calls Try.prog 18 #[.pointer (some ⟨g, 0, none⟩), .int .u8 c.toNat] w (Took w B g x (x.ms.feed c)) := by
  obtain ⟨F, ca, hn, hrun0, hcall⟩ := next_calls h hz hok.wf c
  have hf := next_fine x.ms hok hk c
  have n1 := h.blk.cell 1
  simp only [MR.cells, List.getElem?_toArray, List.getElem?_cons_zero, List.getElem?_cons_succ, hn] at n1
  have hps : x.plain.length ≤ 800000 := (x.sizes hz).2.2.2.2.1
  have HF := Lib.hid hf
  have HFG := Lib.hid (MS.feed_go x.ms c)
  have HFN := Lib.hid (MS.feed_no x.ms c)
  have hrun := hrun0 (ca.push (.int .u8 c.toNat))
  clear h hf hn hrun0 hok
  by_cases h0 : (x.ms.next c).2 = 0
  · have HC : Hid (Calls Try.prog F (ca.push (.int .u8 c.toNat)) w fun e w' => e = .returned (.int .i64 0) ∧ Now w B g x (x.ms.next c).1 w') := Lib.hid (hcall.mono fun e w' hh => by
      obtain ⟨h1, h2⟩ := hh
      rw [h0] at h1
      exact ⟨h1, h2⟩)
    have HG := Lib.hid (HFG.out h0)
    clear hcall h0
    go_enter Try.func18, Try.ntmps18
    go_wp2_with fail
    refine HC.out.mono ?_
    rintro e w1 ⟨rfl, y, hy, ey, sy⟩
    have hyp : y.plain = x.plain := (congrArg MS.plain ey).trans HF.out.plain
    obtain ⟨PA, Pc, hPv⟩ := own_val hy.plainOwn
    have p4 := hy.blk.cell 4
    simp only [MR.cells, List.getElem?_toArray, List.getElem?_cons_zero, List.getElem?_cons_succ, hPv] at p4
    have hyl : y.plain.length ≤ 800000 := by rw [hyp]; exact hps
    have HPO := Lib.hid hy.plainOwn
    have HPV := Lib.hid hPv
    have hBw := hy.base_le
    have hgl := hy.blk.lt
    have hgx : ¬ g = w1.heap.size := by omega
    have hgx2 : ¬ w1.heap.size = g := by omega
    have HA := Lib.hid (hy.grown (below_alloc w1 (.cells (byteCells [c]).toArray 5)))
    have HE := Lib.hid ey
    have HS := Lib.hid sy
    clear hy ey sy hPv hyp
    go_wp2_with
      (at_builtin; refine wpList_app ElByte (.tmp 20) (.tmp 22) rfl rfl (base := B) (n := y.plain.length) (m := 1) (N := y.plain.length + 1) (v := .slice PA y.plain.length Pc) (xs := byteCells y.plain) (news := byteCells [c]) rfl rfl ((HPV.out ▸ HPO.out).alloc _) (src_one _ 5 c) rfl (by unfold maxLen; omega) (by omega) (by simp; omega) ?_; intro A k3 w3 r1 r2 r3
       have hh := HA.out.1.appPlain [c] r1 rfl (by rw [HPV.out]; exact r3)
       obtain ⟨⟨k4, k5⟩, hM3, s3⟩ := hh
       rw [HPV.out] at k4
       have HF3 : Hid (Now w B g x { y.ms with plain := y.ms.plain ++ [c] } (w3.setCell ⟨g, 4, none⟩ (.slice A (y.plain.length + 1) k3))) := Lib.hid ⟨{ y with plain := y.plain ++ [c], vplain := .slice A (y.plain.length + 1) k3 }, hM3, rfl, (HS.out.trans HA.out.2).trans s3⟩
       clear r1 r2 r3 hM3 s3)
    go_ret
    rw [HG.out, ← HE.out]
    exact ⟨rfl, HF3.out⟩
  · have hs3 := HF.out.sig
    have hne : (((x.ms.next c).2 : Int) == 0) = false := by simp; omega
    have HG := Lib.hid (HFN.out h0)
    have HC := Lib.hid hcall
    generalize x.ms.next c = r at *
    clear hcall h0 HF
    go_enter Try.func18, Try.ntmps18
    go_wp2_with fail
    refine HC.out.mono ?_
    rintro e w1 ⟨rfl, hy⟩
    have HY := Lib.hid hy
    clear hy
    go_wp2
    go_ret
    rw [HG.out]
    exact ⟨rfl, HY.out⟩
end
end Go.Proofs.Ytpadnckmheippaa
