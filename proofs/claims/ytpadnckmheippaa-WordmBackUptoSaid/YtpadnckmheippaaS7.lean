/- The states of the word machine: bare, single. -/
import Derived.Test.YtpadnckmheippaaS6
namespace Go.Proofs.Ytpadnckmheippaa
open Go.RowKit
set_option linter.unusedVariables false
section
variable {w w1 : World} {B : Bs} {g : Nat} {nx : Value} {x : MR}
theorem MS.bare_nat (m : MS) (c : UInt8) : m.bare c = if classOf c = 4 ∨ classOf c = 3 then ({ m with buf := m.buf ++ [c] }, 0) else ((m.add (.leaf 5 m.buf)).turn 0).text c := rfl
theorem MS.single_nat (m : MS) (c : UInt8) : m.single c = if c.toNat = 0 then (m.turn 17, 3) else if c.toNat = 39 then ((m.add (.leaf 3 m.buf)).turn 0, 0) else ({ m with buf := m.buf ++ [c], took := m.took ++ [c] }, 0) := by unfold MS.single; simp only [u8_eq]; rfl
theorem flush_sz (l : LV) : l.flush.sz ≤ l.sz + 1 := by
  unfold LV.flush LV.sz
  split
  · omega
  · simp
theorem add_sz (m : MS) (p : PT) : (m.add p).sz ≤ m.sz + 2 := by
  have h := flush_sz m.top
  simp only [MS.add, MS.sz, LV.sz, List.length_append, List.length_cons, List.length_nil] at h ⊢
  omega
theorem flush_place (l : LV) : l.flush.place = l.place := by unfold LV.flush; split <;> rfl
theorem add_wf (m : MS) (p : PT) (h : m.wf) : (m.add p).wf := by
  unfold MS.wf MS.add at *
  cases hl : m.lower with
  | nil =>
    rw [hl] at h
    simpa [flush_place] using h
  | cons a l =>
    rw [hl] at h
    simpa using h
set_option maxRecDepth 100000 in
set_option maxHeartbeats 1600000 in
theorem bare_any (h : MRep w B g (nextVal x.kind g) x) (hz : x.ms.sz ≤ 800000) (hwf : x.ms.wf) (c : UInt8) :
    Calls Try.prog 40 #[.pointer (some ⟨g, 0, none⟩), .int .u8 c.toNat] w (Took w B g x (x.ms.bare c)) := by
  obtain ⟨z1, z2, z3, z4, z5, z6, z7, z8⟩ := x.sizes hz
  have HN := Lib.hid (MS.bare_nat x.ms c)
  have hB := h.bufOwn
  obtain ⟨BA, Bc, hBv⟩ := own_val hB
  have b0 := h.blk.cell 7
  have bf := h.blk.frozen 7
  simp only [MR.cells, List.getElem?_toArray, List.getElem?_cons_zero, List.getElem?_cons_succ, hBv] at b0
  rw [hBv] at hB
  have cv0 := conv_own (P := Try.prog) (y := w) Try.underlying55 Try.underlying5 Try.underlying9 hB
  have HA := Lib.hid (add_leaf h (by omega) 5 x.buf [])
  have hBw := h.base_le
  have hgl := h.blk.lt
  have hgx : ¬ g = w.heap.size := by omega
  have hgx2 : ¬ w.heap.size = g := by omega
  have hA2 := h.grown (below_alloc w (.cells (byteCells [c]).toArray 5))
  have HBV := Lib.hid hBv
  have HB := Lib.hid hB
  have H1 := Lib.hid hA2
  have HWF := Lib.hid hwf
  clear h hB hBv hA2 z8
  generalize hk : classOf c = k at *
  have HC : ∀ y, Hid (Calls Try.prog 65 #[.int .u8 c.toNat] y fun e w' => e = .returned (.int .i64 k) ∧ w' = y) := fun y => Lib.hid (hk ▸ class_any c y)
  go_enter Try.func40, Try.ntmps40
  go_wp2_with (first
    | (go_at_call 65; refine (HC _).out.mono ?_; rintro e w2 ⟨rfl, hw⟩; cases hw)
    | (at_builtin; refine wpList_app ElByte (.tmp 18) (.tmp 20) rfl rfl (base := B) (n := x.buf.length) (m := 1) (N := x.buf.length + 1) (v := .slice BA x.buf.length Bc) (xs := byteCells x.buf) (news := byteCells [c]) rfl rfl (HB.out.alloc _) (src_one _ 5 c) rfl (by unfold maxLen; omega) (by omega) (by simp; omega) ?_; intro A k3 w3 r1 r2 r3
       have hh := H1.out.1.appBuf [c] r1 rfl (by rw [HBV.out]; exact r3)
       obtain ⟨⟨k4, k5⟩, hM3, s3⟩ := hh
       rw [HBV.out] at k4
       have HF : Hid (Now _ B g x { x.ms with buf := x.ms.buf ++ [c] } (w3.setCell ⟨g, 7, none⟩ (.slice A (x.buf.length + 1) k3))) := Lib.hid ⟨{ x with buf := x.buf ++ [c], vbuf := .slice A (x.buf.length + 1) k3 }, hM3, rfl, H1.out.2.trans s3⟩
       clear r1 r2 r3 hM3 s3)
    | (go_at_call 28; refine HA.out.mono ?_; rintro e w2 ⟨rfl, y, h2, e2, s2⟩
       have H2 := Lib.hid h2
       have E2 := Lib.hid e2
       have S2 := Lib.hid s2
       clear h2 e2 s2)
    | (go_at_call 72; refine (again_text H2.out (by rw [E2.out]; have := add_sz x.ms (.leaf 5 x.buf); show (x.ms.add (.leaf 5 x.buf)).sz ≤ 900000; omega) (by rw [E2.out]; exact add_wf _ _ HWF.out) c).mono ?_; rintro e w3 ⟨rfl, h3⟩
       have HF : Hid (Now w B g x (((x.ms.add (.leaf 5 x.ms.buf)).turn 0).text c).1 w3) := Lib.hid (by have h4 := h3.before S2.out; rw [E2.out] at h4; exact h4)
       clear h3))
  all_goals go_ret
  all_goals (
    try simp only [beq_iff_eq, beq_eq_false_iff_ne] at *
    rw [HN.out]
    repeat (first | rw [if_pos (by omega)] | rw [if_neg (by omega)])
    first
      | exact ⟨rfl, HF.out⟩
      | (refine ⟨?_, HF.out⟩; have e5 : y.ms = x.ms.add (.leaf 5 x.ms.buf) := E2.out; rw [e5]; rfl))
end
end Go.Proofs.Ytpadnckmheippaa
