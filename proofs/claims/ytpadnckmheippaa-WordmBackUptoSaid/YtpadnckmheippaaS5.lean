/- The states of the word machine: colon, parameter, head. -/
import Derived.Test.YtpadnckmheippaaS4
namespace Go.Proofs.Ytpadnckmheippaa
open Go.RowKit
set_option linter.unusedVariables false
theorem conv_new (w : World) (l : List UInt8) : (convert 55 9 (.slice (some ⟨w.heap.size, 0, none⟩) l.length l.length)).run Try.prog (w.alloc (.cells (byteCells l).toArray 5)) = .ok (.string ⟨l.toArray⟩) (w.alloc (.cells (byteCells l).toArray 5)) := by
  refine run_convert_bytes_back (P := Try.prog) _ 55 9 5 ⟨w.heap.size, 0, none⟩ l.length l Try.underlying55 Try.underlying5 Try.underlying9 fun j hj => ?_
  have hadd : (⟨w.heap.size, 0, none⟩ : Addr).add j = ⟨w.heap.size, j, none⟩ := by unfold Addr.add; split <;> simp_all
  rw [hadd, (Blk.new w 5 _).cell j]
  simp [byteCells, hj]
theorem set_alloc (w : World) (o : Obj) {p : Addr} (h : p.block < w.heap.size) (u : Value) : (w.alloc o).setCell p u = (w.setCell p u).alloc o := by
  simp only [World.setCell, World.alloc]
  congr 1
  apply Array.ext_getElem?
  intro i
  simp only [Array.getElem?_modify, Array.getElem?_push, Array.size_modify]
  by_cases h1 : p.block = i
  · subst h1
    have h2 : ¬ p.block = w.heap.size := by omega
    simp [h2]
  · simp [h1]
theorem single1_any (c : UInt8) (w : World) : Calls Try.prog 74 #[.int .u8 c.toNat] w fun e w' => e = .returned (.bool (single1 c)) ∧ w' = w := by
  go_enter Try.func74, Try.ntmps74
  go_wp2_with fail
  refine (sindex_any _ _ _).mono ?_
  rintro e w' ⟨rfl, rfl⟩
  go_wp2
  go_ret
  exact ⟨congrArg (fun b => Ending.returned (Value.bool b)) (index_nat [45, 61, 63, 43] c), rfl⟩
section
variable {w w1 : World} {B : Bs} {g : Nat} {nx : Value} {x : MR}
/-- The buffer is one byte, anew. -/
theorem MRep.bufNew (h : MRep w B g nx x) (c : UInt8) : MRep ((w.alloc (.cells (byteCells [c]).toArray 5)).setCell ⟨g, 7, none⟩ (.slice (some ⟨w.heap.size, 0, none⟩) 1 1)) B g nx { x with buf := [c], vbuf := .slice (some ⟨w.heap.size, 0, none⟩) 1 1 } ∧
    Step (x.foot g) w (MR.foot { x with buf := [c], vbuf := .slice (some ⟨w.heap.size, 0, none⟩) 1 1 } g) ((w.alloc (.cells (byteCells [c]).toArray 5)).setCell ⟨g, 7, none⟩ (.slice (some ⟨w.heap.size, 0, none⟩) 1 1)) := by
  have hrows : x.rows = [x.levelRow, byteRow x.vtook x.took, byteRow x.vplain x.plain] ++ byteRow x.vbuf x.buf :: (x.lower.flatMap RL.rows ++ [x.top.partRow, byteRow x.top.vlit x.top.lit]) := rfl
  have hb := below_alloc w (.cells (byteCells [c]).toArray 5)
  refine MRep.row (r' := byteRow (.slice (some ⟨w.heap.size, 0, none⟩) 1 1) [c]) h hrows rfl rfl rfl ⟨hb.os, hb.tape, hb.output, hb.size, fun k hk _ => hb.block k hk⟩ ?_ (.inr (.inr ⟨_, rfl, Nat.le_refl _⟩))
  have hBw := h.base_le
  exact ⟨rfl, .inr ⟨w.heap.size, 1, (byteCells [c]).toArray, rfl, hBw, Blk.new w 5 _, Nat.le_refl _, by decide, rfl, rfl⟩⟩
theorem MS.colon_nat (m : MS) (c : UInt8) : m.colon c = if single1 c = false then (m.turn 17, 3) else (m.operator [58, c], 0) := rfl
set_option maxRecDepth 100000 in
set_option maxHeartbeats 800000 in
theorem colon_any (h : MRep w B g (nextVal x.kind g) x) (hz : x.ms.sz ≤ 900000) (c : UInt8) :
    Calls Try.prog 45 #[.pointer (some ⟨g, 0, none⟩), .int .u8 c.toNat] w (Took w B g x (x.ms.colon c)) := by
  have cv : (convert 55 9 (.slice (some ⟨w.heap.size, 0, none⟩) 2 2)).run Try.prog (w.alloc (.cells #[.int .u8 58, .int .u8 c.toNat] 5)) = .ok (.string ⟨#[58, c]⟩) (w.alloc (.cells #[.int .u8 58, .int .u8 c.toNat] 5)) := conv_new w [58, c]
  have H0 := Lib.hid h
  have hA := h.grown (below_alloc w (.cells (byteCells [58, c]).toArray 5))
  have HA := Lib.hid hA
  clear h hA
  have HC := Lib.hid (MS.colon_nat x.ms c)
  by_cases hs : single1 c = false
  · go_enter Try.func45, Try.ntmps45
    go_wp2_with (first
      | (go_at_call 74; refine (single1_any c _).mono ?_; rw [hs]; rintro e w' ⟨rfl, rfl⟩)
      | (go_at_call 66; refine (wrong_any H0.out).mono ?_; rintro e w3 ⟨rfl, h3, s3⟩
         have HF : Hid (Now w' B g x (x.ms.turn 17) w3) := Lib.hid ⟨{ x with kind := 17 }, h3, rfl, s3⟩
         clear h3 s3))
    go_ret
    rw [HC.out, if_pos hs]
    exact ⟨rfl, HF.out⟩
  · have hs2 : single1 c = true := by simpa using hs
    go_enter Try.func45, Try.ntmps45
    go_wp2_with fail
    refine (single1_any c _).mono ?_
    rw [hs2]
    rintro e w' ⟨rfl, hw⟩
    subst hw
    go_wp2_with fail
    refine (operator_any HA.out.1 hz [58, c]).mono ?_
    rintro e w3 ⟨rfl, h3⟩
    have HF := Lib.hid (h3.before HA.out.2)
    clear h3
    go_wp2
    go_ret
    rw [HC.out, if_neg hs]
    exact ⟨rfl, HF.out⟩
theorem MS.param_nat (m : MS) (c : UInt8) : m.parameter c = if classOf c = 4 then (({ m with buf := [c] } : MS).turn 7, 0) else if classOf c = 3 then (({ m with buf := [c] } : MS).turn 8, 0) else if special c = true then (({ m with buf := [c] } : MS).turn 9, 0) else (({ m with buf := [c] } : MS).turn 17, 3) := rfl
set_option maxRecDepth 100000 in
set_option maxHeartbeats 1600000 in
theorem param_any (h : MRep w B g nx x) (c : UInt8) :
    Calls Try.prog 73 #[.pointer (some ⟨g, 0, none⟩), .int .u8 c.toNat] w (Took w B g x (x.ms.parameter c)) := by
  have q7 := h.blk.cell 7
  have f7 := h.blk.frozen 7
  simp only [MR.cells, List.getElem?_toArray, List.getElem?_cons_zero, List.getElem?_cons_succ] at q7
  have hglt := h.blk.lt
  have hgx : ¬ g = w.heap.size := by omega
  have hgx2 : ¬ w.heap.size = g := by omega
  have hb := h.bufNew c
  rw [set_alloc w _ (p := ⟨g, 7, none⟩) hglt] at hb
  have HB := Lib.hid hb
  have HP := Lib.hid (MS.param_nat x.ms c)
  clear h hb
  generalize hk : classOf c = k at *
  have HC : ∀ y, Hid (Calls Try.prog 65 #[.int .u8 c.toNat] y fun e w' => e = .returned (.int .i64 k) ∧ w' = y) := fun y => Lib.hid (hk ▸ class_any c y)
  go_enter Try.func73, Try.ntmps73
  go_wp2_with (first
    | (go_at_call 65; refine (HC _).out.mono ?_; rintro e w2 ⟨rfl, hw⟩; subst hw)
    | (go_at_call 71; refine (special_any c _).mono ?_; rintro e w2 ⟨rfl, hw⟩; subst hw)
    | (go_at_call 68; refine (goes_any HB.out.1 7 (by omega)).mono ?_; rintro e w3 ⟨rfl, h3, s3⟩
       have HF : Hid (Now w B g x (({ x.ms with buf := [c] } : MS).turn 7) w3) := Lib.hid ⟨{ x with buf := [c], vbuf := .slice (some ⟨w.heap.size, 0, none⟩) 1 1, kind := 7 }, h3, rfl, HB.out.2.trans s3⟩
       clear h3 s3)
    | (go_at_call 68; refine (goes_any HB.out.1 8 (by omega)).mono ?_; rintro e w3 ⟨rfl, h3, s3⟩
       have HF : Hid (Now w B g x (({ x.ms with buf := [c] } : MS).turn 8) w3) := Lib.hid ⟨{ x with buf := [c], vbuf := .slice (some ⟨w.heap.size, 0, none⟩) 1 1, kind := 8 }, h3, rfl, HB.out.2.trans s3⟩
       clear h3 s3)
    | (go_at_call 68; refine (goes_any HB.out.1 9 (by omega)).mono ?_; rintro e w3 ⟨rfl, h3, s3⟩
       have HF : Hid (Now w B g x (({ x.ms with buf := [c] } : MS).turn 9) w3) := Lib.hid ⟨{ x with buf := [c], vbuf := .slice (some ⟨w.heap.size, 0, none⟩) 1 1, kind := 9 }, h3, rfl, HB.out.2.trans s3⟩
       clear h3 s3)
    | (go_at_call 66; refine (wrong_any HB.out.1).mono ?_; rintro e w3 ⟨rfl, h3, s3⟩
       have HF : Hid (Now w B g x (({ x.ms with buf := [c] } : MS).turn 17) w3) := Lib.hid ⟨{ x with buf := [c], vbuf := .slice (some ⟨w.heap.size, 0, none⟩) 1 1, kind := 17 }, h3, rfl, HB.out.2.trans s3⟩
       clear h3 s3))
  all_goals go_ret
  all_goals (
    try simp only [beq_iff_eq, beq_eq_false_iff_ne] at *
    rw [HP.out]
    repeat (first | rw [if_pos (by omega)] | rw [if_neg (by omega)] | rw [if_pos (by assumption)] | rw [if_neg (by simp [*])])
    exact ⟨rfl, HF.out⟩)
end
end Go.Proofs.Ytpadnckmheippaa
