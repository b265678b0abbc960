/- The states of the word machine: dollar. -/
import Derived.Test.YtpadnckmheippaaS16
namespace Go.Proofs.Ytpadnckmheippaa
open Go.RowKit
set_option linter.unusedVariables false
section
variable {w w1 : World} {B : Bs} {g : Nat} {nx : Value} {x : MR}
theorem MS.dollar_nat (m : MS) (c : UInt8) : m.dollar c = if c.toNat = 123 then (({ m with exp := true }).turn 5, 0) else if c.toNat = 40 then (({ m with exp := true }).turn 3, 0) else if classOf c = 4 then (({ m with exp := true, buf := [c] }).turn 4, 0) else if classOf c = 3 ∨ special c = true then ((({ m with exp := true } : MS).add (.leaf 5 [c])).turn 0, 0) else ((m.lits [36]).turn 0).text c := by unfold MS.dollar; simp only [u8_eq]; rfl
theorem lits_sz (m : MS) (l : List UInt8) : (m.lits l).sz = m.sz + 2 * l.length := by
  simp only [MS.lits, MS.sz, LV.sz, List.length_append]
  omega
theorem lits_wf (m : MS) (l : List UInt8) (h : m.wf) : (m.lits l).wf := by
  unfold MS.wf MS.lits at *
  cases hl : m.lower with
  | nil => rw [hl] at h; simpa using h
  | cons a t => rw [hl] at h; simpa using h
set_option maxRecDepth 100000 in
set_option maxHeartbeats 3200000 in
theorem dollar_any (h : MRep w B g (nextVal x.kind g) x) (hz : x.ms.sz ≤ 800000) (hwf : x.ms.wf) (c : UInt8) :
    Calls Try.prog 38 #[.pointer (some ⟨g, 0, none⟩), .int .u8 c.toNat] w (Took w B g x (x.ms.dollar c)) := by
  obtain ⟨z1, z2, z3, z4, z5, z6, z7, z8⟩ := x.sizes hz
  have HN := Lib.hid (MS.dollar_nat x.ms c)
  have HWF := Lib.hid hwf
  have q5 := h.blk.cell 5
  have f5 := h.blk.frozen 5
  have q7 := h.blk.cell 7
  have f7 := h.blk.frozen 7
  simp only [MR.cells, List.getElem?_toArray, List.getElem?_cons_zero, List.getElem?_cons_succ] at q5 q7
  have hgl := h.blk.lt
  have hgx : ¬ g = w.heap.size := by omega
  have hgx2 : ¬ w.heap.size = g := by omega
  have hx := h.expand
  have hxa := fun o => hx.1.grown (below_alloc _ o)
  have hsz : (w.setCell ⟨g, 5, none⟩ (.bool true)).heap.size = w.heap.size := by simp [World.setCell]
  have hxb := hx.1.bufNew c
  rw [hsz, set_alloc _ _ (p := ⟨g, 7, none⟩) (by rw [hsz]; exact hgl)] at hxb
  have cv : (convert 55 9 (.slice (some ⟨w.heap.size, 0, none⟩) 1 1)).run Try.prog ((w.setCell ⟨g, 5, none⟩ (.bool true)).alloc (.cells #[.int .u8 c.toNat] 5)) = .ok (.string ⟨#[c]⟩) ((w.setCell ⟨g, 5, none⟩ (.bool true)).alloc (.cells #[.int .u8 c.toNat] 5)) := by
    have h5 := conv_new (w.setCell ⟨g, 5, none⟩ (.bool true)) [c]
    rw [hsz] at h5
    exact h5
  have HA1 := Lib.hid (fun o => h.grown (below_alloc w o))
  have HNN := Lib.hid h.new_not
  have HX := Lib.hid hx
  have HXA := Lib.hid hxa
  have HXB := Lib.hid hxb
  clear h hwf hx hxa hxb z8
  generalize hk : classOf c = k at *
  have HC : ∀ y, Hid (Calls Try.prog 65 #[.int .u8 c.toNat] y fun e w' => e = .returned (.int .i64 k) ∧ w' = y) := fun y => Lib.hid (hk ▸ class_any c y)
  go_enter Try.func38, Try.ntmps38
  go_wp2_with (first
    | (go_at_call 65; refine (HC _).out.mono ?_; rintro e w2 ⟨rfl, hw⟩; cases hw)
    | (go_at_call 71; refine (special_any c _).mono ?_; rintro e w2 ⟨rfl, hw⟩; cases hw)
    | (go_at_call 68; refine (goes_any HX.out.1 5 (by omega)).mono ?_; rintro e w3 ⟨rfl, h3, s3⟩
       have HF : Hid (Now _ B g x (({ x.ms with exp := true }).turn 5) w3) := Lib.hid ⟨{ x with exp := true, kind := 5 }, h3, rfl, HX.out.2.trans s3⟩
       clear h3 s3)
    | (go_at_call 68; refine (goes_any HX.out.1 3 (by omega)).mono ?_; rintro e w3 ⟨rfl, h3, s3⟩
       have HF : Hid (Now _ B g x (({ x.ms with exp := true }).turn 3) w3) := Lib.hid ⟨{ x with exp := true, kind := 3 }, h3, rfl, HX.out.2.trans s3⟩
       clear h3 s3)
    | (go_at_call 68; refine (goes_any HXB.out.1 4 (by omega)).mono ?_; rintro e w3 ⟨rfl, h3, s3⟩
       have HF : Hid (Now _ B g x (({ x.ms with exp := true, buf := [c] }).turn 4) w3) := Lib.hid ⟨{ x with exp := true, buf := [c], vbuf := .slice (some ⟨_, 0, none⟩) 1 1, kind := 4 }, h3, rfl, (HX.out.2.trans HXB.out.2).trans s3⟩
       clear h3 s3)
    | (go_at_call 28; refine (add_leaf (HXA.out _).1 (by show x.ms.sz ≤ 900000; omega) 5 [c] []).mono ?_; rintro e w5 ⟨rfl, y, h2, e2, s2⟩
       have H2 := Lib.hid h2
       have E2 := Lib.hid e2
       have S2 := Lib.hid ((HX.out.2.trans (HXA.out _).2).trans s2)
       clear h2 e2 s2)
    | (go_at_call 68; refine (goes_any H2.out 0 (by omega)).mono ?_; rintro e w6 ⟨rfl, h6, s6⟩
       have HF := Lib.hid (now_turns (Step.refl _ _) E2.out S2.out h6 s6)
       clear h6 s6)
    | (go_at_call 70; refine (lit_any (l := [36]) (HA1.out _).1 (src_one _ 5 36) (by intro k hk; cases hk; exact HNN.out) (by omega) (by simp) (by omega) (by omega)).mono ?_; rintro e w3 ⟨rfl, y, h3, e3, s3⟩
       have H5 := Lib.hid h3
       have E5 := Lib.hid e3
       have S5 := Lib.hid ((HA1.out _).2.trans s3)
       clear h3 s3 e3)
    | (go_at_call 72; refine (again_text H5.out (by rw [E5.out, lits_sz]; simp; omega) (by rw [E5.out]; exact lits_wf _ _ HWF.out) c).mono ?_; rintro e w6 ⟨rfl, h6⟩
       have HF := Lib.hid (h6.before S5.out)
       clear h6))
  all_goals go_ret
  all_goals (
    try simp only [beq_iff_eq, beq_eq_false_iff_ne] at *
    rw [HN.out]
    repeat (first | rw [if_pos (by omega)] | rw [if_neg (by omega)])
    first
      | exact ⟨rfl, HF.out⟩
      | (have hd : ((k : Int) = 3 ∨ special c = true) := by assumption
         have hd2 : k = 3 ∨ special c = true := hd.imp (fun e => by omega) id
         rw [if_pos hd2]
         exact ⟨rfl, HF.out⟩)
      | (have hd : ((k : Int) ≠ 3 ∧ special c = false) := by assumption
         have hd2 : ¬ (k = 3 ∨ special c = true) := by
           rintro (e | e)
           · exact hd.1 (by omega)
           · rw [hd.2] at e; cases e
         rw [if_neg hd2]
         have e5 : y.ms = x.ms.lits [36] := E5.out
         have h6 := HF.out
         rw [e5] at h6
         refine ⟨?_, h6⟩
         rw [e5]
         rfl))
end
end Go.Proofs.Ytpadnckmheippaa
