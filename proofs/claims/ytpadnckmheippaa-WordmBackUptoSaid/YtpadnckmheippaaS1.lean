/- The state 'text' of the word machine: sizes, well-formedness, the walk. -/
import Derived.Test.YtpadnckmheippaaC10
import Derived.Test.YtpadnckmheippaaCh
namespace Go.Proofs.Ytpadnckmheippaa
open Go.RowKit
set_option linter.unusedVariables false

def LV.sz (l : LV) : Nat := l.parts.length + l.lit.length
/-- How great the machine is. -/
def MS.sz (m : MS) : Nat := (m.lower.map LV.sz).sum + m.lower.length + m.top.sz + m.took.length + m.plain.length + m.buf.length + m.deep
/-- The first level is no inner one. -/
def MS.wf (m : MS) : Prop := ((m.lower ++ [m.top]).head?.map LV.place) = some 0
theorem MR.sizes (x : MR) {N : Nat} (h : x.ms.sz ≤ N) : x.lower.length ≤ N ∧ x.top.parts.length ≤ N ∧ x.top.lit.length ≤ N ∧ x.took.length ≤ N ∧ x.plain.length ≤ N ∧ x.buf.length ≤ N ∧ x.deep ≤ N ∧ ∀ l ∈ x.lower, l.parts.length ≤ N ∧ l.lit.length ≤ N := by
  simp only [MS.sz, MR.ms, LV.sz, RL.lv, List.length_map] at h
  refine ⟨by omega, by omega, by omega, by omega, by omega, by omega, by omega, fun l hl => ?_⟩
  have h2 : l.parts.length + l.lit.length ≤ ((x.lower.map RL.lv).map LV.sz).sum := by
    clear h
    generalize x.lower = ls at *
    induction ls with
    | nil => cases hl
    | cons a ls ih =>
      simp only [List.map_cons, List.sum_cons]
      rcases List.mem_cons.1 hl with rfl | hl
      · simp [LV.sz, RL.lv]
      · have := ih hl
        omega
  omega
theorem MR.inner (x : MR) (h : x.ms.wf) (hp : x.top.place ≠ 0) : ∃ ls t, x.lower = ls ++ [t] := by
  rcases List.eq_nil_or_concat x.lower with h0 | ⟨ls, t, h0⟩
  · exfalso
    apply hp
    have h1 : x.ms.lower = [] := by simp [MR.ms, h0]
    rw [MS.wf, h1] at h
    simpa [MR.ms, RL.lv] using h
  · exact ⟨ls, t, by rw [h0, List.concat_eq_append]⟩

theorem u8_eq (c k : UInt8) : (c = k) = (c.toNat = k.toNat) := propext ⟨fun h => h ▸ rfl, fun h => UInt8.toNat_inj.1 h⟩
theorem MS.text_nat (m : MS) (c : UInt8) : m.text c =
    if c.toNat = 0 ∨ c.toNat = 96 then (m.turn 17, 3)
    else if m.top.place = 0 ∧ (classOf c = 1 ∨ classOf c = 2 ∨ classOf c = 5) then (({ m with top := m.top.flush }).turn 16, 1)
    else if (m.top.place = 1 ∧ c.toNat = 34) ∨ (m.top.place = 2 ∧ c.toNat = 125) then (m.pop, 0)
    else if c.toNat = 92 then (({ m with quoted := true }).turn 1, 0)
    else if c.toNat = 39 ∧ m.top.place ≠ 1 then (({ m with quoted := true, buf := [] }).turn 12, 0)
    else if c.toNat = 34 then (({ m with quoted := true }).push { place := 1 }, 0)
    else if c.toNat = 36 then (m.turn 2, 0)
    else (m.lits [c], 0) := by
  unfold MS.text
  simp only [u8_eq]
  rfl
/-- What a state does with a byte. -/
def Took (w : World) (B : Bs) (g : Nat) (x : MR) (r : MS × Nat) : Ending → World → Prop := fun e w' => e = .returned (.int .i64 r.2) ∧ Now w B g x r.1 w'

section
variable {w w1 : World} {B : Bs} {g : Nat} {nx : Value} {x : MR}
/-- The buffer is given up. -/
theorem MRep.bufNil (h : MRep w B g nx x) : MRep (w.setCell ⟨g, 7, none⟩ (.slice none 0 0)) B g nx { x with buf := [], vbuf := .slice none 0 0 } ∧ Step (x.foot g) w (MR.foot { x with buf := [], vbuf := .slice none 0 0 } g) (w.setCell ⟨g, 7, none⟩ (.slice none 0 0)) := by
  have hrows : x.rows = [x.levelRow, byteRow x.vtook x.took, byteRow x.vplain x.plain] ++ byteRow x.vbuf x.buf :: (x.lower.flatMap RL.rows ++ [x.top.partRow, byteRow x.top.vlit x.top.lit]) := rfl
  exact MRep.row (r' := byteRow (.slice none 0 0) []) h hrows rfl rfl rfl (World.grownBy.refl w _) ⟨rfl, .inl ⟨rfl, rfl⟩⟩ (.inr (.inl rfl))
theorem MRep.quote (h : MRep w B g nx x) : MRep (w.setCell ⟨g, 6, none⟩ (.bool true)) B g nx { x with quoted := true } ∧ Step (x.foot g) w (MR.foot { x with quoted := true } g) (w.setCell ⟨g, 6, none⟩ (.bool true)) :=
  MRep.field (x' := { x with quoted := true }) h 6 (.bool true) rfl rfl rfl
theorem MRep.expand (h : MRep w B g nx x) : MRep (w.setCell ⟨g, 5, none⟩ (.bool true)) B g nx { x with exp := true } ∧ Step (x.foot g) w (MR.foot { x with exp := true } g) (w.setCell ⟨g, 5, none⟩ (.bool true)) :=
  MRep.field (x' := { x with exp := true }) h 5 (.bool true) rfl rfl rfl
theorem src_one (w : World) (t : TypeId) (c : UInt8) : SrcOK (w.alloc (.cells #[.int .u8 c.toNat] t)) (.slice (some ⟨w.heap.size, 0, none⟩) 1 1) 1 1 (byteCells [c]) :=
  SrcOK.blk (c := 1) (cs := byteCells [c]) (Blk.new w t _) rfl (byteCells_one _)
theorem MRep.new_not (h : MRep w B g nx x) : w.heap.size ∉ x.foot g := by
  intro hm
  simp only [MR.foot, List.mem_cons] at hm
  rcases hm with hm | hm
  · have := h.blk.lt; omega
  · obtain ⟨r, hr, hrb⟩ := mem_blocks.1 hm
    have := ((h.rows.each r hr).lt _ hrb).2; omega
end
end Go.Proofs.Ytpadnckmheippaa
