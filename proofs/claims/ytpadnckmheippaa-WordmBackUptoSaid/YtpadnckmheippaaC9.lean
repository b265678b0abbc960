/- The word machine in memory: its last level is closed. -/
import Derived.Test.YtpadnckmheippaaC7
namespace Go.Proofs.Ytpadnckmheippaa
open Go.RowKit
set_option linter.unusedVariables false

section
variable {w w1 : World} {B : Bs} {g : Nat} {nx : Value} {x : MR}
theorem MRep.pop (h : MRep w B g nx x) {ls : List RL} {t : RL} (hlow : x.lower = ls ++ [t]) {b c : Nat} (hlv : x.lv = .slice (some ⟨b, 0, none⟩) (ls.length + 2) c) :
    MRep (w.setCell ⟨g, 0, none⟩ (.slice (some ⟨b, 0, none⟩) (ls.length + 1) c)) B g nx { x with lower := ls, top := t, lv := .slice (some ⟨b, 0, none⟩) (ls.length + 1) c } ∧
    Step (x.foot g) w (MR.foot { x with lower := ls, top := t, lv := .slice (some ⟨b, 0, none⟩) (ls.length + 1) c } g) (w.setCell ⟨g, 0, none⟩ (.slice (some ⟨b, 0, none⟩) (ls.length + 1) c)) ∧
    Dead (w.setCell ⟨g, 0, none⟩ (.slice (some ⟨b, 0, none⟩) (ls.length + 1) c)) (MR.foot { x with lower := ls, top := t, lv := .slice (some ⟨b, 0, none⟩) (ls.length + 1) c } g ++ B.av) x.top.vparts (x.top.parts.map (·.1)) := by
  have hgn := h.g_not
  have hll : x.lower.length = ls.length + 1 := by rw [hlow]; simp
  have hlvb : x.levelRow.v.ownBlock = some b := by simp [MR.levelRow, hlv, Value.ownBlock]
  obtain ⟨b', c', h1, hbg, hblt, _, hol⟩ := h.lvl
  rw [hll] at h1 hol
  rw [hlv] at h1
  cases h1
  have e0 : x.rows = [] ++ x.levelRow :: (byteRow x.vtook x.took :: byteRow x.vplain x.plain :: byteRow x.vbuf x.buf :: (ls.flatMap RL.rows ++ [t.partRow, byteRow t.vlit t.lit])) ++ [x.top.partRow, byteRow x.top.vlit x.top.lit] := by
    simp [MR.rows, hlow, RL.rows]
  have hr' : MR.rows { x with lower := ls, top := t, lv := .slice (some ⟨b, 0, none⟩) (ls.length + 1) c } = [] ++ (⟨.slice (some ⟨b, 0, none⟩) (ls.length + 1) c, 59, 5, ls.length + 1, (ls ++ [t]).flatMap RL.cells⟩ : Row) :: (byteRow x.vtook x.took :: byteRow x.vplain x.plain :: byteRow x.vbuf x.buf :: (ls.flatMap RL.rows ++ [t.partRow, byteRow t.vlit t.lit])) := by
    simp [MR.rows, MR.levelRow, MR.levels]
  have hfull := h.rows
  rw [e0] at hfull
  have hpre : Rows w B ([] ++ x.levelRow :: (byteRow x.vtook x.took :: byteRow x.vplain x.plain :: byteRow x.vbuf x.buf :: (ls.flatMap RL.rows ++ [t.partRow, byteRow t.vlit t.lit]))) := by
    refine ⟨fun r hr => hfull.each r (List.mem_append_left _ hr), ?_⟩
    have := hfull.apart
    rw [blocks_app] at this
    exact (List.nodup_append.1 this).1
  have hcut : w.ownsRow B 59 5 (.slice (some ⟨b, 0, none⟩) (ls.length + 1) c) (ls.length + 1) ((ls ++ [t]).flatMap RL.cells) := by
    have h2 := own_take hol (k := ls.length + 1) (by omega)
    rw [fm_take RL.cells 5 RL.len] at h2
    have h3 : x.levels.take (ls.length + 1) = ls ++ [t] := by
      rw [MR.levels, hlow, List.take_append_of_le_length (by simp), List.take_of_length_le (by simp)]
    rwa [h3] at h2
  have hnew := Rows.upd (r' := ⟨.slice (some ⟨b, 0, none⟩) (ls.length + 1) c, 59, 5, ls.length + 1, (ls ++ [t]).flatMap RL.cells⟩) hpre (World.grownBy.refl w _) hcut (.inl (by rw [hlvb]; rfl))
  rw [← hr'] at hnew
  have hmem : ∀ k, k ∈ blocks (MR.rows { x with lower := ls, top := t, lv := .slice (some ⟨b, 0, none⟩) (ls.length + 1) c }) → k ∈ blocks ([] ++ x.levelRow :: (byteRow x.vtook x.took :: byteRow x.vplain x.plain :: byteRow x.vbuf x.buf :: (ls.flatMap RL.rows ++ [t.partRow, byteRow t.vlit t.lit]))) := by
    intro k hk
    obtain ⟨q, hq, hqb⟩ := mem_blocks.1 hk
    rw [hr', List.nil_append] at hq
    rcases List.mem_cons.1 hq with rfl | hq
    · have hkb : k = b := by simpa [Value.ownBlock] using hqb.symm
      subst hkb
      exact mem_blocks.2 ⟨x.levelRow, by simp, hlvb⟩
    · exact mem_blocks.2 ⟨q, by rw [List.nil_append]; exact List.mem_cons_of_mem _ hq, hqb⟩
  have hmem2 : ∀ k, k ∈ blocks (MR.rows { x with lower := ls, top := t, lv := .slice (some ⟨b, 0, none⟩) (ls.length + 1) c }) → k ∈ blocks x.rows := fun k hk => by
    rw [e0, blocks_app]
    exact List.mem_append_left _ (hmem k hk)
  have hgn' : g ∉ blocks (MR.rows { x with lower := ls, top := t, lv := .slice (some ⟨b, 0, none⟩) (ls.length + 1) c }) := fun hm => hgn (hmem2 g hm)
  have hgr : w.grownBy (w.setCell ⟨g, 0, none⟩ (.slice (some ⟨b, 0, none⟩) (ls.length + 1) c)) (some g) := ⟨rfl, rfl, rfl, by simp [World.setCell], fun k hk hne => Below.heap_setCell _ _ _ _ (by rintro rfl; exact hne rfl)⟩
  have hs : Step (x.foot g) w (MR.foot { x with lower := ls, top := t, lv := .slice (some ⟨b, 0, none⟩) (ls.length + 1) c } g) (w.setCell ⟨g, 0, none⟩ (.slice (some ⟨b, 0, none⟩) (ls.length + 1) c)) := by
    refine ⟨KeepsL.grown hgr (fun b hb => by cases hb; simp [MR.foot]), fun k hk => .inl ?_⟩
    simp only [MR.foot, List.mem_cons] at hk ⊢
    rcases hk with rfl | hk
    · exact .inl rfl
    · exact .inr (hmem2 k hk)
  refine ⟨⟨?_, h.base, hnew.keep hgr (fun b hb => by cases hb; exact hgn'), fun q hq p hp => ?_, sep_step h.sep hs⟩, hs, ?_⟩
  · have := h.blk.set_ 0 (.slice (some ⟨b, 0, none⟩) (ls.length + 1) c)
    simpa [MR.cells] using this
  · have hq2 : q ∈ x.levels := by
      simp only [MR.levels, hlow, List.mem_append] at hq ⊢
      exact .inl hq
    exact (h.dead q hq2 p hp).stepA hs
  · have hp : w.ownsRow B 48 5 x.top.vparts x.top.parts.length (x.top.parts.flatMap partCells) := h.rows.each x.top.partRow (by simp [MR.rows])
    rcases hp.2 with ⟨h1, h2⟩ | ⟨pb, cap, cur, h1, h2, h3, h4, h5, h6, h7⟩
    · have hnil : x.top.parts = [] := List.eq_nil_of_length_eq_zero h2
      rw [h1, hnil]
      exact .nil
    · have hpb : x.top.vparts.ownBlock = some pb := by rw [h1]; rfl
      have hpg : pb ≠ g := fun e => hgn (mem_blocks.2 ⟨x.top.partRow, by simp [MR.rows], by rw [← e]; exact hpb⟩)
      rw [h1]
      refine .row pb cap cur x.top.parts ?_ ?_ h7 h4 h5 fun p hp => (h.dead x.top (by simp [MR.levels]) p hp).stepA hs
      · intro hm
        simp only [MR.foot, List.mem_append, List.mem_cons, List.cons_append] at hm
        rcases hm with hm | hm | hm
        · exact hpg hm
        · have hap := hfull.apart
          rw [blocks_app] at hap
          exact (List.nodup_append.1 hap).2.2 pb (hmem pb hm) pb (mem_blocks.2 ⟨x.top.partRow, by simp, hpb⟩) rfl
        · exact (h.sep pb hm).2 (List.mem_cons_of_mem _ (mem_blocks.2 ⟨x.top.partRow, by simp [MR.rows], hpb⟩))
      · rw [Below.heap_setCell _ _ _ _ hpg]
        exact h3
end
end Go.Proofs.Ytpadnckmheippaa
