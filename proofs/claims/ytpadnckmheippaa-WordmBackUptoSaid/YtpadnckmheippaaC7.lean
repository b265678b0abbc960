/- Contracts of the word machine: push. -/
import Derived.Test.YtpadnckmheippaaC4
import Derived.Deep.RegionLaw
namespace Go.Proofs.Ytpadnckmheippaa
open Go.RowKit
set_option linter.unusedVariables false

theorem Try.infoLevel : (Try.prog.info? 59).map (fun i => (i.zero, i.size, i.bytes)) = some (some (.agg #[.int .i64 0, .slice none 0 0, .slice none 0 0, .string ⟨#[]⟩, .string ⟨#[]⟩]), 5, 88) := by kernel_rfl
theorem ElLevel : El Try.prog 54 59 5 88 := El.of Try.underlying54 Try.infoLevel rfl (by decide)

section
variable {w w1 : World} {B : Bs} {g : Nat} {nx : Value} {x : MR}
theorem Rows.more {L M : List Row} (h : Rows w B L) (ho : ∀ r ∈ M, r.ok w B) (hn : blocks M = []) : Rows w B (L ++ M) := by
  refine ⟨fun r hr => ?_, ?_⟩
  · rcases List.mem_append.1 hr with hr | hr
    · exact h.each r hr
    · exact ho r hr
  · rw [blocks_app, hn, List.append_nil]
    exact h.apart
/-- A level more. -/
theorem MRep.push (h : MRep w B g nx x) {l : RL} {b c : Nat} (hlv : x.lv = .slice (some ⟨b, 0, none⟩) (x.lower.length + 1) c) (hl1 : l.parts = []) (hl2 : l.vparts = .slice none 0 0) (hl3 : l.lit = []) (hl4 : l.vlit = .slice none 0 0) {v : Value}
    (r1 : w1.ownsRow B 59 5 v (x.lower.length + 2) (x.levels.flatMap RL.cells ++ l.cells))
    (hg : w.grownBy w1 (some b)) (hb : v.ownBlock = some b ∨ ∃ k, v.ownBlock = some k ∧ w.heap.size ≤ k) :
    MRep (w1.setCell ⟨g, 0, none⟩ v) B g nx { x with lower := x.lower ++ [x.top], top := l, lv := v } ∧ Step (x.foot g) w (MR.foot { x with lower := x.lower ++ [x.top], top := l, lv := v } g) (w1.setCell ⟨g, 0, none⟩ v) := by
  have hgn := h.g_not
  have hlvb : x.levelRow.v.ownBlock = some b := by simp [MR.levelRow, hlv, Value.ownBlock]
  obtain ⟨b', c', h1, hbg, hblt, _⟩ := h.lvl
  rw [hlv] at h1
  cases h1
  have hrows0 := h.rows
  have e0 : x.rows = [] ++ x.levelRow :: (byteRow x.vtook x.took :: byteRow x.vplain x.plain :: byteRow x.vbuf x.buf :: (x.lower.flatMap RL.rows ++ [x.top.partRow, byteRow x.top.vlit x.top.lit])) := rfl
  rw [e0] at hrows0
  have hr' : MR.rows { x with lower := x.lower ++ [x.top], top := l, lv := v } = ([] ++ (⟨v, 59, 5, x.lower.length + 2, x.levels.flatMap RL.cells ++ l.cells⟩ : Row) :: (byteRow x.vtook x.took :: byteRow x.vplain x.plain :: byteRow x.vbuf x.buf :: (x.lower.flatMap RL.rows ++ [x.top.partRow, byteRow x.top.vlit x.top.lit]))) ++ [l.partRow, byteRow l.vlit l.lit] := by
    simp [MR.rows, MR.levelRow, MR.levels, RL.rows]
  have hrows1 := Rows.upd (r' := ⟨v, 59, 5, x.lower.length + 2, x.levels.flatMap RL.cells ++ l.cells⟩) hrows0 (by rw [hlvb]; exact hg) r1 (by
    rw [hlvb]
    rcases hb with hb | ⟨k, hb, hk⟩
    · exact .inl hb
    · exact .inr (.inr ⟨k, hb, hk⟩))
  have hnew : Rows w1 B (MR.rows { x with lower := x.lower ++ [x.top], top := l, lv := v }) := by
    rw [hr']
    refine hrows1.more (fun r hr => ?_) (by simp [blocks, RL.partRow, byteRow, hl2, hl4, Value.ownBlock])
    simp only [List.mem_cons, List.not_mem_nil, or_false] at hr
    rcases hr with rfl | rfl
    · simp only [Row.ok, RL.partRow, hl1, hl2]
      exact ⟨rfl, .inl ⟨rfl, rfl⟩⟩
    · simp only [Row.ok, byteRow, hl3, hl4]
      exact ⟨rfl, .inl ⟨rfl, rfl⟩⟩
  have hmem : ∀ k, k ∈ blocks (MR.rows { x with lower := x.lower ++ [x.top], top := l, lv := v }) → k ∈ blocks x.rows ∨ w.heap.size ≤ k := by
    intro k hk
    rw [hr', blocks_app, show blocks [l.partRow, byteRow l.vlit l.lit] = [] by simp [blocks, RL.partRow, byteRow, hl2, hl4, Value.ownBlock], List.append_nil] at hk
    obtain ⟨q, hq, hqb⟩ := mem_blocks.1 hk
    rw [List.nil_append] at hq
    rcases List.mem_cons.1 hq with rfl | hq
    · rcases hb with hb | ⟨k2, hb, hk2⟩
      · have hkb : k = b := by rw [hb] at hqb; cases hqb; rfl
        subst hkb
        exact .inl (mem_blocks.2 ⟨x.levelRow, by simp [MR.rows], hlvb⟩)
      · rw [hb] at hqb; cases hqb; exact .inr hk2
    · exact .inl (mem_blocks.2 ⟨q, by rw [e0, List.nil_append]; exact List.mem_cons_of_mem _ hq, hqb⟩)
  have hgn' : g ∉ blocks (MR.rows { x with lower := x.lower ++ [x.top], top := l, lv := v }) := fun hm => by
    have hlt := h.blk.lt
    rcases hmem g hm with h1 | h1
    · exact hgn h1
    · omega
  have hb1 : Blk w1 g 57 (x.cells nx) := h.blk.grown hg (fun e => hbg (by cases e; rfl))
  have hgr : w1.grownBy (w1.setCell ⟨g, 0, none⟩ v) (some g) := ⟨rfl, rfl, rfl, by simp [World.setCell], fun k hk hne => Below.heap_setCell _ _ _ _ (by rintro rfl; exact hne rfl)⟩
  have hs : Step (x.foot g) w (MR.foot { x with lower := x.lower ++ [x.top], top := l, lv := v } g) (w1.setCell ⟨g, 0, none⟩ v) := by
    refine ⟨⟨hgr.os.trans hg.os, hgr.tape.trans hg.tape, hgr.output.trans hg.output, Nat.le_trans hg.size hgr.size, fun k hk hn => ?_⟩, fun k hk => ?_⟩
    · simp only [MR.foot, List.mem_cons, not_or] at hn
      refine (hgr.block k (Nat.lt_of_lt_of_le hk hg.size) (fun e => hn.1 (by cases e; rfl))).trans (hg.block k hk fun e => ?_)
      exact hn.2 (mem_blocks.2 ⟨x.levelRow, by simp [MR.rows], by rw [hlvb]; exact e.symm⟩)
    · simp only [MR.foot, List.mem_cons] at hk ⊢
      rcases hk with rfl | hk
      · exact .inl (.inl rfl)
      · rcases hmem k hk with h1 | h1
        · exact .inl (.inr h1)
        · exact .inr h1
  refine ⟨⟨?_, h.base, hnew.keep hgr (fun b hb => by cases hb; exact hgn'), fun q hq p hp => ?_, sep_step h.sep hs⟩, hs⟩
  · have := hb1.set_ 0 v
    simpa [MR.cells] using this
  · simp only [MR.levels, List.append_assoc, List.mem_append, List.mem_singleton] at hq
    rcases hq with hq | hq | hq
    · exact (h.dead q (by simp [MR.levels, hq]) p hp).stepA hs
    · exact (h.dead q (by simp [MR.levels, hq]) p hp).stepA hs
    · rw [hq, hl1] at hp; cases hp
end
end Go.Proofs.Ytpadnckmheippaa
