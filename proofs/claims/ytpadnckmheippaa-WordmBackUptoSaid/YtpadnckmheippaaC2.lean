/- The machine in memory: a row turns, and with it a field, of the machine or of its last level. -/
import Derived.Test.YtpadnckmheippaaC1
namespace Go.Proofs.Ytpadnckmheippaa
open Go.RowKit
set_option linter.unusedVariables false

section
variable {w w1 w' : World} {B : Bs} {g : Nat} {nx : Value} {x : MR}
/-- Nothing of it turns. -/
theorem MRep.grown (h : MRep w B g nx x) (hb : Below w.heap.size w w') : MRep w' B g nx x ∧ Step (x.foot g) w (x.foot g) w' := by
  have hs : Step (x.foot g) w (x.foot g) w' := ⟨KeepsL.of_below hb, fun b hb => .inl hb⟩
  have hgr : w.grownBy w' none := ⟨hb.os, hb.tape, hb.output, hb.size, fun k hk _ => hb.block k hk⟩
  exact ⟨⟨h.blk.below hb h.blk.lt, h.base, h.rows.keep hgr (fun b hb => by cases hb), fun l hl p hp => (h.dead l hl p hp).stepA hs, sep_step h.sep hs⟩, hs⟩
theorem below_drewN (w : World) (n : Nat) : Below w.heap.size w (w.drewN n) := ⟨rfl, rfl, rfl, Nat.le_refl _, fun _ _ => rfl⟩
theorem below_drew (w : World) : Below w.heap.size w w.drew := ⟨rfl, rfl, rfl, Nat.le_refl _, fun _ _ => rfl⟩
theorem below_alloc (w : World) (o : Obj) : Below w.heap.size w (w.alloc o) := (Below.refl _ _).alloc (Nat.le_refl _) o

theorem MRep.base_le (h : MRep w B g nx x) : B ≤ w.heap.size := by have := h.blk.lt; have := h.base; omega
theorem MRep.lvl (h : MRep w B g nx x) : ∃ b c, x.lv = .slice (some ⟨b, 0, none⟩) (x.lower.length + 1) c ∧ b ≠ g ∧ b < w.heap.size ∧ x.lower.length + 1 ≤ c ∧
    w.ownsRow B 59 5 (.slice (some ⟨b, 0, none⟩) (x.lower.length + 1) c) (x.lower.length + 1) (x.levels.flatMap RL.cells) := by
  have ho : w.ownsRow B 59 5 x.lv x.levels.length (x.levels.flatMap RL.cells) := h.rows.each x.levelRow (by simp [MR.rows])
  have hl : x.levels.length = x.lower.length + 1 := by simp [MR.levels]
  rw [hl] at ho
  rcases own_form ho with ⟨_, h0⟩ | ⟨b, c, h1, h2, h3, h4, h5, cur, h6⟩
  · omega
  · rw [h1] at ho
    exact ⟨b, c, h1, h6.ne_ h.blk (by decide), h3, h4, ho⟩
/-- A cell of the last level. -/
theorem MRep.topCell (h : MRep w B g nx x) {b c : Nat} (hlv : x.lv = .slice (some ⟨b, 0, none⟩) (x.lower.length + 1) c) (j : Nat) (hj : j < 5) : w.cell? ⟨b, x.lower.length * 5 + j, none⟩ = x.top.cells[j]? ∧ w.frozen? ⟨b, x.lower.length * 5 + j, none⟩ = false := by
  obtain ⟨b', c', h1, _, _, _, ho⟩ := h.lvl
  rw [hlv] at h1
  cases h1
  refine ⟨?_, own_frozen ho _⟩
  rw [own_cell ho _ (by omega), fm_get RL.cells 5 RL.len x.levels x.lower.length j (by simp [MR.levels]) hj]
  simp [MR.levels]

theorem levels_set (l : List RL) (t t' : RL) (j : Nat) (u : Value) (hj : j < 5) (h : t.cells.set j u = t'.cells) : ((l ++ [t]).flatMap RL.cells).set (l.length * 5 + j) u = (l ++ [t']).flatMap RL.cells := by
  have hl := fm_len RL.cells 5 RL.len l
  rw [List.flatMap_append, List.flatMap_append, List.flatMap_singleton, List.flatMap_singleton, List.set_append, if_neg (by omega), hl, Nat.add_sub_cancel_left, h]

/-- A row of the machine's own fields turns, then the field. -/
theorem MRep.row {L M : List Row} {r r' : Row} {x' : MR} {i : Nat} {u : Value} (h : MRep w B g nx x) (hr : x.rows = L ++ r :: M) (hr' : x'.rows = L ++ r' :: M) (hc : (x.cells nx).setIfInBounds i u = x'.cells nx) (hl : x'.levels = x.levels)
    (hg : w.grownBy w1 r.v.ownBlock) (ho : r'.ok w1 B) (hb : r'.v.ownBlock = r.v.ownBlock ∨ r'.v.ownBlock = none ∨ ∃ b, r'.v.ownBlock = some b ∧ w.heap.size ≤ b) :
    MRep (w1.setCell ⟨g, i, none⟩ u) B g nx x' ∧ Step (x.foot g) w (x'.foot g) (w1.setCell ⟨g, i, none⟩ u) := by
  have hgn := h.g_not
  have hrg : r.v.ownBlock ≠ some g := fun e => hgn (mem_blocks.2 ⟨r, by rw [hr]; simp, e⟩)
  have hrows1 : Rows w1 B x'.rows := by rw [hr']; exact Rows.upd (r := r) (hr ▸ h.rows) hg ho hb
  have hb1 : Blk w1 g 57 (x.cells nx) := h.blk.grown hg (fun e => hrg e.symm)
  have hgn' : g ∉ blocks x'.rows := by
    intro hm
    obtain ⟨q, hq, hqb⟩ := mem_blocks.1 hm
    rw [hr'] at hq
    have hlt := h.blk.lt
    rcases List.mem_append.1 hq with hq | hq
    · exact hgn (mem_blocks.2 ⟨q, by rw [hr]; simp [hq], hqb⟩)
    · rcases List.mem_cons.1 hq with rfl | hq
      · rcases hb with hb | hb | ⟨b, hb, hb2⟩
        · exact hrg (hb ▸ hqb)
        · rw [hb] at hqb; cases hqb
        · rw [hb] at hqb; cases hqb; omega
      · exact hgn (mem_blocks.2 ⟨q, by rw [hr]; simp [hq], hqb⟩)
  have hgr : w1.grownBy (w1.setCell ⟨g, i, none⟩ u) (some g) := ⟨rfl, rfl, rfl, by simp [World.setCell], fun k hk hne => Below.heap_setCell _ _ _ _ (by rintro rfl; exact hne rfl)⟩
  have hs : Step (x.foot g) w (x'.foot g) (w1.setCell ⟨g, i, none⟩ u) := by
    refine ⟨⟨hgr.os.trans hg.os, hgr.tape.trans hg.tape, hgr.output.trans hg.output, Nat.le_trans hg.size hgr.size, fun b hb hn => ?_⟩, fun b hb' => ?_⟩
    · simp only [MR.foot, List.mem_cons, not_or] at hn
      refine (hgr.block b (Nat.lt_of_lt_of_le hb hg.size) (fun e => hn.1 (by cases e; rfl))).trans (hg.block b hb fun e => ?_)
      exact hn.2 (mem_blocks.2 ⟨r, by rw [hr]; simp, e.symm⟩)
    · simp only [MR.foot, List.mem_cons] at hb' ⊢
      rcases hb' with rfl | hb'
      · exact .inl (.inl rfl)
      · obtain ⟨q, hq, hqb⟩ := mem_blocks.1 hb'
        rw [hr'] at hq
        rcases List.mem_append.1 hq with hq | hq
        · exact .inl (.inr (mem_blocks.2 ⟨q, by rw [hr]; simp [hq], hqb⟩))
        · rcases List.mem_cons.1 hq with rfl | hq
          · rcases hb with hb | hb | ⟨b2, hb, hb2⟩
            · exact .inl (.inr (mem_blocks.2 ⟨r, by rw [hr]; simp, hb ▸ hqb⟩))
            · rw [hb] at hqb; cases hqb
            · rw [hb] at hqb; cases hqb; exact .inr hb2
          · exact .inl (.inr (mem_blocks.2 ⟨q, by rw [hr]; simp [hq], hqb⟩))
  exact ⟨⟨hc ▸ hb1.set_ i u, h.base, hrows1.keep hgr (fun b hb => by cases hb; exact hgn'), fun l hl' p hp => (h.dead l (hl ▸ hl') p hp).stepA hs, sep_step h.sep hs⟩, hs⟩

/-- A row of the last level turns, then the level's field. -/
theorem MRep.topRow {L M : List Row} {r r' : Row} {x' : MR} {j b c : Nat} {u : Value} (h : MRep w B g nx x) (hlv : x.lv = .slice (some ⟨b, 0, none⟩) (x.lower.length + 1) c) (hj : j < 5)
    (hr : x.rows = x.levelRow :: (L ++ r :: M)) (hr' : x'.rows = x'.levelRow :: (L ++ r' :: M)) (hlow : x'.lower = x.lower) (hlv' : x'.lv = x.lv) (hc : x.cells nx = x'.cells nx) (ht : x.top.cells.set j u = x'.top.cells)
    (hg : w.grownBy w1 r.v.ownBlock) (ho : r'.ok w1 B) (hb : r'.v.ownBlock = r.v.ownBlock ∨ r'.v.ownBlock = none ∨ ∃ b, r'.v.ownBlock = some b ∧ w.heap.size ≤ b)
    (hd : ∀ F', Step (x.foot g) w F' (w1.setCell ⟨b, x.lower.length * 5 + j, none⟩ u) → ∀ p ∈ x'.top.parts, Dead (w1.setCell ⟨b, x.lower.length * 5 + j, none⟩ u) (F' ++ B.av) p.2 p.1.kids) :
    MRep (w1.setCell ⟨b, x.lower.length * 5 + j, none⟩ u) B g nx x' ∧ Step (x.foot g) w (x'.foot g) (w1.setCell ⟨b, x.lower.length * 5 + j, none⟩ u) := by
  obtain ⟨b', c', h1, hbg, hblt, hcap, hol⟩ := h.lvl
  rw [hlv] at h1
  cases h1
  have hgn := h.g_not
  have hlb : b ∈ blocks x.rows := mem_blocks.2 ⟨x.levelRow, by rw [hr]; simp, by simp [MR.levelRow, hlv, Value.ownBlock]⟩
  have hrows0 := h.rows
  rw [hr] at hrows0
  have hap := hrows0.apart
  have hrm : ∀ k, r.v.ownBlock = some k → k ∈ blocks (L ++ r :: M) := fun k hk => mem_blocks.2 ⟨r, by simp, hk⟩
  have hlb2 : b ∉ blocks (L ++ r :: M) := by
    have e : blocks (x.levelRow :: (L ++ r :: M)) = b :: blocks (L ++ r :: M) := by simp [blocks, MR.levelRow, hlv, Value.ownBlock]
    rw [e] at hap
    exact (List.nodup_cons.1 hap).1
  have hrb : r.v.ownBlock ≠ some b := fun e => hlb2 (hrm b e)
  have hrg : r.v.ownBlock ≠ some g := fun e => hgn (mem_blocks.2 ⟨r, by rw [hr]; simp, e⟩)
  -- the world behind the row
  have hrows1 : Rows w1 B (x.levelRow :: (L ++ r' :: M)) := Rows.upd (L := x.levelRow :: L) (r := r) hrows0 hg ho hb
  have hgr : w1.grownBy (w1.setCell ⟨b, x.lower.length * 5 + j, none⟩ u) (some b) := ⟨rfl, rfl, rfl, by simp [World.setCell], fun k hk hne => Below.heap_setCell _ _ _ _ (by rintro rfl; exact hne rfl)⟩
  have hol1 : w1.ownsRow B 59 5 (.slice (some ⟨b, 0, none⟩) (x.lower.length + 1) c) (x.lower.length + 1) (x.levels.flatMap RL.cells) := by
    have := hrows1.each x.levelRow (by simp)
    simp only [Row.ok, MR.levelRow, hlv] at this
    have hl : x.levels.length = x.lower.length + 1 := by simp [MR.levels]
    rwa [hl] at this
  have hol2 := own_set hol1 (x.lower.length * 5 + j) (by omega) u
  rw [show x.levels = x.lower ++ [x.top] from rfl, levels_set x.lower x.top x'.top j u hj ht] at hol2
  have hrows2 : Rows (w1.setCell ⟨b, x.lower.length * 5 + j, none⟩ u) B x'.rows := by
    rw [hr']
    have hlok : x'.levelRow.ok (w1.setCell ⟨b, x.lower.length * 5 + j, none⟩ u) B := by
      simp only [Row.ok, MR.levelRow, hlv', hlv, MR.levels, hlow]
      rw [show (x.lower ++ [x'.top]).length = x.lower.length + 1 by simp]
      exact hol2
    refine Rows.upd (L := []) (M := L ++ r' :: M) (r := x.levelRow) (r' := x'.levelRow) hrows1 ?_ hlok (.inl (by simp [MR.levelRow, hlv']))
    have : x.levelRow.v.ownBlock = some b := by simp [MR.levelRow, hlv, Value.ownBlock]
    rw [this]; exact hgr
  have hs : Step (x.foot g) w (x'.foot g) (w1.setCell ⟨b, x.lower.length * 5 + j, none⟩ u) := by
    refine ⟨⟨hgr.os.trans hg.os, hgr.tape.trans hg.tape, hgr.output.trans hg.output, Nat.le_trans hg.size hgr.size, fun k hk hn => ?_⟩, fun k hk' => ?_⟩
    · simp only [MR.foot, List.mem_cons, not_or] at hn
      refine (hgr.block k (Nat.lt_of_lt_of_le hk hg.size) (fun e => hn.2 (by cases e; exact hlb))).trans (hg.block k hk fun e => ?_)
      exact hn.2 (mem_blocks.2 ⟨r, by rw [hr]; simp, e.symm⟩)
    · simp only [MR.foot, List.mem_cons] at hk' ⊢
      rcases hk' with rfl | hk'
      · exact .inl (.inl rfl)
      · obtain ⟨q, hq, hqb⟩ := mem_blocks.1 hk'
        rw [hr'] at hq
        rcases List.mem_cons.1 hq with rfl | hq
        · simp only [MR.levelRow, hlv', hlv, Value.ownBlock, Option.some.injEq] at hqb
          subst hqb
          exact .inl (.inr hlb)
        rcases List.mem_append.1 hq with hq | hq
        · exact .inl (.inr (mem_blocks.2 ⟨q, by rw [hr]; simp [hq], hqb⟩))
        · rcases List.mem_cons.1 hq with rfl | hq
          · rcases hb with hb | hb | ⟨b2, hb, hb2⟩
            · exact .inl (.inr (mem_blocks.2 ⟨r, by rw [hr]; simp, hb ▸ hqb⟩))
            · rw [hb] at hqb; cases hqb
            · rw [hb] at hqb; cases hqb; exact .inr hb2
          · exact .inl (.inr (mem_blocks.2 ⟨q, by rw [hr]; simp [hq], hqb⟩))
  have hb1 : Blk w1 g 57 (x.cells nx) := h.blk.grown hg (fun e => hrg e.symm)
  refine ⟨⟨hc ▸ hb1.far (p := ⟨b, _, none⟩) (fun e => hbg e.symm) u, h.base, hrows2, fun l hl p hp => ?_, sep_step h.sep hs⟩, hs⟩
  simp only [MR.levels, hlow, List.mem_append, List.mem_singleton] at hl
  rcases hl with hl | rfl
  · exact (h.dead l (by simp [MR.levels, hl]) p hp).stepA hs
  · exact hd _ hs p hp
end
end Go.Proofs.Ytpadnckmheippaa
