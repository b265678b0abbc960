/- Contracts of the word machine: a part more. -/
import Derived.Test.YtpadnckmheippaaC3
namespace Go.Proofs.Ytpadnckmheippaa
open Go.RowKit
set_option linter.unusedVariables false

theorem Try.infoPart : (Try.prog.info? 48).map (fun i => (i.zero, i.size, i.bytes)) = some (some (.agg #[.int .i64 0, .string ⟨#[]⟩, .string ⟨#[]⟩, .slice none 0 0, .slice none 0 0]), 5, 88) := by kernel_rfl
theorem ElPart : El Try.prog 22 48 5 88 := El.of Try.underlying22 Try.infoPart rfl (by decide)
def zeroPart : List Value := [.int .i64 0, .string ⟨#[]⟩, .string ⟨#[]⟩, .slice none 0 0, .slice none 0 0]

section
variable {w : World} {B : Bs} {g : Nat} {nx : Value} {x : MR}
theorem MRep.partsOwn (h : MRep w B g nx x) : w.ownsRow B 48 5 x.top.vparts x.top.parts.length (x.top.parts.flatMap partCells) := h.rows.each x.top.partRow (by simp [MR.rows])

/-- The five cells of a part are written. -/
def put5 (w : World) (nb o : Nat) (v0 v1 v2 v3 v4 : Value) : World :=
  ((((w.setCell ⟨nb, o, none⟩ v0).setCell ⟨nb, o + 1, none⟩ v1).setCell ⟨nb, o + 2, none⟩ v2).setCell ⟨nb, o + 3, none⟩ v3).setCell ⟨nb, o + 4, none⟩ v4
theorem setCell_comm (w : World) {p q : Addr} (h : p.block ≠ q.block) (u v : Value) : (w.setCell p u).setCell q v = (w.setCell q v).setCell p u := by
  simp only [World.setCell]
  congr 1
  apply Array.ext_getElem?
  intro i
  simp only [Array.getElem?_modify]
  by_cases h1 : q.block = i
  · subst h1
    rw [if_pos rfl, if_neg h]
    simp [h]
  · rw [if_neg h1]
    by_cases h2 : p.block = i
    · simp [h2, h1]
    · simp [h2, h1]
theorem put5_comm (w : World) {p : Addr} {nb : Nat} (o : Nat) (h : ¬ nb = p.block) (u v0 v1 v2 v3 v4 : Value) : put5 (w.setCell p u) nb o v0 v1 v2 v3 v4 = (put5 w nb o v0 v1 v2 v3 v4).setCell p u := by
  have h' : p.block ≠ nb := fun e => h e.symm
  unfold put5
  rw [setCell_comm w (q := ⟨nb, o, none⟩) h', setCell_comm _ (p := p) (q := ⟨nb, o + 1, none⟩) h', setCell_comm _ (p := p) (q := ⟨nb, o + 2, none⟩) h', setCell_comm _ (p := p) (q := ⟨nb, o + 3, none⟩) h', setCell_comm _ (p := p) (q := ⟨nb, o + 4, none⟩) h']
theorem put5_far (w : World) {nb k : Nat} (o : Nat) (h : k ≠ nb) (v0 v1 v2 v3 v4 : Value) : (put5 w nb o v0 v1 v2 v3 v4).heap[k]? = w.heap[k]? := by
  unfold put5
  rw [Below.heap_setCell _ _ _ _ h, Below.heap_setCell _ _ _ _ h, Below.heap_setCell _ _ _ _ h, Below.heap_setCell _ _ _ _ h, Below.heap_setCell _ _ _ _ h]
theorem put5_own {w3 : World} {n nb k : Nat} {xs : List Value} {v0 v1 v2 v3 v4 : Value} (r1 : w3.ownsRow B 48 5 (.slice (some ⟨nb, 0, none⟩) (n + 1) k) (n + 1) (xs ++ zeroPart)) (hl : xs.length = n * 5) :
    (put5 w3 nb (n * 5) v0 v1 v2 v3 v4).ownsRow B 48 5 (.slice (some ⟨nb, 0, none⟩) (n + 1) k) (n + 1) (xs ++ [v0, v1, v2, v3, v4]) := by
  have h0 := own_set r1 (n * 5) (by omega) v0
  have h1 := own_set h0 (n * 5 + 1) (by omega) v1
  have h2 := own_set h1 (n * 5 + 2) (by omega) v2
  have h3 := own_set h2 (n * 5 + 3) (by omega) v3
  have h4 := own_set h3 (n * 5 + 4) (by omega) v4
  rw [← hl] at h4
  simp only [zeroPart, List.set_append, Nat.lt_irrefl, if_false, Nat.sub_self, List.set_cons_zero, List.set_cons_succ, show ∀ j, ¬ xs.length + j < xs.length from fun j => by omega, Nat.add_sub_cancel_left] at h4
  rw [hl] at h4
  exact h4
/-- A part more at the last level. -/
theorem MRep.appPart1 (h : MRep w B g nx x) {b c : Nat} (hlv : x.lv = .slice (some ⟨b, 0, none⟩) (x.lower.length + 1) c) {w1 : World} {nb k : Nat} (p : PT) (kv : Value)
    (r1 : w1.ownsRow B 48 5 (.slice (some ⟨nb, 0, none⟩) (x.top.parts.length + 1) k) (x.top.parts.length + 1) (x.top.parts.flatMap partCells ++ partCells (p, kv)))
    (hg : w.grownBy w1 x.top.vparts.ownBlock) (hnb : x.top.vparts.ownBlock = some nb ∨ w.heap.size ≤ nb) (hk : Dead w (x.foot g ++ B.av) kv p.kids) :
    MRep (w1.setCell ⟨b, x.lower.length * 5 + 1, none⟩ (.slice (some ⟨nb, 0, none⟩) (x.top.parts.length + 1) k)) B g nx
        { x with top := { x.top with parts := x.top.parts ++ [(p, kv)], vparts := .slice (some ⟨nb, 0, none⟩) (x.top.parts.length + 1) k } } ∧
      Step (x.foot g) w (MR.foot { x with top := { x.top with parts := x.top.parts ++ [(p, kv)], vparts := .slice (some ⟨nb, 0, none⟩) (x.top.parts.length + 1) k } } g)
        (w1.setCell ⟨b, x.lower.length * 5 + 1, none⟩ (.slice (some ⟨nb, 0, none⟩) (x.top.parts.length + 1) k)) := by
  have hrows : x.rows = x.levelRow :: ((byteRow x.vtook x.took :: byteRow x.vplain x.plain :: byteRow x.vbuf x.buf :: (x.lower.flatMap RL.rows)) ++ x.top.partRow :: [byteRow x.top.vlit x.top.lit]) := by simp [MR.rows]
  refine MRep.topRow (r' := ⟨.slice (some ⟨nb, 0, none⟩) (x.top.parts.length + 1) k, 48, 5, x.top.parts.length + 1, (x.top.parts ++ [(p, kv)]).flatMap partCells⟩) h hlv (by omega) hrows ?_ rfl rfl rfl rfl hg ?_ ?_ fun F' s q hq => ?_
  · simp [MR.rows, RL.partRow]
  · unfold Row.ok
    simp only [List.flatMap_append, List.flatMap_singleton]
    exact r1
  · rcases hnb with hnb | hnb
    · exact .inl hnb.symm
    · exact .inr (.inr ⟨nb, rfl, hnb⟩)
  · simp only [List.mem_append, List.mem_singleton] at hq
    rcases hq with hq | rfl
    · exact (h.dead x.top (by simp [MR.levels]) q hq).stepA s
    · exact hk.stepA s
theorem put5_grown {w3 : World} {ob : Obj} {row : Option Nat} {nb : Nat} (o : Nat) (v0 v1 v2 v3 v4 : Value) (r3 : (w.alloc ob).grownBy w3 row) (hnb : row = some nb ∨ w.heap.size ≤ nb) : w.grownBy (put5 w3 nb o v0 v1 v2 v3 v4) row := by
  have hsz : (w.alloc ob).heap.size = w.heap.size + 1 := by simp
  have ho : w3.os = w.os := r3.os
  have htp : w3.tape = w.tape := r3.tape
  have hou : w3.output = w.output := r3.output
  refine ⟨?_, ?_, ?_, ?_, fun i hi hne => ?_⟩
  · simp only [put5, World.setCell]; exact ho
  · simp only [put5, World.setCell]; exact htp
  · simp only [put5, World.setCell]; exact hou
  · have h1 := r3.size
    have h2 : (put5 w3 nb o v0 v1 v2 v3 v4).heap.size = w3.heap.size := by simp only [put5, World.setCell, Array.size_modify]
    omega
  · rw [put5_far _ _ (by
      rintro rfl
      rcases hnb with hnb | hnb
      · exact hne hnb.symm
      · omega)]
    exact (r3.block i (by omega) hne).trans (Below.heap_alloc _ _ _ hi)
theorem MRep.appPart (h : MRep w B g nx x) {b c : Nat} (hlv : x.lv = .slice (some ⟨b, 0, none⟩) (x.lower.length + 1) c) {ob : Obj} {w3 : World} {nb k : Nat} (p : PT) (kv : Value)
    (r1 : w3.ownsRow B 48 5 (.slice (some ⟨nb, 0, none⟩) (x.top.parts.length + 1) k) (x.top.parts.length + 1) (x.top.parts.flatMap partCells ++ zeroPart))
    (r3 : (w.alloc ob).grownBy w3 x.top.vparts.ownBlock) (hnb : x.top.vparts.ownBlock = some nb ∨ w.heap.size ≤ nb) (hk : Dead w (x.foot g ++ B.av) kv p.kids) {w1 : World}
    (hw : w1 = put5 w3 nb (x.top.parts.length * 5) (.int .i64 p.k) (.string ⟨p.text.toArray⟩) (.string ⟨p.op.toArray⟩) kv p.cmds) :
    MRep (w1.setCell ⟨b, x.lower.length * 5 + 1, none⟩ (.slice (some ⟨nb, 0, none⟩) (x.top.parts.length + 1) k)) B g nx
        { x with top := { x.top with parts := x.top.parts ++ [(p, kv)], vparts := .slice (some ⟨nb, 0, none⟩) (x.top.parts.length + 1) k } } ∧
      Step (x.foot g) w (MR.foot { x with top := { x.top with parts := x.top.parts ++ [(p, kv)], vparts := .slice (some ⟨nb, 0, none⟩) (x.top.parts.length + 1) k } } g)
        (w1.setCell ⟨b, x.lower.length * 5 + 1, none⟩ (.slice (some ⟨nb, 0, none⟩) (x.top.parts.length + 1) k)) := by
  have h0 := h.partsOwn.1
  have h1 := put5_own (v0 := .int .i64 p.k) (v1 := .string ⟨p.text.toArray⟩) (v2 := .string ⟨p.op.toArray⟩) (v3 := kv) (v4 := p.cmds) r1 h0
  have h2 := put5_grown (x.top.parts.length * 5) (.int .i64 p.k) (.string ⟨p.text.toArray⟩) (.string ⟨p.op.toArray⟩) kv p.cmds r3 hnb
  rw [← hw] at h1 h2
  exact h.appPart1 hlv p kv h1 h2 hnb hk
theorem MRep.partsNe (h : MRep w B g nx x) {b c : Nat} (hlv : x.lv = .slice (some ⟨b, 0, none⟩) (x.lower.length + 1) c) : x.top.vparts.ownBlock ≠ some b := by
  intro e
  have hap := h.rows.apart
  have e0 : blocks x.rows = b :: blocks (byteRow x.vtook x.took :: byteRow x.vplain x.plain :: byteRow x.vbuf x.buf :: (x.lower.flatMap RL.rows ++ [x.top.partRow, byteRow x.top.vlit x.top.lit])) := by simp [blocks, MR.rows, MR.levelRow, hlv, Value.ownBlock]
  rw [e0] at hap
  exact (List.nodup_cons.1 hap).1 (mem_blocks.2 ⟨x.top.partRow, by simp, e⟩)
theorem MRep.parts_foot (h : MRep w B g nx x) {k : Nat} (e : x.top.vparts.ownBlock = some k) : k ∈ x.foot g := by
  simp only [MR.foot, List.mem_cons]
  exact .inr (mem_blocks.2 ⟨x.top.partRow, by simp [MR.rows], e⟩)

/-- The new place behind an append, to be written. -/
theorem app_room {w3 : World} {e : TypeId} {size n N k : Nat} {A : Option Addr} {xs news : List Value} (r1 : w3.ownsRow B e size (.slice A N k) N (xs ++ news)) (hN : n + 1 = N) (hl : xs.length = n * size) :
    ∃ nb, A = some ⟨nb, 0, none⟩ ∧ (∀ j, j < size → w3.cell? ⟨nb, n * size + j, none⟩ = news[j]?) ∧ ∀ j, w3.frozen? ⟨nb, j, none⟩ = false := by
  subst hN
  rcases own_form r1 with ⟨_, h⟩ | ⟨nb, c, h, _⟩
  · omega
  · cases h
    refine ⟨nb, rfl, fun j hj => ?_, own_frozen r1⟩
    rw [own_cell r1 _ (by rw [Nat.succ_mul]; omega), List.getElem?_append_right (by omega), hl, Nat.add_sub_cancel_left]
theorem cell_of_block {w w' : World} {b j : Nat} (h : w'.heap[b]? = w.heap[b]?) : w'.cell? ⟨b, j, none⟩ = w.cell? ⟨b, j, none⟩ := World.cell?_of_block (w := w) h
theorem flush_len (l : LV) : l.flush.parts.length ≤ l.parts.length + 1 := by
  unfold LV.flush
  split <;> simp
end
end Go.Proofs.Ytpadnckmheippaa
