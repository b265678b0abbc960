/- How the word machine lies in memory: rows of its own, apart from each other; parts below closed levels, that nothing turns any more. -/
import Derived.Test.YtpadnckmheippaaApp
import Derived.Test.YtpadnckmheippaaMach
namespace Go.Proofs.Ytpadnckmheippaa
open Go.RowKit
set_option linter.unusedVariables false

/-- w' is w but for the blocks of F, and new ones. -/
structure KeepsL (F : List Nat) (w w' : World) : Prop where
  os : w'.os = w.os
  tape : w'.tape = w.tape
  output : w'.output = w.output
  size : w.heap.size ≤ w'.heap.size
  block : ∀ b, b < w.heap.size → b ∉ F → w'.heap[b]? = w.heap[b]?
theorem KeepsL.refl (F : List Nat) (w : World) : KeepsL F w w := ⟨rfl, rfl, rfl, Nat.le_refl _, fun _ _ _ => rfl⟩
theorem KeepsL.of_below {F : List Nat} {w w' : World} (h : Below w.heap.size w w') : KeepsL F w w' := ⟨h.os, h.tape, h.output, h.size, fun b hb _ => h.block b hb⟩
theorem KeepsL.below {F : List Nat} {B : Nat} {w w' : World} (h : KeepsL F w w') (hF : ∀ b ∈ F, B ≤ b) (hB : B ≤ w.heap.size) : Below B w w' :=
  ⟨h.os, h.tape, h.output, h.size, fun b hb => h.block b (by omega) (fun hm => by have := hF b hm; omega)⟩
theorem KeepsL.grown {F : List Nat} {w w' : World} {row : Option Nat} (h : w.grownBy w' row) (hr : ∀ b, row = some b → b ∈ F) : KeepsL F w w' :=
  ⟨h.os, h.tape, h.output, h.size, fun b hb hn => h.block b hb (fun e => hn (hr b e.symm))⟩

/-- A step: what is kept, and where the new footprint lies. -/
structure Step (F : List Nat) (w : World) (F' : List Nat) (w' : World) : Prop where
  keep : KeepsL F w w'
  foot : ∀ b ∈ F', b ∈ F ∨ w.heap.size ≤ b
theorem Step.refl (F : List Nat) (w : World) : Step F w F w := ⟨KeepsL.refl _ _, fun _ h => .inl h⟩
theorem Step.trans {F F1 F2 : List Nat} {w w1 w2 : World} (h : Step F w F1 w1) (k : Step F1 w1 F2 w2) : Step F w F2 w2 :=
  ⟨⟨k.keep.os.trans h.keep.os, k.keep.tape.trans h.keep.tape, k.keep.output.trans h.keep.output, Nat.le_trans h.keep.size k.keep.size, fun b hb hn =>
    (k.keep.block b (Nat.lt_of_lt_of_le hb h.keep.size) (fun h1 => by rcases h.foot b h1 with h2 | h2; exact hn h2; omega)).trans (h.keep.block b hb hn)⟩,
   fun b hb => by
    rcases k.foot b hb with h1 | h1
    · exact h.foot b h1
    · exact .inr (Nat.le_trans h.keep.size h1)⟩

/-- A row that is owned. -/
structure Row where
  v : Value
  e : TypeId
  size : Nat
  n : Nat
  xs : List Value
def Row.ok (w : World) (B : Nat) (r : Row) : Prop := w.ownsRow B r.e r.size r.v r.n r.xs
def blocks (L : List Row) : List Nat := L.filterMap fun r => r.v.ownBlock
structure Rows (w : World) (B : Nat) (L : List Row) : Prop where
  each : ∀ r ∈ L, r.ok w B
  apart : (blocks L).Nodup

theorem blocks_app (L M : List Row) : blocks (L ++ M) = blocks L ++ blocks M := List.filterMap_append
theorem mem_blocks {L : List Row} {b : Nat} : b ∈ blocks L ↔ ∃ r ∈ L, r.v.ownBlock = some b := by simp [blocks, List.mem_filterMap]
theorem Rows.keep {w w' : World} {B : Nat} {L : List Row} {row : Option Nat} (h : Rows w B L) (hg : w.grownBy w' row) (hr : ∀ b, row = some b → b ∉ blocks L) : Rows w' B L :=
  ⟨fun r hm => (h.each r hm).kept hg (by
    cases hv : r.v.ownBlock with
    | none => exact .inl rfl
    | some b => exact .inr (fun e => hr b e.symm (mem_blocks.2 ⟨r, hm, hv⟩))), h.apart⟩
/-- One row turns. -/
theorem Rows.upd {w w' : World} {B : Nat} {L M : List Row} {r r' : Row} (h : Rows w B (L ++ r :: M)) (hg : w.grownBy w' r.v.ownBlock) (ho : r'.ok w' B)
    (hb : r'.v.ownBlock = r.v.ownBlock ∨ r'.v.ownBlock = none ∨ ∃ b, r'.v.ownBlock = some b ∧ w.heap.size ≤ b) : Rows w' B (L ++ r' :: M) := by
  have hap := h.apart
  rw [blocks_app] at hap
  have hother : ∀ q, q ∈ L ∨ q ∈ M → ∀ b, q.v.ownBlock = some b → r.v.ownBlock ≠ some b := by
    intro q hq b hqb hrb
    have h1 : b ∈ blocks (r :: M) := mem_blocks.2 ⟨r, by simp, hrb⟩
    rcases hq with hq | hq
    · exact (List.nodup_append.1 hap).2.2 b (mem_blocks.2 ⟨q, hq, hqb⟩) b h1 rfl
    · have h2 := (List.nodup_append.1 hap).2.1
      have e : blocks (r :: M) = b :: blocks M := by simp [blocks, hrb]
      rw [e] at h2
      exact (List.nodup_cons.1 h2).1 (mem_blocks.2 ⟨q, hq, hqb⟩)
  have hlt : ∀ q, q ∈ L ∨ q ∈ M → ∀ b, q.v.ownBlock = some b → b < w.heap.size := fun q hq b hqb => ((h.each q (by rcases hq with hq | hq <;> simp [hq])).lt b hqb).2
  refine ⟨fun q hq => ?_, ?_⟩
  · rcases List.mem_append.1 hq with hq | hq
    · refine (h.each q (by simp [hq])).kept hg ?_
      cases hv : q.v.ownBlock with
      | none => exact .inl rfl
      | some b => exact .inr (fun e => hother q (.inl hq) b hv e.symm)
    · rcases List.mem_cons.1 hq with rfl | hq
      · exact ho
      · refine (h.each q (by simp [hq])).kept hg ?_
        cases hv : q.v.ownBlock with
        | none => exact .inl rfl
        | some b => exact .inr (fun e => hother q (.inr hq) b hv e.symm)
  · rw [blocks_app]
    cases hv : r'.v.ownBlock with
    | none =>
      have e : blocks (r' :: M) = blocks M := by simp [blocks, hv]
      rw [e]
      cases hrv : r.v.ownBlock with
      | none =>
        have e2 : blocks (r :: M) = blocks M := by simp [blocks, hrv]
        rwa [e2] at hap
      | some b =>
        have e2 : blocks (r :: M) = b :: blocks M := by simp [blocks, hrv]
        rw [e2] at hap
        exact hap.sublist (List.Sublist.append (List.Sublist.refl _) (List.sublist_cons_self _ _))
    | some b' =>
      have e : blocks (r' :: M) = b' :: blocks M := by simp [blocks, hv]
      rw [e]
      rw [hv] at hb
      rcases hb with hb | hb | ⟨b2, hb, hb2⟩
      · have e2 : blocks (r :: M) = b' :: blocks M := by simp [blocks, ← hb]
        rwa [e2] at hap
      · cases hb
      · cases hb
        have hno : ∀ q, q ∈ L ∨ q ∈ M → q.v.ownBlock ≠ some b' := fun q hq e3 => by have := hlt q hq b' e3; omega
        have hL : b' ∉ blocks L := fun hm => by obtain ⟨q, h1, h2⟩ := mem_blocks.1 hm; exact hno q (.inl h1) h2
        have hM : b' ∉ blocks M := fun hm => by obtain ⟨q, h1, h2⟩ := mem_blocks.1 hm; exact hno q (.inr h1) h2
        have hbase : (blocks L ++ blocks M).Nodup := by
          refine hap.sublist (List.Sublist.append (List.Sublist.refl _) ?_)
          unfold blocks
          exact (List.sublist_cons_self r M).filterMap _
        rw [List.nodup_append] at hbase ⊢
        refine ⟨hbase.1, List.nodup_cons.2 ⟨hM, hbase.2.1⟩, fun x hx y hy => ?_⟩
        rcases List.mem_cons.1 hy with rfl | hy
        · exact fun e4 => hL (e4 ▸ hx)
        · exact hbase.2.2 x hx y hy

/-- The cells of a part whose kids are this value. -/
def partCells (x : PT × Value) : List Value := [.int .i64 x.1.k, .string ⟨x.1.text.toArray⟩, .string ⟨x.1.op.toArray⟩, x.2, x.1.cmds]
theorem partCells_len (x : PT × Value) : (partCells x).length = 5 := rfl
/-- Parts that nothing turns any more: they lie outside of F. -/
inductive Dead (w : World) (F : List Nat) : Value → List PT → Prop where
  | nil : Dead w F (.slice none 0 0) []
  | row (b c : Nat) (cur : Array Value) (l : List (PT × Value)) (hF : b ∉ F) (hb : w.heap[b]? = some (.cells cur 48 (0, 0))) (hc : cur.toList.take (l.length * 5) = l.flatMap partCells) (hl : l.length ≤ c) (hm : c ≤ maxLen)
      (hk : ∀ x ∈ l, Dead w F x.2 x.1.kids) : Dead w F (.slice (some ⟨b, 0, none⟩) l.length c) (l.map (·.1))
theorem Dead.keep {w w' : World} {F F' : List Nat} {v : Value} {ps : List PT} (h : Dead w F v ps) (k : ∀ b, b < w.heap.size → b ∉ F → w'.heap[b]? = w.heap[b]?) (hf : ∀ b ∈ F', b ∈ F ∨ w.heap.size ≤ b) : Dead w' F' v ps := by
  induction h with
  | nil => exact .nil
  | row b c cur l hF hb hc hl hm hk ih =>
    have hlt : b < w.heap.size := (Array.getElem?_eq_some_iff.1 hb).1
    exact .row b c cur l (fun hm => by rcases hf b hm with h1 | h1; exact hF h1; omega) ((k b hlt hF).trans hb) hc hl hm ih
theorem Dead.step {w w' : World} {F F' : List Nat} {v : Value} {ps : List PT} (h : Dead w F v ps) (s : Step F w F' w') : Dead w' F' v ps := h.keep s.keep.block s.foot

/-- A level as it lies in memory. -/
structure RL where
  place : Nat := 0
  parts : List (PT × Value) := []
  vparts : Value := .slice none 0 0
  lit : List UInt8 := []
  vlit : Value := .slice none 0 0
  name : List UInt8 := []
  op : List UInt8 := []
def RL.lv (l : RL) : LV := ⟨l.place, l.parts.map (·.1), l.lit, l.name, l.op⟩
def RL.cells (l : RL) : List Value := [.int .i64 l.place, l.vparts, l.vlit, .string ⟨l.name.toArray⟩, .string ⟨l.op.toArray⟩]
theorem RL.len (l : RL) : l.cells.length = 5 := rfl
def byteCells (l : List UInt8) : List Value := l.map fun b => .int .u8 b.toNat
def byteRow (v : Value) (l : List UInt8) : Row := ⟨v, 5, 1, l.length, byteCells l⟩
def RL.partRow (l : RL) : Row := ⟨l.vparts, 48, 5, l.parts.length, l.parts.flatMap partCells⟩
def RL.rows (l : RL) : List Row := [l.partRow, byteRow l.vlit l.lit]

/-- The machine as it lies in memory. -/
structure MR where
  lower : List RL := []
  top : RL := {}
  lv : Value
  kind : Nat := 0
  took : List UInt8 := []
  vtook : Value := .slice none 0 0
  plain : List UInt8 := []
  vplain : Value := .slice none 0 0
  exp : Bool := false
  quoted : Bool := false
  buf : List UInt8 := []
  vbuf : Value := .slice none 0 0
  deep : Nat := 0
  length : Bool := false
  cut : UInt8 := 0
def MR.ms (x : MR) : MS := ⟨x.lower.map RL.lv, x.top.lv, x.kind, x.took, x.plain, x.exp, x.quoted, x.buf, x.deep, x.length, x.cut⟩
def MR.levels (x : MR) : List RL := x.lower ++ [x.top]
def MR.levelRow (x : MR) : Row := ⟨x.lv, 59, 5, x.levels.length, x.levels.flatMap RL.cells⟩
def MR.rows (x : MR) : List Row := x.levelRow :: byteRow x.vtook x.took :: byteRow x.vplain x.plain :: byteRow x.vbuf x.buf :: (x.lower.flatMap RL.rows ++ [x.top.partRow, byteRow x.top.vlit x.top.lit])
/-- The function that a state's next byte goes to. -/
def nextVal (k g : Nat) : Value :=
  match k with
  | 0 => .func (.func 36) #[.pointer (some ⟨g, 0, none⟩)] #[]
  | 1 => .func (.func 37) #[.pointer (some ⟨g, 0, none⟩)] #[]
  | 2 => .func (.func 38) #[.pointer (some ⟨g, 0, none⟩)] #[]
  | 3 => .func (.func 39) #[.pointer (some ⟨g, 0, none⟩)] #[]
  | 4 => .func (.func 40) #[.pointer (some ⟨g, 0, none⟩)] #[]
  | 5 => .func (.func 41) #[.pointer (some ⟨g, 0, none⟩)] #[]
  | 6 => .func (.func 42) #[.pointer (some ⟨g, 0, none⟩)] #[]
  | 7 => .func (.func 43) #[.pointer (some ⟨g, 0, none⟩)] #[]
  | 8 => .func (.func 43) #[.pointer (some ⟨g, 0, none⟩)] #[]
  | 9 => .func (.func 44) #[.pointer (some ⟨g, 0, none⟩)] #[]
  | 10 => .func (.func 45) #[.pointer (some ⟨g, 0, none⟩)] #[]
  | 11 => .func (.func 46) #[.pointer (some ⟨g, 0, none⟩)] #[]
  | 12 => .func (.func 47) #[.pointer (some ⟨g, 0, none⟩)] #[]
  | 13 => .func (.func 48) #[.pointer (some ⟨g, 0, none⟩)] #[]
  | 14 => .func (.func 49) #[.pointer (some ⟨g, 0, none⟩)] #[]
  | 16 => .func (.func 50) #[] #[]
  | _ => .func (.func 51) #[] #[]
def MR.cells (x : MR) (nx : Value) : Array Value := #[x.lv, nx, .int .i64 x.kind, x.vtook, x.vplain, .bool x.exp, .bool x.quoted, x.vbuf, .int .i64 x.deep, .bool x.length, .int .u8 x.cut.toNat]
def MR.foot (x : MR) (g : Nat) : List Nat := g :: blocks x.rows
/-- Where rows may lie, and which blocks a machine has nothing of. -/
structure Bs where
  n : Nat
  av : List Nat := []
instance : Coe Bs Nat := ⟨Bs.n⟩
theorem Step.av {F F' av : List Nat} {w w' : World} (s : Step F w F' w') : Step (F ++ av) w (F' ++ av) w' :=
  ⟨⟨s.keep.os, s.keep.tape, s.keep.output, s.keep.size, fun b hb hn => s.keep.block b hb (fun hm => hn (List.mem_append_left _ hm))⟩, fun b hb => by
    rcases List.mem_append.1 hb with hb | hb
    · rcases s.foot b hb with h1 | h1
      · exact .inl (List.mem_append_left _ h1)
      · exact .inr h1
    · exact .inl (List.mem_append_right _ hb)⟩
theorem Dead.stepA {w w' : World} {F F' av : List Nat} {v : Value} {ps : List PT} (h : Dead w (F ++ av) v ps) (s : Step F w F' w') : Dead w' (F' ++ av) v ps := h.step s.av
theorem sep_step {w w' : World} {F F' av : List Nat} (h : ∀ b ∈ av, b < w.heap.size ∧ b ∉ F) (s : Step F w F' w') : ∀ b ∈ av, b < w'.heap.size ∧ b ∉ F' := fun b hb => by
  obtain ⟨h1, h2⟩ := h b hb
  refine ⟨Nat.lt_of_lt_of_le h1 s.keep.size, fun hm => ?_⟩
  rcases s.foot b hm with h3 | h3
  · exact h2 h3
  · omega
/-- The machine lies at block g; its next function is nx. -/
structure MRep (w : World) (B : Bs) (g : Nat) (nx : Value) (x : MR) : Prop where
  blk : Blk w g 57 (x.cells nx)
  base : B ≤ g
  rows : Rows w B x.rows
  dead : ∀ l ∈ x.levels, ∀ p ∈ l.parts, Dead w (x.foot g ++ B.av) p.2 p.1.kids
  sep : ∀ b ∈ B.av, b < w.heap.size ∧ b ∉ x.foot g
/-- The machine, its state known. -/
def MOK (w : World) (B : Bs) (g : Nat) (F : List Nat) (m : MS) : Prop := ∃ x : MR, x.ms = m ∧ MRep w B g (nextVal x.kind g) x ∧ F = x.foot g

theorem MRep.g_not {w : World} {B : Bs} {g : Nat} {nx : Value} {x : MR} (h : MRep w B g nx x) : g ∉ blocks x.rows := by
  intro hm
  obtain ⟨r, hr, hb⟩ := mem_blocks.1 hm
  have ho := h.rows.each r hr
  have ht : r.e ≠ 57 := by
    simp only [MR.rows, List.mem_cons, List.mem_append, List.mem_flatMap, List.not_mem_nil, or_false] at hr
    rcases hr with rfl | rfl | rfl | rfl | ⟨l, _, hl⟩ | rfl | rfl
    · show (59 : Nat) ≠ 57; decide
    · show (5 : Nat) ≠ 57; decide
    · show (5 : Nat) ≠ 57; decide
    · show (5 : Nat) ≠ 57; decide
    · simp only [RL.rows, List.mem_cons, List.not_mem_nil, or_false] at hl
      rcases hl with rfl | rfl
      · show (48 : Nat) ≠ 57; decide
      · show (5 : Nat) ≠ 57; decide
    · show (48 : Nat) ≠ 57; decide
    · show (5 : Nat) ≠ 57; decide
  exact own_blk_ne ho h.blk ht hb
/-- A field of the machine is written. -/
theorem MRep.field {w : World} {B : Bs} {g : Nat} {nx nx' : Value} {x x' : MR} (h : MRep w B g nx x) (i : Nat) (u : Value) (hc : (x.cells nx).setIfInBounds i u = x'.cells nx') (hr : x'.rows = x.rows) (hl : x'.levels = x.levels) :
    MRep (w.setCell ⟨g, i, none⟩ u) B g nx' x' ∧ Step (x.foot g) w (x'.foot g) (w.setCell ⟨g, i, none⟩ u) := by
  have hg := h.g_not
  have hgr : w.grownBy (w.setCell ⟨g, i, none⟩ u) (some g) := ⟨rfl, rfl, rfl, by simp [World.setCell], fun k hk hne => Below.heap_setCell _ _ _ _ (by rintro rfl; exact hne rfl)⟩
  have hf : x'.foot g = x.foot g := by simp [MR.foot, hr]
  have hs : Step (x.foot g) w (x'.foot g) (w.setCell ⟨g, i, none⟩ u) := ⟨KeepsL.grown hgr (fun b hb => by cases hb; simp [MR.foot]), fun b hb => .inl (hf ▸ hb)⟩
  refine ⟨⟨hc ▸ h.blk.set_ i u, h.base, hr ▸ h.rows.keep hgr (fun b hb => by cases hb; exact hg), fun l hl' p hp => ?_, sep_step h.sep hs⟩, hs⟩
  exact (h.dead l (hl ▸ hl') p hp).stepA hs
end Go.Proofs.Ytpadnckmheippaa
