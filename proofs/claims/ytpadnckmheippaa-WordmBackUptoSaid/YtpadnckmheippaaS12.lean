/- The states of the word machine: arith. -/
import Derived.Test.YtpadnckmheippaaS11
import Derived.Laws.BitsLemmas
namespace Go.Proofs.Ytpadnckmheippaa
open Go.RowKit
set_option linter.unusedVariables false
section
variable {w w1 : World} {B : Bs} {g : Nat} {nx : Value} {x : MR}
theorem MS.arith_nat (m : MS) (c : UInt8) : m.arith c = if c.toNat = 0 then (m.turn 17, 3) else if c.toNat = 41 ∧ m.deep = 0 then (m.turn 14, 0) else if c.toNat = 41 then ({ m with deep := m.deep - 1, buf := m.buf ++ [c] }, 0) else if c.toNat = 40 then ({ m with deep := m.deep + 1, buf := m.buf ++ [c] }, 0) else ({ m with buf := m.buf ++ [c] }, 0) := by unfold MS.arith; simp only [u8_eq]; rfl
theorem MRep.deepSet (h : MRep w B g nx x) (d : Nat) : MRep (w.setCell ⟨g, 8, none⟩ (.int .i64 d)) B g nx { x with deep := d } ∧ Step (x.foot g) w (MR.foot { x with deep := d } g) (w.setCell ⟨g, 8, none⟩ (.int .i64 d)) :=
  MRep.field (x' := { x with deep := d }) h 8 (.int .i64 d) rfl rfl rfl
/-- The last statement: a byte is appended to the buffer. -/
theorem arith_app {x0 : MR} {w0 : World} (s0 : Step (x0.foot g) w0 (x.foot g) w) (h : MRep w B g (nextVal x.kind g) x) (hz : x.buf.length ≤ 900000) (c : UInt8) {ob : Obj} {BA : Option Addr} {Bc : Nat} (hbv : x.vbuf = .slice BA x.buf.length Bc) {A : Option Addr} {k : Nat} {w3 : World}
    (r1 : w3.ownsRow B 5 1 (.slice A (x.buf.length + 1) k) (x.buf.length + 1) (byteCells x.buf ++ byteCells [c])) (r3 : (w.alloc ob).grownBy w3 (Value.slice BA x.buf.length Bc).ownBlock ∧ ((Value.slice A (x.buf.length + 1) k).ownBlock = (Value.slice BA x.buf.length Bc).ownBlock ∨ (Value.slice A (x.buf.length + 1) k).ownBlock = some (w.alloc ob).heap.size)) :
    (w3.cell? ⟨g, 7, none⟩ = some (.slice BA x.buf.length Bc) ∧ w3.frozen? ⟨g, 7, none⟩ = false) ∧ Now w0 B g x0 { x.ms with buf := x.ms.buf ++ [c] } (w3.setCell ⟨g, 7, none⟩ (.slice A (x.buf.length + 1) k)) := by
  have h1 := h.grown (below_alloc w ob)
  have hh := h1.1.appBuf [c] r1 rfl (by rw [hbv]; exact r3)
  obtain ⟨⟨k4, k5⟩, hM3, s3⟩ := hh
  rw [hbv] at k4
  exact ⟨⟨k4, k5⟩, { x with buf := x.buf ++ [c], vbuf := .slice A (x.buf.length + 1) k }, hM3, rfl, (s0.trans h1.2).trans s3⟩
end
end Go.Proofs.Ytpadnckmheippaa
