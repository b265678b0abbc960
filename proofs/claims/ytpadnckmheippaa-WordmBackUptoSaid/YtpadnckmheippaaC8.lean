/- Contracts of the word machine: push. -/
import Derived.Test.YtpadnckmheippaaC7
import Derived.Deep.RegionLaw
namespace Go.Proofs.Ytpadnckmheippaa
open Go.RowKit
set_option linter.unusedVariables false

section
variable {w w1 : World} {B : Bs} {g : Nat} {nx : Value} {x : MR}
theorem grown_from {W w3 : World} {row : Option Nat} (hb : Below w.heap.size w W) (hg : W.grownBy w3 row) : w.grownBy w3 row :=
  ⟨hg.os.trans hb.os, hg.tape.trans hb.tape, hg.output.trans hb.output, Nat.le_trans hb.size hg.size, fun k hk hne => (hg.block k (Nat.lt_of_lt_of_le hk hb.size) hne).trans (hb.block k hk)⟩
theorem blk_new2 (w : World) (o : Obj) (t : TypeId) (cs : Array Value) : Blk ((w.alloc o).alloc (.cells cs t)) (w.heap.size + 1) t cs := by
  have h := Blk.new (w.alloc o) t cs
  have e : (w.alloc o).heap.size = w.heap.size + 1 := by simp
  rwa [e] at h
/-- The machine has turned so, and its next function is its state's. -/
def Now (w : World) (B : Bs) (g : Nat) (x : MR) (m : MS) (w' : World) : Prop := ∃ x' : MR, MRep w' B g (nextVal x'.kind g) x' ∧ x'.ms = m ∧ Step (x.foot g) w (x'.foot g) w'

set_option maxHeartbeats 1600000 in
theorem push_any (h : MRep w B g nx x) (hs : x.lower.length ≤ 1000000) (pl : Nat) (nm op : List UInt8) :
    Calls Try.prog 69 #[.pointer (some ⟨g, 0, none⟩), .agg #[.int .i64 pl, .slice none 0 0, .slice none 0 0, .string ⟨nm.toArray⟩, .string ⟨op.toArray⟩]] w fun e w' => e = .returned (.int .i64 0) ∧ Now w B g x (x.ms.push ⟨pl, [], [], nm, op⟩) w' := by
  obtain ⟨b, c, hlv, hbg, hblt, hcap, hol⟩ := h.lvl
  have hlr : x.levels.length = x.lower.length + 1 := by simp [MR.levels]
  have g0 := h.blk.cell 0
  have gf := h.blk.frozen 0
  simp only [MR.cells, List.getElem?_toArray, List.getElem?_cons_zero, hlv] at g0
  have hglt := h.blk.lt
  have hBw := h.base_le
  have hgx : ¬ g = w.heap.size := by omega
  have hgx2 : ¬ w.heap.size = g := by omega
  have H0 := Lib.hid h
  have HLV := Lib.hid hlv
  have HOL := Lib.hid hol
  clear h hlv hol
  go_enter Try.func69, Try.ntmps69
  go_wp2_with fail
  go_region_law (first
    | (refine step_app ElLevel (.tmp 9) (.tmp 11) ?_ ?_ (base := B) (n := x.lower.length + 1) (m := 1) (N := x.lower.length + 2) (v := .slice (some ⟨b, 0, none⟩) (x.lower.length + 1) c) (src := .slice (some ⟨w.heap.size + 1, 0, none⟩) 1 1) (xs := x.levels.flatMap RL.cells) (news := [.int .i64 pl, .slice none 0 0, .slice none 0 0, .string ⟨nm.toArray⟩, .string ⟨op.toArray⟩]) ?_ ?_ ?_ ?_ ?_ ?_ ?_ ?_ ?_
       · rfl
       · rfl
       · rfl
       · rfl
       · exact ((HOL.out.alloc _).alloc _)
       · exact SrcOK.blk (c := 1) (blk_new2 w _ 59 _).drew rfl (by simp [Value.oneCell'])
       · rfl
       · unfold maxLen; omega
       · omega
       · simp; omega
       intro A k3 w3 r1 r2 r3
       have hgr := grown_from (W := (w.alloc (.cells #[.int .i64 pl, .slice none 0 0, .slice none 0 0, .string ⟨nm.toArray⟩, .string ⟨op.toArray⟩] 59)).alloc (.cells #[.int .i64 pl, .slice none 0 0, .slice none 0 0, .string ⟨nm.toArray⟩, .string ⟨op.toArray⟩] 59)) (((Below.refl _ w).alloc (Nat.le_refl _) _).alloc (by simp) _) ⟨r3.1.os, r3.1.tape, r3.1.output, r3.1.size, r3.1.block⟩
       have hvb : (Value.slice A (x.lower.length + 2) k3).ownBlock = some b ∨ ∃ k, (Value.slice A (x.lower.length + 2) k3).ownBlock = some k ∧ w.heap.size ≤ k := by
         rcases r3.2 with r4 | r4
         · exact .inl r4
         · exact .inr ⟨_, r4, by simp; omega⟩
       have eg : w3.heap[g]? = w.heap[g]? := hgr.block g hglt (fun e => hbg (by cases e; rfl))
       have k0 := (cell_of_block (w := w) eg).trans g0
       have kf := (frozen_of_block (j := 0) eg).trans gf
       have hfin := H0.out.push (l := ⟨pl, [], .slice none 0 0, [], .slice none 0 0, nm, op⟩) HLV.out rfl rfl rfl rfl r1 hgr hvb
       have HF := Lib.hid hfin
       clear r1 r2 r3 hgr hvb hfin eg))
  all_goals go_wp2_with fail
  all_goals refine (goes_any HF.out.1 0 (by omega)).mono ?_
  all_goals rintro e w' ⟨rfl, h1, h2⟩
  all_goals have H1 := Lib.hid h1
  all_goals have H2 := Lib.hid h2
  all_goals clear h1 h2
  all_goals go_wp2
  all_goals go_ret
  all_goals refine ⟨rfl, { x with lower := x.lower ++ [x.top], top := ⟨pl, [], .slice none 0 0, [], .slice none 0 0, nm, op⟩, lv := .slice A (x.lower.length + 2) k3, kind := 0 }, H1.out, ?_, HF.out.2.trans H2.out⟩
  all_goals (unfold MR.ms MS.push; simp only [List.map_append, List.map_cons, List.map_nil]; rfl)
end
end Go.Proofs.Ytpadnckmheippaa
