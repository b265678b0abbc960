/- Contracts of the word machine: add. -/
import Derived.Test.YtpadnckmheippaaC5
import Derived.Deep.RegionLaw
namespace Go.Proofs.Ytpadnckmheippaa
open Go.RowKit
set_option linter.unusedVariables false
section
variable {w : World} {B : Bs} {g : Nat} {nx : Value} {x : MR}
theorem add_done {w1 w2 : World} {x' : MR} (h1 : MRep w1 B g nx x) (s1 : Step (x.foot g) w (x.foot g) w1) (h2 : MRep w2 B g nx x') {b c : Nat} (hlv : x'.lv = .slice (some ⟨b, 0, none⟩) (x'.lower.length + 1) c) (s2 : Step (x.foot g) w1 (x'.foot g) w2)
    (hms : x'.ms = { x.ms with top := x.ms.top.flush }) (hlow : x'.lower = x.lower) (p : PT) {KA : Option Addr} {Kn Kc : Nat} {CA : Option Addr} {Cn Cc : Nat} (hcm : p.cmds = .slice CA Cn Cc) (hk : Dead w (x.foot g ++ B.av) (.slice KA Kn Kc) p.kids) {ob : Obj} {w3 : World} {nb k : Nat}
    (r1 : w3.ownsRow B 48 5 (.slice (some ⟨nb, 0, none⟩) (x'.top.parts.length + 1) k) (x'.top.parts.length + 1) (x'.top.parts.flatMap partCells ++ zeroPart))
    (r3 : (w2.alloc ob).grownBy w3 x'.top.vparts.ownBlock) (hnb : x'.top.vparts.ownBlock = some nb ∨ w2.heap.size ≤ nb) {w4 : World}
    (hw : w4 = put5 w3 nb (x'.top.parts.length * 5) (.int .i64 p.k) (.string ⟨p.text.toArray⟩) (.string ⟨p.op.toArray⟩) (.slice KA Kn Kc) (.slice CA Cn Cc)) :
    Turns w B g x nx (x.ms.add p) (w4.setCell ⟨b, x.lower.length * 5 + 1, none⟩ (.slice (some ⟨nb, 0, none⟩) (x'.top.parts.length + 1) k)) := by
  rw [← hcm] at hw
  obtain ⟨hf1, hf2⟩ := h2.appPart hlv p (.slice KA Kn Kc) r1 r3 hnb (hk.stepA (s1.trans s2)) hw
  rw [hlow] at hf1 hf2
  refine ⟨_, hf1, ?_, (s1.trans s2).trans hf2⟩
  have e : ∀ y : MR, MR.ms { y with top := { y.top with parts := y.top.parts ++ [(p, .slice KA Kn Kc)], vparts := .slice (some ⟨nb, 0, none⟩) (x'.top.parts.length + 1) k } } = { y.ms with top := { y.ms.top with parts := y.ms.top.parts ++ [p] } } := fun y => by simp [MR.ms, RL.lv]
  have e2 := e x'
  rw [hms] at e2
  simp only [hlow] at e2
  exact e2

set_option maxHeartbeats 6400000 in
theorem add_any (h : MRep w B g nx x) (hs : x.lower.length ≤ 1000000) (hs1 : x.top.parts.length ≤ 1000000) (hs2 : x.top.lit.length ≤ 1000000) (p : PT) (KA : Option Addr) (Kn Kc : Nat) (CA : Option Addr) (Cn Cc : Nat) (hcm : p.cmds = .slice CA Cn Cc) (hk : Dead w (x.foot g ++ B.av) (.slice KA Kn Kc) p.kids) :
    Calls Try.prog 28 #[.pointer (some ⟨g, 0, none⟩), .agg #[.int .i64 p.k, .string ⟨p.text.toArray⟩, .string ⟨p.op.toArray⟩, .slice KA Kn Kc, .slice CA Cn Cc]] w fun e w' => e = .returned (.tuple #[]) ∧ Turns w B g x nx (x.ms.add p) w' := by
  obtain ⟨b, c, hlv, hbg, hblt, hcap, -⟩ := h.lvl
  obtain ⟨hA, sA⟩ := h.grown (below_alloc w (.cells #[.int .i64 p.k, .string ⟨p.text.toArray⟩, .string ⟨p.op.toArray⟩, .slice KA Kn Kc, .slice CA Cn Cc] 48))
  have ht := top_any hA hlv hs
  have hbx : Blk (w.alloc (.cells #[.int .i64 p.k, .string ⟨p.text.toArray⟩, .string ⟨p.op.toArray⟩, .slice KA Kn Kc, .slice CA Cn Cc] 48)) w.heap.size 48 #[.int .i64 p.k, .string ⟨p.text.toArray⟩, .string ⟨p.op.toArray⟩, .slice KA Kn Kc, .slice CA Cn Cc] := Blk.new _ _ _
  have hbf : w.heap.size ∉ x.foot g := by
    intro hm
    simp only [MR.foot, List.mem_cons] at hm
    rcases hm with hm | hm
    · have := h.blk.lt; omega
    · obtain ⟨r, hr, hrb⟩ := mem_blocks.1 hm
      have := ((h.rows.each r hr).lt _ hrb).2; omega
  generalize hW : w.alloc (.cells #[.int .i64 p.k, .string ⟨p.text.toArray⟩, .string ⟨p.op.toArray⟩, .slice KA Kn Kc, .slice CA Cn Cc] 48) = w0 at *
  have HT := Lib.hid ht
  have HLV := Lib.hid hlv
  have HA := Lib.hid hA
  have HBX := Lib.hid hbx
  have HK := Lib.hid hk
  have HSA := Lib.hid sA
  have HW := Lib.hid hW
  clear h hlv hA sA hbx ht hk
  go_enter Try.func28, Try.ntmps28
  go_wp2_with fail
  refine HT.out.mono ?_
  rintro e w1 ⟨rfl, m, rfl⟩
  obtain ⟨h1, s1⟩ := HA.out.grown (below_drewN w0 m)
  have s1' := HSA.out.trans s1
  have hbx1 := HBX.out.drewN m
  generalize w0.drewN m = w1 at *
  have HM1 := Lib.hid h1
  have HS1 := Lib.hid s1'
  have HBX1 := Lib.hid hbx1
  clear h1 s1 s1' hbx1 HA HSA HBX HT hW
  go_wp2_with fail
  refine (flush_any HM1.out HLV.out hs hs1 hs2).mono ?_
  rintro e w2 ⟨rfl, x', h2, hms, s2, hlv2, hlow⟩
  have hbx2 : Blk w2 w.heap.size 48 #[.int .i64 p.k, .string ⟨p.text.toArray⟩, .string ⟨p.op.toArray⟩, .slice KA Kn Kc, .slice CA Cn Cc] := by
    have hb := HBX1.out
    exact (s2.keep.block _ hb.lt hbf).trans hb
  have hlv3 := HLV.out
  rw [← hlv2, ← hlow] at hlv3
  have hpl : x'.top.parts.length ≤ 1000001 := by
    have e := congrArg (fun m => m.top.parts.length) hms
    have e2 := flush_len x.ms.top
    have e3 : x.ms.top.parts.length = x.top.parts.length := by simp [MR.ms, RL.lv]
    have e4 : x'.ms.top.parts.length = x'.top.parts.length := by simp [MR.ms, RL.lv]
    simp only [e4] at e
    omega
  have hP := h2.partsOwn
  obtain ⟨PA, Pc, hPv⟩ := own_val hP
  have d0 := (h2.topCell hlv3 1 (by omega)).1
  have df := (h2.topCell hlv3 1 (by omega)).2
  simp only [RL.cells, List.getElem?_cons_zero, List.getElem?_cons_succ, hPv, hlow] at d0
  rw [hlow] at df
  have d1 := hbx2.cell 0
  have d2 := hbx2.cell 1
  have d3 := hbx2.cell 2
  have d4 := hbx2.cell 3
  have d5 := hbx2.cell 4
  simp only [List.getElem?_toArray, List.getElem?_cons_zero, List.getElem?_cons_succ] at d1 d2 d3 d4 d5
  rw [hPv] at hP
  have hsx : w.heap.size < w2.heap.size := hbx2.lt
  have HM2 := Lib.hid h2
  have HS2 := Lib.hid s2
  have HMS := Lib.hid hms
  have HP := Lib.hid hP
  have HLV3 := Lib.hid hlv3
  have HLOW := Lib.hid hlow
  have HLV2 := Lib.hid hlv2
  have HPV := Lib.hid hPv
  have HBX2 := Lib.hid hbx2
  clear h2 s2 hms hP hlv3 hlow hlv2 hPv hbx2
  have hPl := HP.out.1
  have hi0 : (0 : Int) ≤ (x'.top.parts.length : Int) := by omega
  have hi1 : (x'.top.parts.length : Int) < ((x'.top.parts.length + 1 : Nat) : Int) := by omega
  have hi2 : (x'.top.parts.length : Int) < (x'.top.parts.length : Int) + 1 := by omega
  have hbx1 : ¬ b = w.heap.size := by omega
  have hbx2 : ¬ w.heap.size = b := by omega
  have hne1 : (Value.slice PA x'.top.parts.length Pc).ownBlock ≠ some b := HPV.out ▸ HM2.out.partsNe HLV3.out
  have hne2 : (Value.slice PA x'.top.parts.length Pc).ownBlock ≠ some w.heap.size := fun e => by
    have h1 := HM2.out.parts_foot (HPV.out ▸ e)
    rcases HS2.out.foot _ h1 with h2 | h2
    · exact hbf h2
    · have := HBX1.out.lt
      omega
  have hBw := HM2.out.base_le
  have hbw2 : b < w2.heap.size := World.block_lt_of_cell? w2 _ d0
  go_wp2_with fail
  go_region_law (first
    | (refine step_app ElPart (.tmp 12) (.tmp 15) ?_ ?_ (base := B) (n := x'.top.parts.length) (m := 1) (N := x'.top.parts.length + 1) (v := .slice PA x'.top.parts.length Pc) (src := .slice (some ⟨w2.heap.size, 0, none⟩) 1 1) (xs := x'.top.parts.flatMap partCells) (news := zeroPart) ?_ ?_ ?_ ?_ ?_ ?_ ?_ ?_ ?_
       · rfl
       · rfl
       · rfl
       · rfl
       · exact (HP.out.alloc _)
       · exact SrcOK.blk (c := 1) (Blk.new _ 48 _) rfl (by simp [zeroPart, Value.oneCell'])
       · rfl
       · unfold maxLen; omega
       · omega
       · simp; omega
       intro A k3 w3 r1 r2 r3
       obtain ⟨nb, rfl, q, qf⟩ := app_room r1 rfl hPl
       have q0 := q 0 (by omega)
       have q1 := q 1 (by omega)
       have q2 := q 2 (by omega)
       have q3 := q 3 (by omega)
       have q4 := q 4 (by omega)
       simp only [zeroPart, List.getElem?_cons_zero, List.getElem?_cons_succ, Nat.add_zero] at q0 q1 q2 q3 q4
       have qf0 := qf (x'.top.parts.length * 5)
       have qf1 := qf (x'.top.parts.length * 5 + 1)
       have qf2 := qf (x'.top.parts.length * 5 + 2)
       have qf3 := qf (x'.top.parts.length * 5 + 3)
       have qf4 := qf (x'.top.parts.length * 5 + 4)
       have eb : w3.heap[b]? = w2.heap[b]? := (r3.1.block b (by simp; omega) (Ne.symm hne1)).trans (Below.heap_alloc _ _ _ hbw2)
       have ex : w3.heap[w.heap.size]? = w2.heap[w.heap.size]? := (r3.1.block _ (by simp; omega) (Ne.symm hne2)).trans (Below.heap_alloc _ _ _ hsx)
       have k0 := (cell_of_block (w := w2) eb).trans d0
       have k1 := (cell_of_block (w := w2) ex).trans d1
       have k2 := (cell_of_block (w := w2) ex).trans d2
       have k3' := (cell_of_block (w := w2) ex).trans d3
       have k4 := (cell_of_block (w := w2) ex).trans d4
       have k5 := (cell_of_block (w := w2) ex).trans d5
       have kf := (frozen_of_block (j := x.lower.length * 5 + 1) eb).trans df
       have hnb0 : (Value.slice PA x'.top.parts.length Pc).ownBlock = some nb ∨ nb = w2.heap.size + 1 := by
         rcases r3.2 with r4 | r4
         · exact .inl r4.symm
         · simp only [Value.ownBlock, Option.some.injEq] at r4
           subst r4
           exact .inr (by simp)
       have hnb5 : (Value.slice PA x'.top.parts.length Pc).ownBlock = some nb ∨ w2.heap.size ≤ nb := by
         rcases hnb0 with h | h
         · exact .inl h
         · exact .inr (by omega)
       have hnb1 : ¬ nb = b := by
         rintro rfl
         rcases hnb0 with h | h
         · exact hne1 h
         · omega
       have hnb2 : ¬ b = nb := fun e => hnb1 e.symm
       have hnb3 : ¬ nb = w.heap.size := by
         rintro rfl
         rcases hnb0 with h | h
         · exact hne2 h
         · omega
       have hnb4 : ¬ w.heap.size = nb := fun e => hnb3 e.symm
       have hgr : (w2.alloc (.cells zeroPart.toArray 48)).grownBy w3 x'.top.vparts.ownBlock := by
         rw [HPV.out]
         exact ⟨r3.1.os, r3.1.tape, r3.1.output, r3.1.size, r3.1.block⟩
       have HG := Lib.hid hgr
       have HR1 := Lib.hid r1
       have HR3 := Lib.hid r3.2
       clear r1 r2 r3 q qf hgr))
  all_goals go_wp2
  all_goals go_end0
  all_goals refine ⟨rfl, ?_⟩
  all_goals have hfin := add_done HM1.out HS1.out HM2.out HLV3.out HS2.out HMS.out HLOW.out p hcm HK.out HR1.out HG.out (HPV.out ▸ hnb5) rfl
  all_goals have hcom := put5_comm w3 (p := ⟨b, x.lower.length * 5 + 1, none⟩) (x'.top.parts.length * 5) hnb1
  all_goals unfold put5 at hfin hcom
  all_goals first
    | (with_reducible exact hfin)
    | (rw [hcom]; with_reducible exact hfin)
end
end Go.Proofs.Ytpadnckmheippaa
