/- Contracts of the word machine: flush. -/
import Derived.Test.YtpadnckmheippaaC4
import Derived.Deep.RegionLaw
namespace Go.Proofs.Ytpadnckmheippaa
open Go.RowKit
set_option linter.unusedVariables false
section
variable {w : World} {B : Bs} {g : Nat} {nx : Value} {x : MR}
theorem conv_own {P : Program} {src dst e : TypeId} (hs : P.underlying src = some (.slice e)) (he : P.underlying e = some (.int .u8)) (hd : P.underlying dst = some .string) {y : World} {A : Option Addr} {k : Nat} {l : List UInt8} (h : y.ownsRow B 5 1 (.slice A l.length k) l.length (byteCells l)) :
    (convert src dst (.slice A l.length k)).run P y = .ok (.string ⟨l.toArray⟩) y := by
  rcases own_form h with ⟨h1, h2⟩ | ⟨nb, c, h1, _⟩
  · injection h1 with h1 h3 h4
    subst h1 h4
    have hl : l = [] := List.eq_nil_of_length_eq_zero h2
    subst hl
    exact run_convert_bytes_nil y src e hs he 0 0 dst hd
  · injection h1 with h1 h3 h4
    subst h1 h4
    refine run_convert_bytes_back (P := P) y src dst e ⟨nb, 0, none⟩ k l hs he hd fun j hj => ?_
    have hadd : (⟨nb, 0, none⟩ : Addr).add j = ⟨nb, j, none⟩ := by unfold Addr.add; split <;> simp_all
    rw [hadd, own_cell h j (by omega)]
    simp [byteCells, hj]
/-- What flush does. -/
def Flushed (w : World) (B : Bs) (g : Nat) (nx : Value) (x : MR) (w' : World) : Prop := ∃ x' : MR, MRep w' B g nx x' ∧ x'.ms = { x.ms with top := x.ms.top.flush } ∧ Step (x.foot g) w (x'.foot g) w' ∧ x'.lv = x.lv ∧ x'.lower = x.lower
/-- The literal is given up. -/
theorem MRep.litNil (h : MRep w B g nx x) {b c : Nat} (hlv : x.lv = .slice (some ⟨b, 0, none⟩) (x.lower.length + 1) c) :
    MRep (w.setCell ⟨b, x.lower.length * 5 + 2, none⟩ (.slice none 0 0)) B g nx { x with top := { x.top with lit := [], vlit := .slice none 0 0 } } ∧
    Step (x.foot g) w (MR.foot { x with top := { x.top with lit := [], vlit := .slice none 0 0 } } g) (w.setCell ⟨b, x.lower.length * 5 + 2, none⟩ (.slice none 0 0)) := by
  have hrows : x.rows = x.levelRow :: ((byteRow x.vtook x.took :: byteRow x.vplain x.plain :: byteRow x.vbuf x.buf :: (x.lower.flatMap RL.rows ++ [x.top.partRow])) ++ byteRow x.top.vlit x.top.lit :: []) := by simp [MR.rows]
  refine MRep.topRow (r' := byteRow (.slice none 0 0) []) h hlv (by omega) hrows (by simp [MR.rows, RL.partRow]) rfl rfl rfl rfl (World.grownBy.refl w _) ?_ (.inr (.inl rfl)) fun F' s p hp => ?_
  · exact ⟨rfl, .inl ⟨rfl, rfl⟩⟩
  · exact (h.dead x.top (by simp [MR.levels]) p hp).stepA s

theorem flush_done (h : MRep w B g nx x) {b c : Nat} (hlv : x.lv = .slice (some ⟨b, 0, none⟩) (x.lower.length + 1) c) (hnil : ¬ x.top.lit = []) {ob : Obj} {w3 : World} {nb k : Nat}
    (r1 : w3.ownsRow B 48 5 (.slice (some ⟨nb, 0, none⟩) (x.top.parts.length + 1) k) (x.top.parts.length + 1) (x.top.parts.flatMap partCells ++ zeroPart))
    (r3 : (w.alloc ob).grownBy w3 x.top.vparts.ownBlock) (hnb : x.top.vparts.ownBlock = some nb ∨ w.heap.size ≤ nb) {w1 : World}
    (hw : w1 = put5 w3 nb (x.top.parts.length * 5) (.int .i64 1) (.string ⟨x.top.lit.toArray⟩) (.string ⟨#[]⟩) (.slice none 0 0) (.slice none 0 0)) :
    Flushed w B g nx x ((w1.setCell ⟨b, x.lower.length * 5 + 1, none⟩ (.slice (some ⟨nb, 0, none⟩) (x.top.parts.length + 1) k)).setCell ⟨b, x.lower.length * 5 + 2, none⟩ (.slice none 0 0)) := by
  obtain ⟨hf1, hf2⟩ := h.appPart hlv (PT.leaf 1 x.top.lit) (.slice none 0 0) r1 r3 hnb .nil hw
  obtain ⟨hg1, hg2⟩ := hf1.litNil hlv
  refine ⟨_, hg1, ?_, hf2.trans hg2, rfl, rfl⟩
  have hnil2 : ¬ x.ms.top.lit = [] := hnil
  have e : x.ms.top.flush = { x.ms.top with parts := x.ms.top.parts ++ [PT.leaf 1 x.ms.top.lit], lit := [] } := by
    unfold LV.flush
    rw [if_neg hnil2]
  rw [e]
  simp [MR.ms, RL.lv]

set_option maxHeartbeats 6400000 in
theorem flush_any (h : MRep w B g nx x) {b c : Nat} (hlv : x.lv = .slice (some ⟨b, 0, none⟩) (x.lower.length + 1) c) (hs : x.lower.length ≤ 1000000) (hs1 : x.top.parts.length ≤ 1000000) (hs2 : x.top.lit.length ≤ 1000000) :
    Calls Try.prog 35 #[.pointer (some ⟨b, x.lower.length * 5, none⟩)] w fun e w' => e = .returned (.tuple #[]) ∧ Flushed w B g nx x w' := by
  have hP := h.partsOwn
  obtain ⟨PA, Pc, hPv⟩ := own_val hP
  have hL := h.litOwn
  obtain ⟨LA, Lc, hLv⟩ := own_val hL
  have d0 := (h.topCell hlv 1 (by omega)).1
  have df := (h.topCell hlv 1 (by omega)).2
  have l0 := (h.topCell hlv 2 (by omega)).1
  have lf := (h.topCell hlv 2 (by omega)).2
  simp only [RL.cells, List.getElem?_cons_zero, List.getElem?_cons_succ, hPv, hLv] at d0 l0
  rw [hPv] at hP
  rw [hLv] at hL
  have hne1 : (Value.slice PA x.top.parts.length Pc).ownBlock ≠ some b := hPv ▸ h.partsNe hlv
  have hBw := h.base_le
  have hbw2 : b < w.heap.size := World.block_lt_of_cell? w _ d0
  have hPl := hP.1
  have hi0 : (0 : Int) ≤ (x.top.parts.length : Int) := by omega
  have hi1 : (x.top.parts.length : Int) < ((x.top.parts.length + 1 : Nat) : Int) := by omega
  have hi2 : (x.top.parts.length : Int) < (x.top.parts.length : Int) + 1 := by omega
  by_cases hnil : x.top.lit = []
  · have hms : x.ms = { x.ms with top := x.ms.top.flush } := by simp [MR.ms, RL.lv, LV.flush, hnil]
    have hl0 : x.top.lit.length = 0 := by rw [hnil]; rfl
    rw [hl0] at l0
    have H0 := Lib.hid h
    have HMS := Lib.hid hms
    clear h hP hL hPv hLv hms hnil hlv
    go_enter Try.func35, Try.ntmps35
    go_wp2
    go_end0
    exact ⟨rfl, x, H0.out, HMS.out, Step.refl _ _, rfl, rfl⟩
  · have hpos : 0 < x.top.lit.length := List.length_pos_iff.2 hnil
    have hpos2 : decide ((0 : Int) < (x.top.lit.length : Int)) = true := by simp; omega
    have H0 := Lib.hid h
    have HP := Lib.hid hP
    have HL := Lib.hid hL
    have HPV := Lib.hid hPv
    have HLV := Lib.hid hlv
    clear h hP hL hPv hLv hlv
    have cv0 := conv_own (P := Try.prog) (y := w.drew) Try.underlying55 Try.underlying5 Try.underlying9 HL.out.drew
    have cv1 := conv_own (P := Try.prog) (y := (w.alloc (.cells zeroPart.toArray 48)).drew) Try.underlying55 Try.underlying5 Try.underlying9 (HL.out.alloc _).drew
    have cv2 := conv_own (P := Try.prog) (y := w.drew.alloc (.cells zeroPart.toArray 48)) Try.underlying55 Try.underlying5 Try.underlying9 (HL.out.drew.alloc _)
    simp only [zeroPart] at cv1 cv2
    go_enter Try.func35, Try.ntmps35
    go_wp2_with fail
    go_region_law (first
      | (refine step_app ElPart (.tmp 11) (.tmp 19) ?_ ?_ (base := B) (n := x.top.parts.length) (m := 1) (N := x.top.parts.length + 1) (v := .slice PA x.top.parts.length Pc) (src := .slice (some ⟨w.heap.size, 0, none⟩) 1 1) (xs := x.top.parts.flatMap partCells) (news := zeroPart) ?_ ?_ ?_ ?_ ?_ ?_ ?_ ?_ ?_
         · rfl
         · rfl
         · rfl
         · rfl
         · exact (HP.out.alloc _)
         · exact SrcOK.blk (c := 1) (Blk.new _ 48 _) rfl (by simp [zeroPart, Value.oneCell'])
         · rfl
         · unfold maxLen; omega
         · omega
         · simp; omega
         intro A k3 w3 r1 r2 r3
         obtain ⟨nb, rfl, q, qf⟩ := app_room r1 rfl hPl
         have q0 := q 0 (by omega)
         have q1 := q 1 (by omega)
         have q2 := q 2 (by omega)
         have q3 := q 3 (by omega)
         have q4 := q 4 (by omega)
         simp only [zeroPart, List.getElem?_cons_zero, List.getElem?_cons_succ, Nat.add_zero] at q0 q1 q2 q3 q4
         have qf0 := qf (x.top.parts.length * 5)
         have qf1 := qf (x.top.parts.length * 5 + 1)
         have qf2 := qf (x.top.parts.length * 5 + 2)
         have qf3 := qf (x.top.parts.length * 5 + 3)
         have qf4 := qf (x.top.parts.length * 5 + 4)
         have eb : w3.heap[b]? = w.heap[b]? := (r3.1.block b (by simp; omega) (Ne.symm hne1)).trans (Below.heap_alloc _ _ _ hbw2)
         have k0 := (cell_of_block (w := w) eb).trans d0
         have kf := (frozen_of_block (j := x.lower.length * 5 + 1) eb).trans df
         have m0 := (cell_of_block (w := w) eb).trans l0
         have mf := (frozen_of_block (j := x.lower.length * 5 + 2) eb).trans lf
         have hnb0 : (Value.slice PA x.top.parts.length Pc).ownBlock = some nb ∨ nb = w.heap.size + 1 := by
           rcases r3.2 with r4 | r4
           · exact .inl r4.symm
           · simp only [Value.ownBlock, Option.some.injEq] at r4
             subst r4
             exact .inr (by simp)
         have hnb1 : ¬ nb = b := by
           rintro rfl
           rcases hnb0 with h | h
           · exact hne1 h
           · omega
         have hnb2 : ¬ b = nb := fun e => hnb1 e.symm
         have hnb5 : (Value.slice PA x.top.parts.length Pc).ownBlock = some nb ∨ w.heap.size ≤ nb := by
           rcases hnb0 with h | h
           · exact .inl h
           · exact .inr (by omega)
         have hgr : (w.alloc (.cells zeroPart.toArray 48)).grownBy w3 x.top.vparts.ownBlock := by
           rw [HPV.out]
           exact ⟨r3.1.os, r3.1.tape, r3.1.output, r3.1.size, r3.1.block⟩
         have HG := Lib.hid hgr
         have HR1 := Lib.hid r1
         clear r1 r2 r3 q qf hgr))
    all_goals go_wp2
    all_goals go_end0
    all_goals refine ⟨rfl, ?_⟩
    all_goals have hfin := flush_done H0.out HLV.out hnil HR1.out HG.out (HPV.out ▸ hnb5) rfl
    all_goals have hcom := put5_comm w3 (p := ⟨b, x.lower.length * 5 + 1, none⟩) (x.top.parts.length * 5) hnb1
    all_goals unfold put5 at hfin hcom
    all_goals first
      | (with_reducible exact hfin)
      | (rw [hcom]; with_reducible exact hfin)
end
end Go.Proofs.Ytpadnckmheippaa
