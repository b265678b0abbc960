/- The states of the word machine: escaped. -/
import Derived.Test.YtpadnckmheippaaS15
namespace Go.Proofs.Ytpadnckmheippaa
open Go.RowKit
set_option linter.unusedVariables false
section
variable {w w1 : World} {B : Bs} {g : Nat} {nx : Value} {x : MR}
theorem MS.escaped_nat (m : MS) (c : UInt8) : m.escaped c = if c.toNat = 0 ∨ c.toNat = 10 then (m.turn 17, 3) else if m.top.place = 1 ∧ quotes c = false then ((m.lits [92, c]).turn 0, 0) else ((({ m with took := m.took ++ [c] } : MS).add (.leaf 2 [c])).turn 0, 0) := by unfold MS.escaped; simp only [u8_eq]; rfl
theorem src_two (w : World) (t : TypeId) (c d : UInt8) : SrcOK (w.alloc (.cells #[.int .u8 c.toNat, .int .u8 d.toNat] t)) (.slice (some ⟨w.heap.size, 0, none⟩) 2 2) 2 1 (byteCells [c, d]) :=
  SrcOK.blk (c := 2) (cs := byteCells [c, d]) (Blk.new w t _) rfl (byteCells_one _)
set_option maxRecDepth 100000 in
set_option maxHeartbeats 3200000 in
theorem escaped_any (h : MRep w B g (nextVal x.kind g) x) (hz : x.ms.sz ≤ 800000) (c : UInt8) :
    Calls Try.prog 37 #[.pointer (some ⟨g, 0, none⟩), .int .u8 c.toNat] w (Took w B g x (x.ms.escaped c)) := by
  obtain ⟨b, cc, hlv, hbg, hblt, hcap, -⟩ := h.lvl
  obtain ⟨z1, z2, z3, z4, z5, z6, z7, z8⟩ := x.sizes hz
  have HN := Lib.hid (MS.escaped_nat x.ms c)
  have HT := Lib.hid (top_any h hlv (by omega))
  have HLV := Lib.hid hlv
  obtain ⟨TA, Tc, hTv⟩ := own_val h.tookOwn
  have HTV := Lib.hid hTv
  have H0 := Lib.hid h
  have hix : ((Lib.indexByte [36, 96, 34, 92] c < 0) = (quotes c = false)) := by
    have h1 := index_nat [36, 96, 34, 92] c
    have h2 : quotes c = [36, 96, 34, 92].contains c := rfl
    rw [h2, ← h1]
    simp
  have HIX := Lib.hid hix
  have hpl : x.ms.top.place = x.top.place := rfl
  clear hlv h hTv hix z8
  generalize hi : Lib.indexByte [36, 96, 34, 92] c = ix at *
  have HSI : ∀ y, Hid (Calls Try.prog 52 #[.string ⟨#[36, 96, 34, 92]⟩, .int .u8 c.toNat] y fun e w' => e = .returned (.int .i64 ix) ∧ w' = y) := fun y => Lib.hid (by
    have h1 := sindex_any ⟨#[36, 96, 34, 92]⟩ (c.toNat : Int) y
    rw [byte_back] at h1
    rw [← hi]
    exact h1)
  clear hi
  go_enter Try.func37, Try.ntmps37
  go_wp2_with (first
    | (go_at_call 66; refine (wrong_any H0.out).mono ?_; rintro e w3 ⟨rfl, h3, s3⟩
       have HF : Hid (Now w B g x (x.ms.turn 17) w3) := Lib.hid ⟨{ x with kind := 17 }, h3, rfl, s3⟩
       clear h3 s3)
    | (go_at_call 34; refine HT.out.mono ?_; rintro e w1 ⟨rfl, m1, rfl⟩
       obtain ⟨h1, s1⟩ := H0.out.grown (below_drewN w m1)
       generalize w.drewN m1 = w1 at *
       have d0 := (h1.topCell HLV.out 0 (by omega)).1
       simp only [RL.cells, List.getElem?_cons_zero, Nat.add_zero] at d0
       have t0 := h1.blk.cell 3
       have t1 := h1.blk.frozen 3
       simp only [MR.cells, List.getElem?_toArray, List.getElem?_cons_zero, List.getElem?_cons_succ, HTV.out] at t0
       have hgl := h1.blk.lt
       have hBw := h1.base_le
       have hgx : ¬ g = w1.heap.size := by omega
       have hgx2 : ¬ w1.heap.size = g := by omega
       have HTO : Hid (w1.ownsRow B 5 1 (.slice TA x.took.length Tc) x.took.length (byteCells x.took)) := Lib.hid (HTV.out ▸ h1.tookOwn)
       have HNN := Lib.hid h1.new_not
       have HM := Lib.hid h1
       have HS := Lib.hid s1
       have HMA := Lib.hid (h1.grown (below_alloc w1 (.cells (byteCells [c]).toArray 5)))
       clear h1 s1)
    | (go_at_call 52; refine (HSI _).out.mono ?_; rintro e w2 ⟨rfl, hw⟩; cases hw)
    | (go_at_call 70; refine (lit_any (l := [92, c]) (HM.out.grown (below_alloc _ _)).1 (src_two _ 5 92 c) (by intro k hk; cases hk; exact HNN.out) (by omega) (by simp) (by omega) (by omega)).mono ?_; rintro e w3 ⟨rfl, y, h3, e3, s3⟩
       have H2 := Lib.hid h3
       have E2 := Lib.hid e3
       have S2 := Lib.hid ((HS.out.trans (HM.out.grown (below_alloc _ _)).2).trans s3)
       clear h3 s3 e3)
    | (at_builtin; refine wpList_app ElByte (.tmp 9) (.tmp 11) rfl rfl (base := B) (n := x.took.length) (m := 1) (N := x.took.length + 1) (v := .slice TA x.took.length Tc) (xs := byteCells x.took) (news := byteCells [c]) rfl rfl (HTO.out.alloc _) (src_one _ 5 c) rfl (by unfold maxLen; omega) (by omega) (by simp; omega) ?_; intro A k3 w3 r1 r2 r3
       have hh := HMA.out.1.appTook [c] r1 rfl (by rw [HTV.out]; exact r3)
       obtain ⟨⟨k4, k5⟩, hM3, s3⟩ := hh
       rw [HTV.out] at k4
       have hsz4 : (w3.setCell ⟨g, 3, none⟩ (.slice A (x.took.length + 1) k3)).heap.size = w3.heap.size := by simp [World.setCell]
       have cv : (convert 55 9 (.slice (some ⟨w3.heap.size, 0, none⟩) 1 1)).run Try.prog ((w3.setCell ⟨g, 3, none⟩ (.slice A (x.took.length + 1) k3)).alloc (.cells #[.int .u8 c.toNat] 5)) = .ok (.string ⟨#[c]⟩) ((w3.setCell ⟨g, 3, none⟩ (.slice A (x.took.length + 1) k3)).alloc (.cells #[.int .u8 c.toNat] 5)) := by
         have h5 := conv_new (w3.setCell ⟨g, 3, none⟩ (.slice A (x.took.length + 1) k3)) [c]
         rw [hsz4] at h5
         exact h5
       have H4 := Lib.hid (hM3.grown (below_alloc _ (.cells (byteCells [c]).toArray 5)))
       have S4 := Lib.hid ((HS.out.trans HMA.out.2).trans s3)
       clear r1 r2 r3 hM3 s3)
    | (go_at_call 28; refine (add_leaf H4.out.1 (by show (MS.sz { x.ms with took := x.ms.took ++ [c] }) ≤ 900000; simp only [MS.sz, List.length_append, List.length_cons, List.length_nil] at hz ⊢; omega) 2 [c] []).mono ?_; rintro e w5 ⟨rfl, y, h2, e2, s2⟩
       have H2 := Lib.hid h2
       have E2 := Lib.hid e2
       have S2 := Lib.hid ((S4.out.trans H4.out.2).trans s2)
       clear h2 e2 s2)
    | (go_at_call 68; refine (goes_any H2.out 0 (by omega)).mono ?_; rintro e w6 ⟨rfl, h6, s6⟩
       have HF := Lib.hid (now_turns (Step.refl _ _) E2.out S2.out h6 s6)
       clear h6 s6))
  all_goals go_ret
  all_goals (
    have hix := HIX.out
    try simp only [beq_iff_eq, beq_eq_false_iff_ne] at *
    rw [HN.out]
    rw [hpl]
    repeat (first | rw [if_pos (by omega)] | rw [if_neg (by omega)])
    first
      | exact ⟨rfl, HF.out⟩
      | (rw [if_pos ⟨by omega, hix ▸ (by omega)⟩]; exact ⟨rfl, HF.out⟩)
      | (rw [if_neg (fun e => absurd (hix.symm ▸ e.2) (by omega))]; exact ⟨rfl, HF.out⟩))
end
end Go.Proofs.Ytpadnckmheippaa
