/- Contracts of the word machine: pop. -/
import Derived.Test.YtpadnckmheippaaC6
import Derived.Test.YtpadnckmheippaaC8
import Derived.Test.YtpadnckmheippaaC9
import Derived.Deep.RegionLaw
import Derived.Deep.RegionHeld3
import Derived.Laws.BitsLemmas
namespace Go.Proofs.Ytpadnckmheippaa
open Go.RowKit
set_option linter.unusedVariables false

section
variable {w w1 : World} {B : Bs} {g : Nat} {nx : Value} {x : MR}
theorem pop_ms {x' y' : MR} {ls : List RL} {t : RL} {v : Value} (hms : x'.ms = { x.ms with top := x.ms.top.flush }) (hlow : x.lower = ls ++ [t]) (hy : y'.ms = (MR.ms { x' with lower := ls, top := t, lv := v }).add (MS.closed x'.top.lv)) :
    MR.ms { y' with kind := 0 } = x.ms.pop := by
  have e1 : MR.ms { y' with kind := 0 } = { y'.ms with kind := 0 } := rfl
  have e2 : MR.ms { x' with lower := ls, top := t, lv := v } = { x'.ms with lower := ls.map RL.lv, top := t.lv } := rfl
  have e3 : x'.top.lv = x.ms.top.flush := congrArg MS.top hms
  have e4 : x.ms.lower = ls.map RL.lv ++ [t.lv] := by show x.lower.map RL.lv = _; rw [hlow]; simp
  rw [e1, hy, e2, hms, e3]
  unfold MS.pop
  rw [e4]
  simp [MS.turn]

set_option maxHeartbeats 1600000 in
theorem pop_any (h : MRep w B g nx x) (hs : x.lower.length ≤ 900000) (hs1 : x.top.parts.length ≤ 900000) (hs2 : x.top.lit.length ≤ 900000) {ls : List RL} {t : RL} (hlow : x.lower = ls ++ [t]) (hs3 : t.parts.length ≤ 900000) (hs4 : t.lit.length ≤ 900000) :
    Calls Try.prog 67 #[.pointer (some ⟨g, 0, none⟩)] w fun e w' => e = .returned (.int .i64 0) ∧ Now w B g x x.ms.pop w' := by
  obtain ⟨b, c, hlv, hbg, hblt, hcap, -⟩ := h.lvl
  have ht := top_any h hlv (by omega)
  have HT := Lib.hid ht
  have HLV := Lib.hid hlv
  have H0 := Lib.hid h
  have HLOW := Lib.hid hlow
  clear ht hlv h hlow
  go_enter Try.func67, Try.ntmps67
  go_wp2_with fail
  refine HT.out.mono ?_
  rintro e w1 ⟨rfl, m, rfl⟩
  obtain ⟨h1, s1⟩ := H0.out.grown (below_drewN w m)
  generalize w.drewN m = w1 at *
  have HM1 := Lib.hid h1
  have HS1 := Lib.hid s1
  clear h1 s1 HT
  go_wp2_with fail
  refine (flush_any HM1.out HLV.out (by omega) (by omega) (by omega)).mono ?_
  rintro e w2 ⟨rfl, x', h2, hms, s2, hlv2, hlow2⟩
  have hlv3 := HLV.out
  rw [← hlv2, ← hlow2] at hlv3
  obtain ⟨PA, Pc, hPv⟩ := own_val h2.partsOwn
  have d0 := (h2.topCell hlv3 0 (by omega)).1
  have d1 := (h2.topCell hlv3 1 (by omega)).1
  have d3 := (h2.topCell hlv3 3 (by omega)).1
  have d4 := (h2.topCell hlv3 4 (by omega)).1
  simp only [RL.cells, List.getElem?_cons_zero, List.getElem?_cons_succ, hPv, hlow2, Nat.add_zero] at d0 d1 d3 d4
  have g0 := h2.blk.cell 0
  have gf := h2.blk.frozen 0
  simp only [MR.cells, List.getElem?_toArray, List.getElem?_cons_zero, hlv3, hlow2] at g0
  have hglt := h2.blk.lt
  have hbw2 : b < w2.heap.size := World.block_lt_of_cell? w2 _ d0
  have HM2 := Lib.hid h2
  have HS2 := Lib.hid s2
  have HMS := Lib.hid hms
  have HLV3 := Lib.hid hlv3
  have HLOW2 := Lib.hid hlow2
  have HPV := Lib.hid hPv
  clear h2 s2 hms hlv3 hlow2 hPv hlv2
  have hgx : ¬ g = w2.heap.size := by omega
  have hgx2 : ¬ w2.heap.size = g := by omega
  have hbx : ¬ b = w2.heap.size := by omega
  have hbx2 : ¬ w2.heap.size = b := by omega
  have hs3' : t.parts.length ≤ 1000000 := by omega
  have hs4' : t.lit.length ≤ 1000000 := by omega
  have hwr : IntKind.i64.wrap (x.lower.length : Int) = (x.lower.length : Int) := by rw [IntKind.wrap_i64]; omega
  have hc0 : (0 : Int) ≤ (x.lower.length : Int) := by omega
  have hc1 : (x.lower.length : Int) ≤ (c : Int) := by omega
  have hlen : x.lower.length = ls.length + 1 := by rw [HLOW.out]; simp
  have hpop := HM2.out.pop (ls := ls) (t := t) (HLOW2.out.trans HLOW.out) (b := b) (c := c) (by rw [HLV3.out, HLOW2.out, hlen])
  rw [← hlen] at hpop
  have HPOP := Lib.hid hpop
  have HLEN := Lib.hid hlen
  clear hpop hlen
  by_cases hpl : x'.top.place = 2
  · have hpl2 : ((x'.top.place : Int) == 2) = true := by simp [hpl]
    have hcl : MS.closed x'.top.lv = PT.mk 5 x'.top.name x'.top.op (x'.top.parts.map (·.1)) noCmds := by exact if_pos hpl
    have HCL := Lib.hid hcl
    clear hcl
    go_wp2_with fail
    go_region_held3 (fun w' => w'.cell? ⟨b, x.lower.length * 5 + 1, none⟩ = some (.slice PA x'.top.parts.length Pc) ∧ w'.cell? ⟨b, x.lower.length * 5 + 3, none⟩ = some (.string ⟨x'.top.name.toArray⟩) ∧ w'.cell? ⟨b, x.lower.length * 5 + 4, none⟩ = some (.string ⟨x'.top.op.toArray⟩)) (go_keep) (fail)
    go_wp2_with fail
    go_region_law (fail)
    all_goals go_wp2_with fail
    all_goals refine (add_any (HPOP.out.1.grown ((((Below.refl _ _).alloc (Nat.le_refl _) _).drew).drew)).1 (by have e := HLEN.out; simp; omega) hs3' hs4' (PT.mk 5 x'.top.name x'.top.op (x'.top.parts.map (·.1)) noCmds) PA _ Pc none 0 0 rfl (HPV.out ▸ HPOP.out.2.2.stepA (HPOP.out.1.grown ((((Below.refl _ _).alloc (Nat.le_refl _) _).drew).drew)).2)).mono ?_
    all_goals rintro e w3 ⟨rfl, y', hy, hyms, sy⟩
    all_goals have HY1 := Lib.hid hy
    all_goals have HYMS := Lib.hid hyms
    all_goals have HSY := Lib.hid sy
    all_goals clear hy hyms sy
    all_goals go_wp2_with fail
    all_goals refine (goes_any HY1.out 0 (by omega)).mono ?_
    all_goals rintro e w4 ⟨rfl, h4, s4⟩
    all_goals have H4 := Lib.hid h4
    all_goals have HS4 := Lib.hid s4
    all_goals clear h4 s4
    all_goals go_wp2
    all_goals go_ret
    all_goals exact ⟨rfl, { y' with kind := 0 }, H4.out, pop_ms HMS.out HLOW.out (by rw [HCL.out]; exact HYMS.out), ((HS1.out.trans HS2.out).trans (HPOP.out.2.1.trans (HPOP.out.1.grown (((((Below.refl _ _).alloc (Nat.le_refl _) _).drew).drew))).2)).trans (HSY.out.trans HS4.out)⟩
  · have hpl2 : ((x'.top.place : Int) == 2) = false := by simp; omega
    have hcl : MS.closed x'.top.lv = PT.mk 4 [] [] (x'.top.parts.map (·.1)) noCmds := if_neg hpl
    have HCL := Lib.hid hcl
    clear hcl
    go_wp2_with fail
    go_region_law (fail)
    all_goals go_wp2_with fail
    all_goals refine (add_any (HPOP.out.1.grown (((Below.refl _ _).alloc (Nat.le_refl _) _).drew)).1 (by have e := HLEN.out; simp; omega) hs3' hs4' (PT.mk 4 [] [] (x'.top.parts.map (·.1)) noCmds) PA _ Pc none 0 0 rfl (HPV.out ▸ HPOP.out.2.2.stepA (HPOP.out.1.grown (((Below.refl _ _).alloc (Nat.le_refl _) _).drew)).2)).mono ?_
    all_goals rintro e w3 ⟨rfl, y', hy, hyms, sy⟩
    all_goals have HY1 := Lib.hid hy
    all_goals have HYMS := Lib.hid hyms
    all_goals have HSY := Lib.hid sy
    all_goals clear hy hyms sy
    all_goals go_wp2_with fail
    all_goals refine (goes_any HY1.out 0 (by omega)).mono ?_
    all_goals rintro e w4 ⟨rfl, h4, s4⟩
    all_goals have H4 := Lib.hid h4
    all_goals have HS4 := Lib.hid s4
    all_goals clear h4 s4
    all_goals go_wp2
    all_goals go_ret
    all_goals exact ⟨rfl, { y' with kind := 0 }, H4.out, pop_ms HMS.out HLOW.out (by rw [HCL.out]; exact HYMS.out), ((HS1.out.trans HS2.out).trans (HPOP.out.2.1.trans (HPOP.out.1.grown ((((Below.refl _ _).alloc (Nat.le_refl _) _).drew))).2)).trans (HSY.out.trans HS4.out)⟩
end
end Go.Proofs.Ytpadnckmheippaa
