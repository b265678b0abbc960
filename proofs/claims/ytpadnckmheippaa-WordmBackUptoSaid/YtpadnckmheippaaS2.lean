/- The state 'text' of the word machine. -/
import Derived.Test.YtpadnckmheippaaS1
namespace Go.Proofs.Ytpadnckmheippaa
open Go.RowKit
set_option linter.unusedVariables false
section
variable {w w1 : World} {B : Bs} {g : Nat} {nx : Value} {x : MR}
theorem lit_now {w3 w2 : World} {y : MR} {m : MS} (hs : Step (x.foot g) w (x.foot g) w1) (hb : Below w1.heap.size w1 w2) (h1 : MRep w1 B g (nextVal x.kind g) x) (h3 : MRep w3 B g (nextVal x.kind g) y) (e3 : y.ms = m) (s3 : Step (x.foot g) w2 (y.foot g) w3) (hk : m.kind = x.kind := by rfl) : Now w B g x m w3 := by
  have hky : y.kind = x.kind := by rw [← hk, ← e3]; rfl
  exact ⟨y, by rw [hky]; exact h3, e3, (hs.trans (h1.grown hb).2).trans s3⟩

set_option maxRecDepth 100000 in
set_option maxHeartbeats 3200000 in
theorem text_zero (h : MRep w B g (nextVal x.kind g) x) (hz : x.ms.sz ≤ 900000) (hp0 : x.top.place = 0) (c : UInt8) :
    Calls Try.prog 36 #[.pointer (some ⟨g, 0, none⟩), .int .u8 c.toNat] w (Took w B g x (x.ms.text c)) := by
  obtain ⟨b, cc, hlv, hbg, hblt, hcap, -⟩ := h.lvl
  obtain ⟨z1, z2, z3, z4, z5, z6, z7, z8⟩ := x.sizes hz
  have ht := top_any h hlv (by omega)
  have HT := Lib.hid ht
  have HLV := Lib.hid hlv
  have H0 := Lib.hid h
  clear ht hlv h
  go_enter Try.func36, Try.ntmps36
  go_wp2_with fail
  refine HT.out.mono ?_
  rintro e w1 ⟨rfl, m, rfl⟩
  obtain ⟨h1, s1⟩ := H0.out.grown (below_drewN w m)
  generalize w.drewN m = w1 at *
  have d0 := (h1.topCell HLV.out 0 (by omega)).1
  simp only [RL.cells, List.getElem?_cons_zero, Nat.add_zero, hp0] at d0
  have hq := h1.quote
  have hqb := hq.1.bufNil
  have q6 := h1.blk.cell 6
  have q7 := h1.blk.cell 7
  have f6 := h1.blk.frozen 6
  have f7 := h1.blk.frozen 7
  simp only [MR.cells, List.getElem?_toArray, List.getElem?_cons_zero, List.getElem?_cons_succ] at q6 q7
  have hgl := h1.blk.lt
  have HN := Lib.hid h1.new_not
  have HM := Lib.hid h1
  have HS := Lib.hid s1
  have HQ := Lib.hid hq
  have HQB := Lib.hid hqb
  have HT2 := Lib.hid (top_any h1 HLV.out (by omega))
  clear h1 s1 HT hq hqb z8
  go_wp2_with fail
  refine (class_any c _).mono ?_
  rintro e w2 ⟨rfl, hw⟩
  subst hw
  go_wp2_with (first
    | (go_at_call 66; refine (wrong_any HM.out).mono ?_; rintro e w3 ⟨rfl, h3, s3⟩
       have HF : Hid (Now w B g x (x.ms.turn 17) w3) := Lib.hid ⟨{ x with kind := 17 }, h3, rfl, HS.out.trans s3⟩
       clear h3 s3)
    | (go_at_call 68; refine (goes_any HM.out 2 (by omega)).mono ?_; rintro e w3 ⟨rfl, h3, s3⟩
       have HF : Hid (Now w B g x (x.ms.turn 2) w3) := Lib.hid ⟨{ x with kind := 2 }, h3, rfl, HS.out.trans s3⟩
       clear h3 s3)
    | (go_at_call 68; refine (goes_any HQ.out.1 1 (by omega)).mono ?_; rintro e w3 ⟨rfl, h3, s3⟩
       have HF : Hid (Now w B g x (({ x.ms with quoted := true }).turn 1) w3) := Lib.hid ⟨{ x with quoted := true, kind := 1 }, h3, rfl, (HS.out.trans HQ.out.2).trans s3⟩
       clear h3 s3)
    | (go_at_call 68; refine (goes_any HQB.out.1 12 (by omega)).mono ?_; rintro e w3 ⟨rfl, h3, s3⟩
       have HF : Hid (Now w B g x (({ x.ms with quoted := true, buf := [] }).turn 12) w3) := Lib.hid ⟨{ x with quoted := true, buf := [], vbuf := .slice none 0 0, kind := 12 }, h3, rfl, ((HS.out.trans HQ.out.2).trans HQB.out.2).trans s3⟩
       clear h3 s3)
    | (go_at_call 69; refine (push_any HQ.out.1 (by show x.lower.length ≤ 1000000; omega) 1 [] []).mono ?_; rintro e w3 ⟨rfl, h3⟩
       have HF : Hid (Now w B g x (({ x.ms with quoted := true }).push { place := 1 }) w3) := Lib.hid (by obtain ⟨y, hy1, hy2, hy3⟩ := h3; exact ⟨y, hy1, hy2, (HS.out.trans HQ.out.2).trans hy3⟩)
       clear h3)
    | (go_at_call 70; refine (lit_any (l := [c]) (HM.out.grown (below_alloc _ _)).1 (src_one _ 5 c) (by intro k hk; cases hk; exact HN.out) (by omega) (by simp) (by omega) (by omega)).mono ?_; rintro e w3 ⟨rfl, y, h3, e3, s3⟩
       have HF : Hid (Now w B g x (x.ms.lits [c]) w3) := Lib.hid (lit_now HS.out (below_alloc _ _) HM.out h3 e3 s3)
       clear h3 s3 e3)
    | (go_at_call 34; refine HT2.out.mono ?_; rintro e w3 ⟨rfl, m3, rfl⟩
       obtain ⟨h3, s3⟩ := HM.out.grown (below_drewN w2 m3)
       generalize w2.drewN m3 = w3 at *
       have HM3 := Lib.hid h3
       have HS3 := Lib.hid s3
       clear h3 s3)
    | (go_at_call 35; refine (flush_any HM3.out HLV.out (by omega) (by omega) (by omega)).mono ?_; rintro e w4 ⟨rfl, y, h4, hms, s4, _, _⟩
       have HM4 := Lib.hid h4
       have HS4 := Lib.hid s4
       have HMS4 := Lib.hid hms
       clear h4 s4 hms)
    | (go_at_call 29; refine (turn_any HM4.out 16 (by omega)).mono ?_; rintro e w5 ⟨rfl, h5, s5⟩
       have HF : Hid (Now w B g x (({ x.ms with top := x.ms.top.flush }).turn 16) w5) := Lib.hid ⟨{ y with kind := 16 }, h5, by rw [← HMS4.out]; rfl, ((HS.out.trans HS3.out).trans HS4.out).trans s5⟩
       clear h5 s5))
  all_goals go_ret
  all_goals (
    have hpl : x.ms.top.place = x.top.place := rfl
    try simp only [beq_iff_eq, beq_eq_false_iff_ne] at *
    rw [MS.text_nat]
    repeat (first | rw [if_pos (by omega)] | rw [if_neg (by omega)])
    exact ⟨rfl, HF.out⟩)
end
end Go.Proofs.Ytpadnckmheippaa
