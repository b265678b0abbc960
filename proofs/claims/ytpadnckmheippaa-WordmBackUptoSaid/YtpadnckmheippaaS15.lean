/- The states of the word machine: arith. -/
import Derived.Test.YtpadnckmheippaaS14
namespace Go.Proofs.Ytpadnckmheippaa
open Go.RowKit
set_option linter.unusedVariables false
section
variable {w w1 : World} {B : Bs} {g : Nat} {nx : Value} {x : MR}
set_option maxRecDepth 100000 in
set_option maxHeartbeats 1600000 in
theorem arith_nul (h : MRep w B g (nextVal x.kind g) x) :
    Calls Try.prog 48 #[.pointer (some ⟨g, 0, none⟩), .int .u8 0] w (Took w B g x (x.ms.arith 0)) := by
  have H0 := Lib.hid h
  clear h
  go_enter Try.func48, Try.ntmps48
  go_wp2_with fail
  refine (wrong_any H0.out).mono ?_
  rintro e w3 ⟨rfl, h3, s3⟩
  have HF : Hid (Now w B g x (x.ms.turn 17) w3) := Lib.hid ⟨{ x with kind := 17 }, h3, rfl, s3⟩
  clear h3 s3
  go_wp2
  go_ret
  rw [MS.arith_nat, if_pos (by decide)]
  exact ⟨rfl, HF.out⟩
set_option maxRecDepth 100000 in
set_option maxHeartbeats 1600000 in
theorem arith_over (h : MRep w B g (nextVal x.kind g) x) (hd0 : x.deep = 0) :
    Calls Try.prog 48 #[.pointer (some ⟨g, 0, none⟩), .int .u8 41] w (Took w B g x (x.ms.arith 41)) := by
  have b8 := h.blk.cell 8
  simp only [MR.cells, List.getElem?_toArray, List.getElem?_cons_zero, List.getElem?_cons_succ, hd0] at b8
  have H0 := Lib.hid h
  have HD0 := Lib.hid hd0
  clear h hd0
  go_enter Try.func48, Try.ntmps48
  go_wp2_with fail
  refine (goes_any H0.out 14 (by omega)).mono ?_
  rintro e w3 ⟨rfl, h3, s3⟩
  have HF : Hid (Now w B g x (x.ms.turn 14) w3) := Lib.hid ⟨{ x with kind := 14 }, h3, rfl, s3⟩
  clear h3 s3
  go_wp2
  go_ret
  have e : x.ms.deep = 0 := HD0.out
  rw [MS.arith_nat, if_neg (by decide), if_pos ⟨by decide, e⟩]
  exact ⟨rfl, HF.out⟩
theorem arith_any (h : MRep w B g (nextVal x.kind g) x) (hz : x.ms.sz ≤ 800000) (c : UInt8) :
    Calls Try.prog 48 #[.pointer (some ⟨g, 0, none⟩), .int .u8 c.toNat] w (Took w B g x (x.ms.arith c)) := by
  by_cases h0 : c.toNat = 0
  · have hc : c = 0 := UInt8.toNat_inj.1 h0
    subst hc
    exact arith_nul h
  by_cases h41 : c.toNat = 41
  · have hc : c = 41 := UInt8.toNat_inj.1 h41
    subst hc
    cases hd : x.deep with
    | zero => exact arith_over h hd
    | succ d => exact arith_close h hz d hd
  by_cases h40 : c.toNat = 40
  · have hc : c = 40 := UInt8.toNat_inj.1 h40
    subst hc
    exact arith_open h hz
  exact arith_else h hz c h0 h41 h40
end
end Go.Proofs.Ytpadnckmheippaa
