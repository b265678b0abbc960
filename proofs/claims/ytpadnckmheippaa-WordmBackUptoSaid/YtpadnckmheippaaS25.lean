/- awake: six bytes, and what comes of them. -/
import Derived.Test.YtpadnckmheippaaS24
namespace Go.Proofs.Ytpadnckmheippaa
open Go.RowKit
set_option linter.unusedVariables false
section
variable {w w1 : World} {B : Bs} {g : Nat}
theorem made_next {l : List UInt8} {c : UInt8} {sig : Nat} (h : Made w B g (({} : MS).run l) w1) (hl : l.length ≤ 1000) (hs : ((({} : MS).run l).feed c).2 = sig) :
    Calls Try.prog 18 #[.pointer (some ⟨g, 0, none⟩), .int .u8 c.toNat] w1 fun e w' => e = .returned (.int .i64 sig) ∧ Made w B g (({} : MS).run (l ++ [c])) w' := by
  refine (made_feed h (Good.run Good.new l) (by omega) c).mono ?_
  rintro e w' ⟨rfl, h2⟩
  rw [hs, mrun_app]
  exact ⟨rfl, h2⟩
end
/-- What is to be read of two parts of which the second has one kid. -/
theorem read_two {w : World} {F : List Nat} {v : Value} {p q k : PT} (h : Dead w F v [p, q]) (hk : q.kids = [k]) :
    ∃ b c b2 c2, v = .slice (some ⟨b, 0, none⟩) 2 c ∧ 2 ≤ c ∧ b < w.heap.size ∧ w.cell? ⟨b, 8, none⟩ = some (.slice (some ⟨b2, 0, none⟩) 1 c2) ∧ 1 ≤ c2 ∧ b2 < w.heap.size ∧ w.cell? ⟨b2, 1, none⟩ = some (.string ⟨k.text.toArray⟩) := by
  rcases h.read with ⟨_, h0⟩ | ⟨b, c, l, rfl, hl, hc, _, hb, hcell, hkids⟩
  · cases h0
  · match l, hl with
    | [x, y], hl =>
      simp only [List.map_cons, List.map_nil, List.cons.injEq, and_true] at hl
      have h1 := hcell 1 3 (by simp) (by omega)
      have h2 := hkids y (by simp)
      rw [hl.2, hk] at h2
      rcases h2.read with ⟨_, h0⟩ | ⟨b2, c2, l2, hv2, hl2, hc2, _, hb2, hcell2, _⟩
      · cases h0
      · match l2, hl2 with
        | [z], hl2 =>
          simp only [List.map_cons, List.map_nil, List.cons.injEq, and_true] at hl2
          have h3 := hcell2 0 1 (by simp) (by omega)
          refine ⟨b, c, b2, c2, rfl, hc, hb, ?_, hc2, hb2, ?_⟩
          · rw [h1]
            show some y.2 = _
            rw [hv2]; rfl
          · rw [h3]
            show some (Value.string ⟨z.1.text.toArray⟩) = _
            rw [hl2]
set_option maxRecDepth 100000 in
set_option maxHeartbeats 3200000 in
theorem awake_any (w : World) : Calls Try.prog 11 #[] w fun e w' => e = .returned (.bool true) ∧ Below w.heap.size w w' := by
  have HNEW := Lib.hid (made_new w ⟨w.heap.size, []⟩ (Nat.le_refl _) (fun b hb => by cases hb))
  go_enter Try.func11, Try.ntmps11
  go_wp2_with fail
  refine HNEW.out.mono ?_
  rintro e w1 ⟨rfl, hm⟩
  have HM : Hid (Made w ⟨w.heap.size, []⟩ (w.heap.size + 1) (({} : MS).run []) w1) := Lib.hid hm
  clear hm HNEW
  go_wp2_with fail
  refine (made_next (c := 97) (sig := 0) HM.out (by decide) (by decide +kernel)).mono ?_
  rintro e w2 ⟨rfl, hm⟩
  have HM2 := Lib.hid hm
  clear hm HM
  go_wp2_with fail
  refine (made_next (c := 34) (sig := 0) HM2.out (by decide) (by decide +kernel)).mono ?_
  rintro e w3 ⟨rfl, hm⟩
  have HM3 := Lib.hid hm
  clear hm HM2
  go_wp2_with fail
  refine (made_next (c := 36) (sig := 0) HM3.out (by decide) (by decide +kernel)).mono ?_
  rintro e w4 ⟨rfl, hm⟩
  have HM4 := Lib.hid hm
  clear hm HM3
  go_wp2_with fail
  refine (made_rest HM4.out (Good.run Good.new _) (by decide) (by decide +kernel)).mono ?_
  rw [show (({} : MS).run ([] ++ [97] ++ [34] ++ [36])).rest = [34] by decide +kernel]
  rintro e w5 ⟨rfl, hm⟩
  have HM5 := Lib.hid hm
  clear hm HM4
  go_wp2_with fail
  refine (made_next (c := 120) (sig := 0) HM5.out (by decide) (by decide +kernel)).mono ?_
  rintro e w6 ⟨rfl, hm⟩
  have HM6 := Lib.hid hm
  clear hm HM5
  go_wp2_with fail
  refine (made_next (c := 34) (sig := 0) HM6.out (by decide) (by decide +kernel)).mono ?_
  rintro e w7 ⟨rfl, hm⟩
  have HM7 := Lib.hid hm
  clear hm HM6
  go_wp2_with fail
  refine (made_next (c := 32) (sig := 1) HM7.out (by decide) (by decide +kernel)).mono ?_
  rintro e w8 ⟨rfl, hm⟩
  have HM8 := Lib.hid hm
  clear hm HM7
  go_wp2_with fail
  refine (made_word (n := 1000) HM8.out (by decide +kernel) (by rfl)).mono ?_
  rintro e w9 ⟨VA, Vc, rfl, hd, hm⟩
  have hd2 : Dead w9 [] (.slice VA 2 Vc) [.leaf 1 [97], .mk 4 [] [] [.leaf 5 [120]] noCmds] := hd
  obtain ⟨b, c, b2, c2, hv, hc, hb, hk, hc2, hb2, ht⟩ := read_two hd2 rfl
  cases hv
  have ht2 : w9.cell? ⟨b2, 1, none⟩ = some (.string ⟨#[120]⟩) := ht
  have HB := Lib.hid hm.frame
  clear hm hd hd2 ht HM8
  go_wp2
  go_ret
  exact ⟨rfl, HB.out.alloc HB.out.size _⟩
end Go.Proofs.Ytpadnckmheippaa
