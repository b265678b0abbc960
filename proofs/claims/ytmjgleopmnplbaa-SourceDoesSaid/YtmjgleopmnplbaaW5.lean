/- The program computes at all: awake. Then: no source. -/
import Derived.Test.YtmjgleopmnplbaaW4
namespace Go.Proofs.Ytmjgleopmnplbaa
open Go.RowKit
set_option linter.unusedVariables false

theorem new_ok (w : World) : Calls Try.prog 7 #[] w fun e w' => ∃ g, e = .returned (.pointer (some ⟨g, 0, none⟩)) ∧ Src w' w.heap.size g (.slice none 0 0) [] 0 ∧ Below w.heap.size w w' :=
  (new_any w).mono fun e w' ⟨h1, h2⟩ => ⟨w.heap.size, h1, h2 ▸ new_src w _ (Nat.le_refl _), h2 ▸ (Below.refl _ _).alloc (Nat.le_refl _) _⟩

theorem entered_size (s t : ByteArray) : (entered s t).text.size = t.size + 1 := by
  show (t ++ _).size = _
  rw [ByteArray.size_append]; rfl

abbrev nmA : ByteArray := ⟨#[97]⟩
abbrev txA : ByteArray := ⟨#[120, 32]⟩
def vA (p : Nat) : SV := { entered nmA txA with pos := p }
theorem vA_size (p : Nat) : (vA p).text.size = 3 := entered_size nmA txA

theorem awake_any (w : World) : Calls Try.prog 6 #[] w fun e w' => e = .returned (.bool true) ∧ Below w.heap.size w w' := by
  go_enter Try.func6, Try.ntmps6
  go_wp2_with fail
  refine (new_ok _).mono ?_
  rintro e w1 ⟨g, rfl, hS1, hb1⟩
  have HK1 : Hid (Keeps w.heap.size [45, 47] w w1) := Keeps.of_below hb1
  have HS1 := hide hS1
  clear hS1 hb1
  go_wp2_with fail
  refine (enter_yes HS1.out nmA txA (by decide +kernel)).mono ?_
  rintro e w2 ⟨rfl, hk2, sl2, hS2⟩
  have HK2 := hide (HK1.out.trans hk2)
  have HS2 : Hid (Src w2 w.heap.size g sl2 ([] ++ [vA 0]) 0) := hS2
  clear hk2 hS2
  go_wp2_with fail
  refine (enter_no HS2.out nmA ⟨#[121]⟩ (by decide +kernel) (by decide +kernel)).mono ?_
  rintro e w3 ⟨rfl, hb3⟩
  have HK3 := hide (HK2.out.trans (Keeps.of_below hb3))
  have HS3 := hide (HS2.out.keeps (Keeps.of_below hb3 (B := 0) (T := [])) (by simp) (by simp))
  clear hb3
  go_wp2_with fail
  refine (peek_any HS3.out (by rw [vA_size]; decide) (by rw [vA_size]; decide)).mono ?_
  rintro e w4 ⟨rfl, m, rfl⟩
  have HK4 := hide (HK3.out.drewN m)
  have HS4 := hide (HS3.out.keeps ((Keeps.refl 0 [] w3).drewN m) (by simp) (by simp))
  generalize w3.drewN m = w4 at *
  go_wp2_with fail
  refine (step_more HS4.out (by rw [vA_size]; decide) (by rw [vA_size]; decide) (by decide)).mono ?_
  rintro e w5 ⟨rfl, hk5, hS5⟩
  have HK5 := hide (HK4.out.trans hk5)
  have HS5 : Hid (Src w5 w.heap.size g sl2 ([] ++ [vA 1]) 1) := hS5
  clear hk5 hS5
  go_wp2_with fail
  refine (step_more HS5.out (by rw [vA_size]; decide) (by rw [vA_size]; decide) (by decide)).mono ?_
  rintro e w6 ⟨rfl, hk6, hS6⟩
  have HK6 := hide (HK5.out.trans hk6)
  have HS6 : Hid (Src w6 w.heap.size g sl2 ([] ++ [vA 2]) 2) := hS6
  clear hk6 hS6
  go_wp2_with fail
  refine (step_last HS6.out (by rw [vA_size]; rfl) (by rw [vA_size]; decide) (by decide)).mono ?_
  rintro e w7 ⟨rfl, hk7, sl7, hS7⟩
  have HK7 := hide (HK6.out.trans hk7)
  have HS7 : Hid (Src w7 w.heap.size g sl7 [] 3) := hS7
  clear hk7 hS7
  have hbl : (vA 2).blank = true := by decide +kernel
  have hch : ((vA 0).text[(vA 0).pos]'(by rw [vA_size]; decide)).toNat = 120 := by decide +kernel
  go_wp2_with (first | (go_at_call 16; refine (deep_any HS7.out).mono ?_; rintro e w' ⟨rfl, rfl⟩) | (go_at_call 12; refine (count_any HS7.out).mono ?_; rintro e w' ⟨rfl, rfl⟩))
  go_ret
  exact ⟨rfl, HK7.out.below (Nat.le_refl _)⟩
end Go.Proofs.Ytmjgleopmnplbaa
