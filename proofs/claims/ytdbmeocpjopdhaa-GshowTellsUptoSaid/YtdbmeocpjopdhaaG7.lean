/- No two rules are the same: the program's. -/
import Derived.Test.YtdbmeocpjopdhaaG6
import Derived.Deep.RegionHeld3
namespace Go.Proofs.Ytdbmeocpjopdhaa
open Go.RowKit
set_option linter.unusedVariables false
theorem below_drew {B : Nat} {w w' : World} (h : Below B w w') : Below B w w'.drew := ⟨h.os, h.tape, h.output, h.size, h.block⟩
theorem same_any {w : World} {a b : Ru} (ha : Arr IntV w a.v a.right) (hb : Arr IntV w b.v b.right) : Calls Try.prog 32 #[RuV a, RuV b] w (Says w (sameR a b)) := by
  have HE := Lib.hid (fun z (hz : Below w.heap.size w z) => equal_any (ha.later hz) (hb.later hz))
  clear ha hb
  unfold sameR RuV
  generalize (a.right == b.right) = q at *
  generalize a.v = av at *
  generalize b.v = bv at *
  generalize a.left = al at *
  generalize b.left = bl at *
  by_cases h : al = bl
  · have h1 : (al == bl) = true := by simp [h]
    rw [h1, Bool.true_and]
    clear h
    go_enter Try.func32, Try.ntmps32
    go_wp2_with fail
    refine (HE.out _ ((below_alloc w _).trans ((below_alloc _ _).mono (by simp)))).mono ?_
    rintro e w1 ⟨rfl, hb1⟩
    have HB1 := Lib.hid ((below_alloc w _).trans (((below_alloc _ _).trans (hb1.mono (by simp))).mono (by simp)))
    clear hb1
    go_wp2
    go_ret
    exact ⟨rfl, HB1.out⟩
  · have h1 : (al == bl) = false := by simp [h]
    rw [h1, Bool.false_and]
    clear h
    go_enter Try.func32, Try.ntmps32
    go_wp2
    go_ret
    exact ⟨rfl, ((below_alloc w _).trans ((below_alloc _ _).mono (by simp)))⟩
set_option maxRecDepth 100000 in
theorem unlikeq_any {y : World} {x r : Ru} {BF BL BI b off n c i : Nat} (hF : y.cell? ⟨BF, 0, none⟩ = some (.func (.func 32) #[] #[])) (hL : y.cell? ⟨BL, 0, none⟩ = some (.slice (some ⟨b, off, none⟩) n c)) (hI : y.cell? ⟨BI, 0, none⟩ = some (.int .i64 i))
    (hi : i < n) (h1 : y.cell? ⟨b, off + i * 2, none⟩ = some (.int .i64 r.left)) (h2 : y.cell? ⟨b, off + i * 2 + 1, none⟩ = some r.v) (hx : Arr IntV y x.v x.right) (hr : Arr IntV y r.v r.right) :
    Calls Try.prog 58 #[RuV x, .pointer (some ⟨BF, 0, none⟩), .pointer (some ⟨BL, 0, none⟩), .pointer (some ⟨BI, 0, none⟩)] y (Says y (sameR x r)) := by
  have HS := Lib.hid (fun z (hz : Below y.heap.size y z) => same_any (hx.later hz) (hr.later hz))
  have lF := World.block_lt_of_cell? y _ hF
  have lL := World.block_lt_of_cell? y _ hL
  have lI := World.block_lt_of_cell? y _ hI
  have lb := World.block_lt_of_cell? y _ h1
  clear hx hr
  unfold RuV at *
  generalize sameR x r = q at *
  generalize x.left = xl at *
  generalize x.v = xv at *
  generalize r.left = rl at *
  generalize r.v = rv at *
  go_enter Try.func58, Try.ntmps58
  have HK : Hid (∀ w', Below (y.alloc (.cells #[.int .i64 xl, xv] 28)).heap.size (y.alloc (.cells #[.int .i64 xl, xv] 28)) w' → w'.cell? ⟨BF, 0, none⟩ = some (.func (.func 32) #[] #[]) ∧ w'.cell? ⟨BL, 0, none⟩ = some (.slice (some ⟨b, off, none⟩) n c) ∧ w'.cell? ⟨BI, 0, none⟩ = some (.int .i64 i) ∧ w'.cell? ⟨b, off + i * 2, none⟩ = some (.int .i64 rl) ∧ w'.cell? ⟨b, off + i * 2 + 1, none⟩ = some rv ∧ w'.cell? ⟨y.heap.size, 0, none⟩ = some (.int .i64 xl) ∧ w'.cell? ⟨y.heap.size, 1, none⟩ = some xv) := Lib.hid (fun w' h => by
    have h0 := below_alloc_trans h
    exact ⟨(h0.cell (p := ⟨BF, 0, none⟩) lF).trans hF, (h0.cell (p := ⟨BL, 0, none⟩) lL).trans hL, (h0.cell (p := ⟨BI, 0, none⟩) lI).trans hI, (h0.cell (p := ⟨b, off + i * 2, none⟩) lb).trans h1, (h0.cell (p := ⟨b, off + i * 2 + 1, none⟩) lb).trans h2,
      (h.cell (p := ⟨y.heap.size, 0, none⟩) (by simp)).trans ((Blk.new y _ _).cell 0), (h.cell (p := ⟨y.heap.size, 1, none⟩) (by simp)).trans ((Blk.new y _ _).cell 1)⟩)
  clear hF hL hI h1 h2
  go_wp2_with fail
  go_region_held3 (fun w' => w'.cell? ⟨BF, 0, none⟩ = some (.func (.func 32) #[] #[]) ∧ w'.cell? ⟨BL, 0, none⟩ = some (.slice (some ⟨b, off, none⟩) n c) ∧ w'.cell? ⟨BI, 0, none⟩ = some (.int .i64 i) ∧ w'.cell? ⟨b, off + i * 2, none⟩ = some (.int .i64 rl) ∧ w'.cell? ⟨b, off + i * 2 + 1, none⟩ = some rv ∧ w'.cell? ⟨y.heap.size, 0, none⟩ = some (.int .i64 xl) ∧ w'.cell? ⟨y.heap.size, 1, none⟩ = some xv)
    (first | exact HK.out _ HZ.out | exact HK.out _ ⟨rfl, rfl, rfl, Nat.le_refl _, fun _ _ => rfl⟩)
    (first | (go_at_call 32; refine (HS.out _ (below_drew (below_alloc y _))).mono ?_; rintro e w2 ⟨rfl, hb2⟩; have HB2 := Lib.hid ((below_drew (below_alloc y _)).trans (hb2.mono (below_drew (below_alloc y _)).size)); have HZ := Lib.hid ((below_drew (Below.refl _ _)).trans (hb2.mono (Nat.le_refl _))); clear hb2))
  all_goals go_wp2
  all_goals go_ret
  all_goals exact ⟨rfl, HB2.out⟩
end Go.Proofs.Ytdbmeocpjopdhaa
