/- Contracts of package source: Step, Names, New. -/
import Derived.Test.YtmjgleopmnplbaaW3
namespace Go.Proofs.Ytmjgleopmnplbaa
open Go.RowKit
set_option linter.unusedVariables false

theorem step_nil (w : World) : Calls Try.prog 10 #[.pointer none] w fun e w' => e = .returned (.bool false) ∧ w = w' := by
  go_enter Try.func10, Try.ntmps10
  go_wp2_with (go_at_call 24; refine (top_nil _).mono ?_; rintro e w' ⟨rfl, rfl⟩)
  go_ret
  exact ⟨rfl, rfl⟩

theorem step_empty {w : World} {B g : Nat} {sl : Value} {n : Nat} (h : Src w B g sl [] n) :
    Calls Try.prog 10 #[.pointer (some ⟨g, 0, none⟩)] w fun e w' => e = .returned (.bool false) ∧ w = w' := by
  go_enter Try.func10, Try.ntmps10
  go_wp2_with (go_at_call 24; refine (top_any h).mono ?_; rintro e w' ⟨rfl, rfl⟩)
  go_ret
  exact ⟨rfl, rfl⟩

theorem SV.cells_snoc (vs : List SV) (v : SV) : (vs ++ [v]).flatMap SV.cells = vs.flatMap SV.cells ++ v.cells := by simp
theorem set_pos (vs : List SV) (v : SV) (p : Nat) : ((vs ++ [v]).flatMap SV.cells).set (vs.length * 4 + 2) (.int .i64 p) = (vs ++ [{ v with pos := p }]).flatMap SV.cells := by
  have hl := fm_len SV.cells 4 SV.len vs
  rw [SV.cells_snoc, SV.cells_snoc, List.set_append, if_neg (by omega), hl, Nat.add_sub_cancel_left]
  rfl

/-- What the two first stores of Step leave. -/
theorem step_mid {w : World} {B g b c n p : Nat} {vs : List SV} {v : SV} (h : Src w B g (.slice (some ⟨b, 0, none⟩) (vs.length + 1) c) (vs ++ [v]) n) (hbg : b ≠ g) (hBb : B ≤ b) (m : Nat) :
    Keeps B [45, 47] w (((w.setCell ⟨g, 1, none⟩ (.int .i64 (n + 1 : Nat))).setCell ⟨b, vs.length * 4 + 2, none⟩ (.int .i64 p)).drewN m) ∧
    Src (((w.setCell ⟨g, 1, none⟩ (.int .i64 (n + 1 : Nat))).setCell ⟨b, vs.length * 4 + 2, none⟩ (.int .i64 p)).drewN m) B g (.slice (some ⟨b, 0, none⟩) (vs.length + 1) c) (vs ++ [{ v with pos := p }]) (n + 1) := by
  obtain ⟨hb, hB, ho⟩ := h
  rw [List.length_append, List.length_cons, List.length_nil, Nat.zero_add] at ho
  have hb1 := hb.set_ 1 (.int .i64 (n + 1 : Nat))
  have ho1 := own_far ho (p := ⟨g, 1, none⟩) (by simp [Value.ownBlock, hbg]) (.int .i64 (n + 1 : Nat))
  have ho2 := own_set ho1 (vs.length * 4 + 2) (by omega) (.int .i64 p)
  obtain ⟨cur, hcur⟩ : ∃ cur, Blk (w.setCell ⟨g, 1, none⟩ (.int .i64 (n + 1 : Nat))) b 47 cur := by
    rcases own_form ho1 with ⟨h1, _⟩ | ⟨b', c', h1, _, _, _, _, cur, h3⟩
    · cases h1
    · cases h1; exact ⟨cur, h3⟩
  refine ⟨(((Keeps.refl B [45, 47] w).setBlk hb hB (by simp) 1 _).setBlk hcur hBb (by simp) _ _).drewN m, (hb1.far (p := ⟨b, vs.length * 4 + 2, none⟩) (fun e => hbg e.symm) _).drewN m, hB, ?_⟩
  rw [set_pos] at ho2
  show World.ownsRow ((w.setCell _ _).setCell _ _) _ _ _ _ _ _
  simpa using ho2

theorem step_more {w : World} {B g : Nat} {sl : Value} {vs : List SV} {v : SV} {n : Nat} (h : Src w B g sl (vs ++ [v]) n) (hk : v.pos + 1 < v.text.size) (hs : v.text.size ≤ maxLen) (hn1 : n + 1 ≤ maxLen) :
    Calls Try.prog 10 #[.pointer (some ⟨g, 0, none⟩)] w fun e w' => e = .returned (.bool false) ∧ Keeps B [45, 47] w w' ∧ Src w' B g sl (vs ++ [{ v with pos := v.pos + 1 }]) (n + 1) := by
  unfold maxLen at hs hn1
  have ht := top_any h
  have hn := h.max
  obtain ⟨b, c, rfl, hBb, -, hbg, e0, e1, e2, e3⟩ := h.at_ vs.length (by simp)
  have h0 := h.blk.cell 0
  have h1 := h.blk.cell 1
  have f1 := h.blk.frozen 1
  have fb := own_frozen h.own (vs.length * 4 + 2)
  simp only [List.getElem?_toArray, List.getElem?_cons_zero, List.getElem?_cons_succ] at h0 h1
  simp only [List.length_append, List.length_cons, List.length_nil, Nat.zero_add] at h
  have hm := fun p => step_mid (p := p) h hbg hBb
  clear h
  simp only [List.getElem_append_right, Nat.le_refl, Nat.sub_self, List.getElem_cons_zero, List.length_append, List.length_cons, List.length_nil] at *
  simp only [Int.natCast_add, Nat.zero_add, Int.cast_ofNat_Int, Int.add_sub_cancel] at ht
  obtain ⟨nm, tx, p, bl⟩ := v
  dsimp only at *
  have HT := hide ht
  have HM := hide hm
  clear ht hm
  go_enter Try.func10, Try.ntmps10
  go_wp2_with (go_at_call 24; refine HT.out.mono ?_; rintro e w' ⟨rfl, rfl⟩)
  go_quiet (fail)
  go_wp2
  go_ret
  exact ⟨rfl, HM.out (p + 1) nq⟩

theorem step_last {w : World} {B g : Nat} {sl : Value} {vs : List SV} {v : SV} {n : Nat} (h : Src w B g sl (vs ++ [v]) n) (hk : v.pos + 1 = v.text.size) (hs : v.text.size ≤ maxLen) (hn1 : n + 1 ≤ maxLen) :
    Calls Try.prog 10 #[.pointer (some ⟨g, 0, none⟩)] w fun e w' => e = .returned (.bool v.blank) ∧ Keeps B [45, 47] w w' ∧ ∃ sl', Src w' B g sl' vs (n + 1) := by
  unfold maxLen at hs hn1
  have ht := top_any h
  have hn := h.max
  obtain ⟨b, c, rfl, hBb, -, hbg, e0, e1, e2, e3⟩ := h.at_ vs.length (by simp)
  have h0 := h.blk.cell 0
  have h1 := h.blk.cell 1
  have f1 := h.blk.frozen 1
  have f0 := h.blk.frozen 0
  have fb := own_frozen h.own (vs.length * 4 + 2)
  have hcap : vs.length + 1 ≤ c := by
    rcases own_form h.own with ⟨x, _⟩ | ⟨b', c', x, _, _, x2, _⟩
    · cases x
    · cases x; simpa using x2
  simp only [List.getElem?_toArray, List.getElem?_cons_zero, List.getElem?_cons_succ] at h0 h1
  simp only [List.length_append, List.length_cons, List.length_nil, Nat.zero_add] at h
  have hm := fun p => step_mid (p := p) h hbg hBb
  have hB := h.base
  clear h
  simp only [List.getElem_append_right, Nat.le_refl, Nat.sub_self, List.getElem_cons_zero, List.length_append, List.length_cons, List.length_nil] at *
  simp only [Int.natCast_add, Nat.zero_add, Int.cast_ofNat_Int, Int.add_sub_cancel] at ht
  obtain ⟨nm, tx, p, bl⟩ := v
  dsimp only at *
  have HT := hide ht
  have HM := hide hm
  clear ht hm
  have hk1 : ¬ ((p : Int) + 1 < (tx.size : Int)) := by omega
  have HK := hide hk
  have hk2 : p < tx.size := by omega
  clear hk
  go_enter Try.func10, Try.ntmps10
  go_wp2_with (go_at_call 24; refine HT.out.mono ?_; rintro e w' ⟨rfl, rfl⟩)
  go_quiet (fail)
  go_wp2
  go_ret
  refine ⟨rfl, ?_⟩
  obtain ⟨k1, k2⟩ := HM.out (p + 1) nq
  have ho := own_take (k := vs.length) (by have := k2.own; rw [List.length_append] at this; exact this) (by omega)
  rw [fm_take SV.cells 4 SV.len, List.take_left] at ho
  have hf := own_far ho (p := ⟨g, 0, none⟩) (by simp [Value.ownBlock, hbg]) (.slice (some ⟨b, 0, none⟩) vs.length c)
  exact ⟨k1.setBlk k2.blk hB (by simp) 0 _, _, k2.blk.set_ 0 _, hB, hf⟩

theorem Try.info9 : (Try.prog.info? 9).map (fun i => (i.zero, i.size, i.bytes)) = some (some (.string ByteArray.empty), 1, 16) := by kernel_rfl

theorem names_nil (w : World) : Calls Try.prog 21 #[.pointer none] w fun e w' => e = .returned (.slice none 0 0) ∧ w = w' := by
  go_enter Try.func21, Try.ntmps21
  go_wp2_with (go_at_call 16; refine (deep_nil _).mono ?_; rintro e w' ⟨rfl, rfl⟩)
  go_loop [7, 3] (fun i t => i = .int .i64 0 ∧ t = .slice none 0 0) (fun _ _ => 0)
  case atStart => exact ⟨rfl, rfl⟩
  case round =>
    obtain ⟨rfl, rfl⟩ := hrel
    go_wp2
    go_ret
    exact ⟨rfl, rfl⟩

theorem new_any (w : World) : Calls Try.prog 7 #[] w fun e w' => e = .returned (.pointer (some ⟨w.heap.size, 0, none⟩)) ∧ w' = w.alloc (.cells #[.slice none 0 0, .int .i64 0] 45) := by
  go_enter Try.func7, Try.ntmps7
  go_wp2
  go_ret
  exact ⟨rfl, rfl⟩
theorem new_src (w : World) (B : Nat) (hB : B ≤ w.heap.size) : Src (w.alloc (.cells #[.slice none 0 0, .int .i64 0] 45)) B w.heap.size (.slice none 0 0) [] 0 :=
  ⟨Blk.new _ _ _, hB, World.ownsRow_nil _ _ _ _⟩
end Go.Proofs.Ytmjgleopmnplbaa
