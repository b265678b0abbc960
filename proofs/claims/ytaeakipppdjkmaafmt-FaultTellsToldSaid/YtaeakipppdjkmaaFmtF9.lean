/- The package fault: Name, Is; the statements' awake. -/
import Derived.Test.YtaeakipppdjkmaaFmtF8
namespace Go.Proofs.YtaeakipppdjkmaaFmt
open Go.RowKit Go.Extern.Stop Go.Stop Go.Extern
set_option linter.unusedVariables false
theorem name_facts {w : World} {p : Nat} {en : Ending} {w' : World} {x0 : Value} (T1 : TypeId) (h0 : w.cell? ⟨p, 0, none⟩ = some x0)
    (h : AsEnd (w.alloc (.cells #[.pointer none] T1)) ⟨w.heap.size, 0, none⟩ (some p) en w') :
    en = .returned (.bool true) ∧ Below w.heap.size w w' ∧ w.heap.size < w'.heap.size ∧ w'.cell? ⟨w.heap.size, 0, none⟩ = some (.pointer (some ⟨p, 0, none⟩)) ∧ w'.cell? ⟨p, 0, none⟩ = some x0 := by
  obtain ⟨rfl, y, hy, rfl⟩ := h
  have hB : Below w.heap.size w (w.alloc (.cells #[.pointer none] T1)) := (Below.refl _ w).alloc (Nat.le_refl _) _
  have hwy := hB.trans (hy.mono hB.size)
  have hz := hy.size
  simp at hz
  have hp : p < w.heap.size := World.block_lt_of_cell? w _ h0
  have e1 : ∀ q : Addr, q.block ≠ w.heap.size → (y.setCell ⟨w.heap.size, 0, none⟩ (.pointer (some ⟨p, 0, none⟩))).cell? q = y.cell? q := fun q hq => World.cell?_of_block (w := y) (Below.heap_setCell _ _ _ _ (by simpa using hq))
  refine ⟨rfl, hwy.setCell (by simp) _, by simp; omega, setCell_same (old := .pointer none) ?_, ?_⟩
  · rw [hy.cell (p := ⟨w.heap.size, 0, none⟩) (by simp)]; simp
  · rw [e1 _ (by simp; omega), hwy.cell (p := ⟨p, 0, none⟩) hp, h0]
/-- The first name of an error, from outside. -/
structure Nam (w : World) (v : Value) (r : Option ByteArray) : Prop where
  ch : ∃ d p, Nm w v d p ∧ (match r with | some m => ∃ b, p = some b ∧ w.cell? ⟨b, 0, none⟩ = some (.string m) | none => p = none)
theorem Nam.form {w : World} {v : Value} {r : Option ByteArray} (h : Nam w v r) : ∃ T b, v = .iface T (.pointer (some ⟨b, 0, none⟩)) := by
  obtain ⟨d, p, hc, hr⟩ := h.ch; exact hc.form
theorem Nam.later {w w' : World} {v : Value} {r : Option ByteArray} (h : Nam w v r) (hb : Below w.heap.size w w') : Nam w' v r := by
  obtain ⟨d, p, hc, hr⟩ := h.ch
  refine ⟨d, p, hc.later hb, ?_⟩
  cases r with
  | none => exact hr
  | some m =>
    obtain ⟨b, rfl, h0⟩ := hr
    exact ⟨b, rfl, (hb.cell (p := ⟨b, 0, none⟩) (World.block_lt_of_cell? w _ h0)).trans h0⟩
set_option maxRecDepth 100000 in
set_option maxHeartbeats 1000000 in
theorem name_some {w : World} {v : Value} {m : ByteArray} (h : Nam w v (some m)) (hg : HasType w) : Calls Tryf.prog 11 #[v] w (RetB w (.string m)) := by
  have hB : Below w.heap.size w (w.alloc (.cells #[.pointer none] 48)) := (Below.refl _ w).alloc (Nat.le_refl _) _
  obtain ⟨d, p, hc, b, rfl, h0⟩ := h.ch
  have HA := Lib.hid (as_anyN (hc.later hB) ⟨w.heap.size, 0, none⟩ (.pointer none) (hg.later hB) (by simp) (by simp))
  obtain ⟨T, b', rfl⟩ := h.form
  have H0 := Lib.hid h0
  clear h hB hg h0 hc
  go_enter Tryf.func11, Tryf.ntmps11
  go_wp2_with (go_at_call 22; refine (HA.out).mono ?_; intro en w' hx; obtain ⟨rfl, hb, hz, k0, k1⟩ := name_facts 48 H0.out hx; clear hx; have HB := Lib.hid hb; clear hb)
  go_ret
  exact ⟨rfl, HB.out⟩
set_option maxRecDepth 100000 in
set_option maxHeartbeats 1000000 in
theorem name_none {w : World} {v : Value} (h : Nam w v none) (hg : HasType w) : Calls Tryf.prog 11 #[v] w (RetB w (.string ⟨#[]⟩)) := by
  have hB : Below w.heap.size w (w.alloc (.cells #[.pointer none] 48)) := (Below.refl _ w).alloc (Nat.le_refl _) _
  obtain ⟨d, p, hc, rfl⟩ := h.ch
  have HA := Lib.hid (as_anyN (hc.later hB) ⟨w.heap.size, 0, none⟩ (.pointer none) (hg.later hB) (by simp) (by simp))
  have HB := Lib.hid hB
  obtain ⟨T, b', rfl⟩ := h.form
  clear h hB hg hc
  go_enter Tryf.func11, Tryf.ntmps11
  go_wp2_with (go_at_call 22; refine (HA.out).mono ?_; intro en w' hx; obtain ⟨rfl, hb⟩ := hx; have HB2 := Lib.hid hb; clear hb)
  go_ret
  exact ⟨rfl, HB.out.trans (HB2.out.mono HB.out.size)⟩
set_option maxRecDepth 100000 in
theorem name_nil (w : World) : Calls Tryf.prog 11 #[.nilIface] w (RetB w (.string ⟨#[]⟩)) := by
  go_enter Tryf.func11, Tryf.ntmps11
  go_wp2_with (go_at_call 22; refine (as_nil _ _).mono ?_; rintro en w' ⟨rfl, rfl⟩)
  go_ret
  exact ⟨rfl, (Below.refl _ w).alloc (Nat.le_refl _) _⟩
theorem is_err {w : World} {v : Value} {r : Option (Int × Int)} (h : Err w v r) (e : Int) (A : Bool) (hA : A = (match r with | some (e0, _) => (e == e0) | none => false)) :
    Calls Tryf.prog 13 #[v, .iface 22 (.int .i64 e)] w fun en w' => en = .returned (.bool A) ∧ w' = w := by
  obtain ⟨d, p, hc, hr⟩ := h.ch
  refine is_any hc e A ?_
  cases r with
  | none => subst hr; exact hA
  | some q => obtain ⟨b, rfl, h0, h1⟩ := hr; exact ⟨q.1, h0, hA.symm⟩
set_option maxHeartbeats 1000000 in
theorem fis_zero {w : World} {v : Value} {r : Option (Int × Int)} (h : Err w v r) : Calls Tryf.prog 12 #[v, .int .i64 0] w fun en w' => en = .returned (.bool false) ∧ w' = w := by
  obtain ⟨T, b', rfl⟩ := h.form
  clear h
  go_enter Tryf.func12, Tryf.ntmps12
  go_wp2
  go_ret
  exact ⟨rfl, rfl⟩
set_option maxHeartbeats 1000000 in
theorem fis_more {w : World} {v : Value} {r : Option (Int × Int)} (h : Err w v r) (e : Int) (he : (e != 0) = true) (A : Bool) (hA : A = (match r with | some (e0, _) => (e == e0) | none => false)) :
    Calls Tryf.prog 12 #[v, .int .i64 e] w fun en w' => en = .returned (.bool A) ∧ w' = w := by
  have HI := Lib.hid (is_err h e A hA)
  obtain ⟨T, b', rfl⟩ := h.form
  clear h hA
  go_enter Tryf.func12, Tryf.ntmps12
  go_wp2_with (go_at_call 13; refine (HI.out).mono ?_; rintro en w' ⟨rfl, rfl⟩)
  go_ret
  exact ⟨rfl, rfl⟩
theorem fis_nil (e : Int) (w : World) : Calls Tryf.prog 12 #[.nilIface, .int .i64 e] w fun en w' => en = .returned (.bool (e == 0)) ∧ w' = w := by
  go_enter Tryf.func12, Tryf.ntmps12
  go_wp2
  go_ret
  exact ⟨rfl, rfl⟩
theorem errNew (w : World) (e a : Int) : Err (w.alloc (.cells #[.int .i64 e, .int .i64 a] 47)) (.iface 45 (.pointer (some ⟨w.heap.size, 0, none⟩))) (some (e, a)) :=
  ⟨0, _, .place w.heap.size e a (by simp) (by simp), w.heap.size, rfl, by simp, by simp⟩
theorem namNew (w : World) (e a : Int) : Nam (w.alloc (.cells #[.int .i64 e, .int .i64 a] 47)) (.iface 45 (.pointer (some ⟨w.heap.size, 0, none⟩))) none :=
  ⟨0, _, .place w.heap.size e a (by simp) (by simp), rfl⟩
theorem txNew (w : World) (e a : Int) : Tx (w.alloc (.cells #[.int .i64 e, .int .i64 a] 47)) (.iface 45 (.pointer (some ⟨w.heap.size, 0, none⟩))) okText :=
  .place w.heap.size e a (by simp) (by simp)
theorem below_alloc (w : World) (o : Obj) : Below w.heap.size w (w.alloc o) := (Below.refl _ _).alloc (Nat.le_refl _) _
theorem errIn {w : World} {v : Value} {r : Option (Int × Int)} (h : Err w v r) (m : ByteArray) : Err (w.alloc (.cells #[.string m, v] 50)) (.iface 48 (.pointer (some ⟨w.heap.size, 0, none⟩))) r := by
  obtain ⟨d, p, hc, hr⟩ := (h.later (below_alloc w (.cells #[.string m, v] 50))).ch
  exact ⟨d + 1, p, .named w.heap.size m v d p (by simp) (by simp) hc, hr⟩
theorem namIn (w : World) (m : ByteArray) (v : Value) : Nam (w.alloc (.cells #[.string m, v] 50)) (.iface 48 (.pointer (some ⟨w.heap.size, 0, none⟩))) (some m) :=
  ⟨0, _, .named w.heap.size m (by simp), w.heap.size, rfl, by simp⟩
theorem txIn {w : World} {v : Value} {L : ByteArray} (h : Tx w v L) (m : ByteArray) (hL : m.size + 2 + L.size ≤ 4611686018427387904) : Tx (w.alloc (.cells #[.string m, v] 50)) (.iface 48 (.pointer (some ⟨w.heap.size, 0, none⟩))) (m ++ ⟨#[58, 32]⟩ ++ L) :=
  .named w.heap.size m v L (by simp) (by simp) hL (h.later (below_alloc w _))
set_option maxRecDepth 100000 in
set_option maxHeartbeats 2000000 in
theorem awake_any {w : World} (hg : HasType w) : Calls Tryf.prog 7 #[] w (RetB w (.bool true)) := by
  have hB1 := below_alloc w (.cells #[.int .i64 2, .int .i64 7] 47)
  have hB : Below w.heap.size w ((w.alloc (.cells #[.int .i64 2, .int .i64 7] 47)).alloc (.cells #[.string ⟨#[103]⟩, .iface 45 (.pointer (some ⟨w.heap.size, 0, none⟩))] 50)) := hB1.alloc (by simp) _
  have he := errIn (errNew w 2 7) ⟨#[103]⟩
  have hn := namIn (w.alloc (.cells #[.int .i64 2, .int .i64 7] 47)) ⟨#[103]⟩ (.iface 45 (.pointer (some ⟨w.heap.size, 0, none⟩)))
  rw [show (w.alloc (.cells #[.int .i64 2, .int .i64 7] 47)).heap.size = w.heap.size + 1 by simp] at he hn
  have HE := Lib.hid he
  have HN := Lib.hid hn
  clear he hn
  have HG := Lib.hid (hg.later hB)
  have HB := Lib.hid hB
  clear hB hB1 hg
  go_enter Tryf.func7, Tryf.ntmps7
  go_wp2_with (first
    | (go_at_call 5; refine (new_some 2 7 w rfl).mono ?_; rintro en w' ⟨rfl, rfl⟩)
    | (go_at_call 6; refine (in_some _ _ _ _).mono ?_; rintro en w' ⟨rfl, rfl⟩)
    | (go_at_call 9; refine (code_some HE.out HG.out).mono ?_; rintro en w1 ⟨rfl, hb1⟩; have HE1 := Lib.hid (HE.out.later hb1); have HN1 := Lib.hid (HN.out.later hb1); have HG1 := Lib.hid (HG.out.later hb1); have HB1 := Lib.hid (HB.out.trans (hb1.mono HB.out.size)); clear hb1)
    | (go_at_call 10; refine (at_some HE1.out HG1.out).mono ?_; rintro en w2 ⟨rfl, hb1⟩; have HE2 := Lib.hid (HE1.out.later hb1); have HN2 := Lib.hid (HN1.out.later hb1); have HG2 := Lib.hid (HG1.out.later hb1); have HB2 := Lib.hid (HB1.out.trans (hb1.mono HB1.out.size)); clear hb1)
    | (go_at_call 11; refine (name_some HN2.out HG2.out).mono ?_; rintro en w3 ⟨rfl, hb1⟩; have HE3 := Lib.hid (HE2.out.later hb1); have HB3 := Lib.hid (HB2.out.trans (hb1.mono HB2.out.size)); clear hb1)
    | (go_at_call 12; refine (fis_more HE3.out 2 rfl true rfl).mono ?_; rintro en w4 ⟨rfl, rfl⟩))
  go_ret
  exact ⟨rfl, HB3.out⟩
end Go.Proofs.YtaeakipppdjkmaaFmt
