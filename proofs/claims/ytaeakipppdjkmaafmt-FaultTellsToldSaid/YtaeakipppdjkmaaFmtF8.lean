/- The package fault: New, In, of, Code, At, Name, Is. -/
import Derived.Test.YtaeakipppdjkmaaFmtF7
namespace Go.Proofs.YtaeakipppdjkmaaFmt
open Go.RowKit Go.Extern.Stop Go.Stop Go.Extern
set_option linter.unusedVariables false
theorem new_zero (at_ : Int) (w : World) : Calls Tryf.prog 5 #[.int .i64 0, .int .i64 at_] w fun en w' => en = .returned .nilIface ∧ w' = w := by
  go_enter Tryf.func5, Tryf.ntmps5
  go_wp2
  go_ret
  exact ⟨rfl, rfl⟩
theorem new_some (e at_ : Int) (w : World) (he : (e == 0) = false) : Calls Tryf.prog 5 #[.int .i64 e, .int .i64 at_] w fun en w' => en = .returned (.iface 45 (.pointer (some ⟨w.heap.size, 0, none⟩))) ∧ w' = w.alloc (.cells #[.int .i64 e, .int .i64 at_] 47) := by
  go_enter Tryf.func5, Tryf.ntmps5
  go_wp2
  go_ret
  exact ⟨rfl, rfl⟩
theorem in_nil (m : ByteArray) (w : World) : Calls Tryf.prog 6 #[.string m, .nilIface] w fun en w' => en = .returned .nilIface ∧ w' = w := by
  go_enter Tryf.func6, Tryf.ntmps6
  go_wp2
  go_ret
  exact ⟨rfl, rfl⟩
theorem in_some (m : ByteArray) (T : TypeId) (h : Value) (w : World) : Calls Tryf.prog 6 #[.string m, .iface T h] w fun en w' => en = .returned (.iface 48 (.pointer (some ⟨w.heap.size, 0, none⟩))) ∧ w' = w.alloc (.cells #[.string m, .iface T h] 50) := by
  go_enter Tryf.func6, Tryf.ntmps6
  go_wp2
  go_ret
  exact ⟨rfl, rfl⟩
def HasType (w : World) : Prop := w.cell? ⟨0, 0, none⟩ = some (.iface 77 (.agg #[.pointer (some ⟨1, 24, none⟩)]))
theorem HasType.later {w w' : World} (h : HasType w) (hb : Below w.heap.size w w') : HasType w' := (hb.cell (p := ⟨0, 0, none⟩) (World.block_lt_of_cell? w _ h)).trans h
theorem setCell_same {y : World} {t : Addr} {x old : Value} (h : y.cell? t = some old) : (y.setCell t x).cell? t = some x := World.cell?_setCell_same _ _ _ h
/-- What errors.As leaves behind the result's cells and the target's. -/
theorem of_facts {w : World} {p : Nat} {en : Ending} {w' : World} {x0 x1 : Value} (T0 T1 : TypeId) (c0 c1 : Value) (h0 : w.cell? ⟨p, 0, none⟩ = some x0) (h1 : w.cell? ⟨p, 1, none⟩ = some x1)
    (h : AsEnd ((w.alloc (.cells #[c0, c1] T0)).alloc (.cells #[.pointer none] T1)) ⟨w.heap.size + 1, 0, none⟩ (some p) en w') :
    en = .returned (.bool true) ∧ Below w.heap.size w w' ∧ w.heap.size + 1 < w'.heap.size ∧ w'.cell? ⟨w.heap.size + 1, 0, none⟩ = some (.pointer (some ⟨p, 0, none⟩)) ∧ w'.cell? ⟨p, 0, none⟩ = some x0 ∧ w'.cell? ⟨p, 1, none⟩ = some x1 ∧
      w'.cell? ⟨w.heap.size, 0, none⟩ = some c0 ∧ w'.cell? ⟨w.heap.size, 1, none⟩ = some c1 ∧ w'.frozen? ⟨w.heap.size, 0, none⟩ = false ∧ w'.frozen? ⟨w.heap.size, 1, none⟩ = false := by
  obtain ⟨rfl, y, hy, rfl⟩ := h
  have hB : Below w.heap.size w ((w.alloc (.cells #[c0, c1] T0)).alloc (.cells #[.pointer none] T1)) := ((Below.refl _ w).alloc (Nat.le_refl _) _).alloc (by simp) _
  have hwy := hB.trans (hy.mono hB.size)
  have hz := hy.size
  simp at hz
  have hp : p < w.heap.size := World.block_lt_of_cell? w _ h0
  have e1 : ∀ q : Addr, q.block ≠ w.heap.size + 1 → (y.setCell ⟨w.heap.size + 1, 0, none⟩ (.pointer (some ⟨p, 0, none⟩))).cell? q = y.cell? q := fun q hq => World.cell?_of_block (w := y) (Below.heap_setCell _ _ _ _ (by simpa using hq))
  have e2 : ∀ q : Addr, q.block ≠ w.heap.size + 1 → (y.setCell ⟨w.heap.size + 1, 0, none⟩ (.pointer (some ⟨p, 0, none⟩))).frozen? q = y.frozen? q := fun q hq => World.frozen?_of_block (w := y) (Below.heap_setCell _ _ _ _ (by simpa using hq))
  refine ⟨rfl, hwy.setCell (by simp) _, by simp; omega, setCell_same (old := .pointer none) ?_, ?_, ?_, ?_, ?_, ?_, ?_⟩
  · rw [hy.cell (p := ⟨w.heap.size + 1, 0, none⟩) (by simp)]; simp
  · rw [e1 _ (by simp; omega), hwy.cell (p := ⟨p, 0, none⟩) hp, h0]
  · rw [e1 _ (by simp; omega), hwy.cell (p := ⟨p, 1, none⟩) hp, h1]
  · rw [e1 _ (by simp), hy.cell (p := ⟨w.heap.size, 0, none⟩) (by simp; omega)]; simp
  · rw [e1 _ (by simp), hy.cell (p := ⟨w.heap.size, 1, none⟩) (by simp; omega)]; simp
  · rw [e2 _ (by simp), hy.frozen (p := ⟨w.heap.size, 0, none⟩) (by simp; omega)]; simp
  · rw [e2 _ (by simp), hy.frozen (p := ⟨w.heap.size, 1, none⟩) (by simp; omega)]; simp
def OfEnd (w : World) (r : Option Nat) (e0 at_ : Int) (en : Ending) (w' : World) : Prop :=
  match r with
  | some _ => en = .returned (.tuple #[.agg #[.int .i64 e0, .int .i64 at_], .bool true]) ∧ Below w.heap.size w w'
  | none => en = .returned (.tuple #[.agg #[.int .i64 0, .int .i64 0], .bool false]) ∧ Below w.heap.size w w'
set_option maxRecDepth 100000 in
set_option maxHeartbeats 1000000 in
theorem of_hit {w : World} {v : Value} {d p : Nat} (h : Ch w v d (some p)) (hg : HasType w) (e0 at_ : Int) (h0 : w.cell? ⟨p, 0, none⟩ = some (.int .i64 e0)) (h1 : w.cell? ⟨p, 1, none⟩ = some (.int .i64 at_)) :
    Calls Tryf.prog 21 #[v] w (OfEnd w (some p) e0 at_) := by
  have hB : Below w.heap.size w ((w.alloc (.cells #[.int .i64 0, .int .i64 0] 47)).alloc (.cells #[.pointer none] 45)) := ((Below.refl _ w).alloc (Nat.le_refl _) _).alloc (by simp) _
  have HA := Lib.hid (as_any (h.later hB) ⟨w.heap.size + 1, 0, none⟩ (.pointer none) (hg.later hB) (by simp) (by simp))
  obtain ⟨T, b, rfl⟩ := h.form
  have H0 := Lib.hid h0
  have H1 := Lib.hid h1
  clear h hB hg h0 h1
  go_enter Tryf.func21, Tryf.ntmps21
  go_wp2_with (go_at_call 22; refine (HA.out).mono ?_; intro en w' hx; obtain ⟨rfl, hb, hz, k0, k1, k2, k3, k4, k5, k6⟩ := of_facts 47 45 _ _ H0.out H1.out hx; clear hx; have HB := Lib.hid hb; clear hb)
  refine bodyPost_ret (v := .tuple #[.agg #[.int .i64 e0, .int .i64 at_], .bool true]) (by simp [results, Tryf.results21, go_sem, k3, k4]) rfl ⟨rfl, ?_⟩
  first | exact ((HB.out).setCell (by simp) _).setCell (by simp) _ | trace_state
theorem miss_facts {w : World} {en : Ending} {w' : World} (T0 T1 : TypeId) (c0 c1 : Value)
    (h : AsEnd ((w.alloc (.cells #[c0, c1] T0)).alloc (.cells #[.pointer none] T1)) ⟨w.heap.size + 1, 0, none⟩ none en w') :
    en = .returned (.bool false) ∧ Below w.heap.size w w' ∧ w.heap.size + 1 < w'.heap.size ∧
      w'.cell? ⟨w.heap.size, 0, none⟩ = some c0 ∧ w'.cell? ⟨w.heap.size, 1, none⟩ = some c1 ∧ w'.frozen? ⟨w.heap.size, 0, none⟩ = false ∧ w'.frozen? ⟨w.heap.size, 1, none⟩ = false := by
  obtain ⟨rfl, hy⟩ := h
  have hB : Below w.heap.size w ((w.alloc (.cells #[c0, c1] T0)).alloc (.cells #[.pointer none] T1)) := ((Below.refl _ w).alloc (Nat.le_refl _) _).alloc (by simp) _
  have hwy := hB.trans (hy.mono hB.size)
  have hz := hy.size
  simp at hz
  refine ⟨rfl, hwy, by omega, ?_, ?_, ?_, ?_⟩
  · rw [hy.cell (p := ⟨w.heap.size, 0, none⟩) (by simp; omega)]; simp
  · rw [hy.cell (p := ⟨w.heap.size, 1, none⟩) (by simp; omega)]; simp
  · rw [hy.frozen (p := ⟨w.heap.size, 0, none⟩) (by simp; omega)]; simp
  · rw [hy.frozen (p := ⟨w.heap.size, 1, none⟩) (by simp; omega)]; simp
set_option maxRecDepth 100000 in
set_option maxHeartbeats 1000000 in
theorem of_miss {w : World} {v : Value} {d : Nat} (h : Ch w v d none) (hg : HasType w) :
    Calls Tryf.prog 21 #[v] w (OfEnd w none 0 0) := by
  have hB : Below w.heap.size w ((w.alloc (.cells #[.int .i64 0, .int .i64 0] 47)).alloc (.cells #[.pointer none] 45)) := ((Below.refl _ w).alloc (Nat.le_refl _) _).alloc (by simp) _
  have HA := Lib.hid (as_any (h.later hB) ⟨w.heap.size + 1, 0, none⟩ (.pointer none) (hg.later hB) (by simp) (by simp))
  obtain ⟨T, b, rfl⟩ := h.form
  clear h hB hg
  go_enter Tryf.func21, Tryf.ntmps21
  go_wp2_with (go_at_call 22; refine (HA.out).mono ?_; intro en w' hx; obtain ⟨rfl, hb, hz, k3, k4, k5, k6⟩ := miss_facts 47 45 _ _ hx; clear hx; have HB := Lib.hid hb; clear hb)
  refine bodyPost_ret (v := .tuple #[.agg #[.int .i64 0, .int .i64 0], .bool false]) (by simp [results, Tryf.results21, go_sem, k3, k4]) rfl ⟨rfl, ?_⟩
  exact ((HB.out).setCell (by simp) _).setCell (by simp) _
set_option maxRecDepth 100000 in
set_option maxHeartbeats 1000000 in
theorem of_nil (w : World) : Calls Tryf.prog 21 #[.nilIface] w (OfEnd w none 0 0) := by
  go_enter Tryf.func21, Tryf.ntmps21
  go_wp2_with (go_at_call 22; refine (as_nil _ _).mono ?_; rintro en w' ⟨rfl, rfl⟩)
  refine bodyPost_ret (v := .tuple #[.agg #[.int .i64 0, .int .i64 0], .bool false]) (by simp [results, Tryf.results21, go_sem]) rfl ⟨rfl, ?_⟩
  first | exact ((((Below.refl _ w).alloc (Nat.le_refl _) _).alloc (by simp) _).setCell (by simp) _).setCell (by simp) _ | exact (((Below.refl _ w).alloc (Nat.le_refl _) _).alloc (by simp) _)
/-- What the statements ask of an error: its place's two cells, if it has one. -/
structure Err (w : World) (v : Value) (r : Option (Int × Int)) : Prop where
  ch : ∃ d p, Ch w v d p ∧ (match r with | some (e, a) => ∃ b, p = some b ∧ w.cell? ⟨b, 0, none⟩ = some (.int .i64 e) ∧ w.cell? ⟨b, 1, none⟩ = some (.int .i64 a) | none => p = none)
def RetB (w : World) (v : Value) (e : Ending) (w' : World) : Prop := e = .returned v ∧ Below w.heap.size w w'
theorem of_err {w : World} {v : Value} {e a : Int} (h : Err w v (some (e, a))) (hg : HasType w) :
    Calls Tryf.prog 21 #[v] w (RetB w (.tuple #[.agg #[.int .i64 e, .int .i64 a], .bool true])) := by
  obtain ⟨d, p, hc, b, rfl, h0, h1⟩ := h.ch
  exact of_hit hc hg e a h0 h1
theorem of_no {w : World} {v : Value} (h : Err w v none) (hg : HasType w) :
    Calls Tryf.prog 21 #[v] w (RetB w (.tuple #[.agg #[.int .i64 0, .int .i64 0], .bool false])) := by
  obtain ⟨d, p, hc, hr⟩ := h.ch
  subst hr
  exact of_miss hc hg
theorem Err.form {w : World} {v : Value} {r : Option (Int × Int)} (h : Err w v r) : ∃ T b, v = .iface T (.pointer (some ⟨b, 0, none⟩)) := by
  obtain ⟨d, p, hc, hr⟩ := h.ch; exact hc.form
theorem Err.later {w w' : World} {v : Value} {r : Option (Int × Int)} (h : Err w v r) (hb : Below w.heap.size w w') : Err w' v r := by
  obtain ⟨d, p, hc, hr⟩ := h.ch
  refine ⟨d, p, hc.later hb, ?_⟩
  cases r with
  | none => exact hr
  | some q =>
    obtain ⟨b, rfl, h0, h1⟩ := hr
    exact ⟨b, rfl, (hb.cell (p := ⟨b, 0, none⟩) (World.block_lt_of_cell? w _ h0)).trans h0, (hb.cell (p := ⟨b, 1, none⟩) (World.block_lt_of_cell? w _ h1)).trans h1⟩
set_option maxHeartbeats 1000000 in
theorem code_some {w : World} {v : Value} {e a : Int} (h : Err w v (some (e, a))) (hg : HasType w) : Calls Tryf.prog 9 #[v] w (RetB w (.int .i64 e)) := by
  have HO := Lib.hid (of_err h hg)
  obtain ⟨T, b, rfl⟩ := h.form
  clear h hg
  go_enter Tryf.func9, Tryf.ntmps9
  go_wp2_with (go_at_call 21; refine (HO.out).mono ?_; intro en w' hx; obtain ⟨rfl, hb⟩ := hx; have HB := Lib.hid hb; clear hb)
  go_ret
  exact ⟨rfl, ((HB.out).alloc HB.out.size _)⟩
set_option maxHeartbeats 1000000 in
theorem code_none {w : World} {v : Value} (h : Err w v none) (hg : HasType w) : Calls Tryf.prog 9 #[v] w (RetB w (.int .i64 1)) := by
  have HO := Lib.hid (of_no h hg)
  obtain ⟨T, b, rfl⟩ := h.form
  clear h hg
  go_enter Tryf.func9, Tryf.ntmps9
  go_wp2_with (go_at_call 21; refine (HO.out).mono ?_; intro en w' hx; obtain ⟨rfl, hb⟩ := hx; have HB := Lib.hid hb; clear hb)
  go_ret
  exact ⟨rfl, ((HB.out).alloc HB.out.size _)⟩
theorem code_nil (w : World) : Calls Tryf.prog 9 #[.nilIface] w (RetB w (.int .i64 0)) := by
  go_enter Tryf.func9, Tryf.ntmps9
  go_wp2
  go_ret
  exact ⟨rfl, Below.refl _ _⟩
set_option maxHeartbeats 1000000 in
theorem at_some {w : World} {v : Value} {e a : Int} (h : Err w v (some (e, a))) (hg : HasType w) : Calls Tryf.prog 10 #[v] w (RetB w (.int .i64 a)) := by
  have HO := Lib.hid (of_err h hg)
  obtain ⟨T, b, rfl⟩ := h.form
  clear h hg
  go_enter Tryf.func10, Tryf.ntmps10
  go_wp2_with (go_at_call 21; refine (HO.out).mono ?_; intro en w' hx; obtain ⟨rfl, hb⟩ := hx; have HB := Lib.hid hb; clear hb)
  go_ret
  exact ⟨rfl, ((HB.out).alloc HB.out.size _)⟩
set_option maxHeartbeats 1000000 in
theorem at_none {w : World} {v : Value} (h : Err w v none) (hg : HasType w) : Calls Tryf.prog 10 #[v] w (RetB w (.int .i64 (-1))) := by
  have HO := Lib.hid (of_no h hg)
  obtain ⟨T, b, rfl⟩ := h.form
  clear h hg
  go_enter Tryf.func10, Tryf.ntmps10
  go_wp2_with (go_at_call 21; refine (HO.out).mono ?_; intro en w' hx; obtain ⟨rfl, hb⟩ := hx; have HB := Lib.hid hb; clear hb)
  go_ret
  exact ⟨rfl, ((HB.out).alloc HB.out.size _)⟩
set_option maxHeartbeats 1000000 in
theorem at_nil (w : World) : Calls Tryf.prog 10 #[.nilIface] w (RetB w (.int .i64 (-1))) := by
  have HO := Lib.hid (of_nil w)
  go_enter Tryf.func10, Tryf.ntmps10
  go_wp2_with (go_at_call 21; refine (HO.out).mono ?_; intro en w' hx; obtain ⟨rfl, hb⟩ := hx; have HB := Lib.hid hb; clear hb)
  go_ret
  exact ⟨rfl, ((HB.out).alloc HB.out.size _)⟩
end Go.Proofs.YtaeakipppdjkmaaFmt
