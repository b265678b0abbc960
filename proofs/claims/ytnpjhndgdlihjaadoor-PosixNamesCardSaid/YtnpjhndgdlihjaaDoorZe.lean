/- The reader's small steps. The reader: a right side. The reader: where it stands while it reads the heads. The reader: one head. -/
import Derived.Test.YtnpjhndgdlihjaaDoorZd
import Derived.Deep.RegionLaw
import Derived.Deep.LoopGhost
import Derived.BigRegion
import Derived.RegionDies
namespace Go.Proofs.YtnpjhndgdlihjaaDoor
open Go.RowKit
set_option linter.unusedVariables false
/-- What gives up, with what. -/
def Gives (f : Flt) (e : Ending) : Prop := e = .panicked [{ v := .iface 78 (.agg #[.int .i64 f.1, .int .i64 f.2]), recovered := false }]
theorem fail_any (k p : Int) (w : World) : Calls Tryd.prog 81 #[.int .i64 k, .int .i64 p] w fun e w' => e = .panicked [{ v := .iface 78 (.agg #[.int .i64 k, .int .i64 p]), recovered := false }] ∧ w = w' := by
  go_enter Tryd.func81, Tryd.ntmps81
  go_wp2
  exact ⟨rfl, rfl, rfl⟩
theorem Gives.of {k p : Int} {f : Flt} (h1 : k = f.1) (h2 : p = f.2) : Gives f (.panicked [{ v := .iface 78 (.agg #[.int .i64 k, .int .i64 p]), recovered := false }]) := by subst h1; subst h2; rfl
/-- Nothing that was there has turned but what X lets turn. -/
structure Chg (X : Nat → Prop) (w w' : World) : Prop where
  os : w'.os = w.os
  tape : w'.tape = w.tape
  output : w'.output = w.output
  size : w.heap.size ≤ w'.heap.size
  block : ∀ k, k < w.heap.size → ¬ X k → w'.heap[k]? = w.heap[k]?
namespace Chg
variable {X Y : Nat → Prop} {a b c : World}
theorem refl (X : Nat → Prop) (w : World) : Chg X w w := ⟨rfl, rfl, rfl, Nat.le_refl _, fun _ _ _ => rfl⟩
theorem of_below (h : Below a.heap.size a b) : Chg X a b := ⟨h.os, h.tape, h.output, h.size, fun k hk _ => h.block k hk⟩
theorem trans (h : Chg X a b) (k : Chg Y b c) (hY : ∀ i, i < a.heap.size → Y i → X i) : Chg X a c :=
  ⟨k.os.trans h.os, k.tape.trans h.tape, k.output.trans h.output, Nat.le_trans h.size k.size, fun i hi hx => (k.block i (Nat.lt_of_lt_of_le hi h.size) (fun hy => hx (hY i hi hy))).trans (h.block i hi hx)⟩
theorem next (h : Chg X a b) (k : Chg X b c) : Chg X a c := h.trans k fun _ _ h => h
theorem mono (h : Chg X a b) (hX : ∀ i, X i → Y i) : Chg Y a b := ⟨h.os, h.tape, h.output, h.size, fun i hi hy => h.block i hi (fun hx => hy (hX i hx))⟩
theorem alloc (h : Chg X a b) (o : Obj) : Chg X a (b.alloc o) := h.next (of_below (below_alloc b o))
theorem drew (h : Chg X a b) : Chg X a b.drew := ⟨h.os, h.tape, h.output, h.size, h.block⟩
theorem set (h : Chg X a b) {p : Addr} (hp : a.heap.size ≤ p.block ∨ X p.block) (u : Value) : Chg X a (b.setCell p u) :=
  ⟨h.os, h.tape, h.output, by simpa [World.setCell] using h.size, fun k hk hx => (Below.heap_setCell _ _ _ _ (by rintro rfl; rcases hp with hp | hp; omega; exact hx hp)).trans (h.block k hk hx)⟩
theorem blk {g : Nat} {t : TypeId} {cs : Array Value} (h : Chg X a b) (hb : Blk a g t cs) (hx : ¬ X g) : Blk b g t cs := (h.block g hb.lt hx).trans hb
theorem own {base : Nat} {e : TypeId} {size n : Nat} {v : Value} {xs : List Value} (h : Chg X a b) (ho : a.ownsRow base e size v n xs) (hx : ∀ g, v.ownBlock = some g → ¬ X g) : b.ownsRow base e size v n xs := by
  refine ⟨ho.1, ?_⟩
  rcases ho.2 with hn | ⟨g, cap, cur, rfl, hb, hgg, rest⟩
  · exact .inl hn
  · refine .inr ⟨g, cap, cur, rfl, hb, ?_, rest⟩
    rw [h.block g (Array.getElem?_eq_some_iff.1 hgg).1 (hx g rfl), hgg]
theorem below (h : Chg X a b) {B : Nat} (hB : B ≤ a.heap.size) (hX : ∀ k, k < B → ¬ X k) : Below B a b := ⟨h.os, h.tape, h.output, h.size, fun k hk => h.block k (by omega) (hX k hk)⟩
end Chg
/-- Tokens that lie one behind the other, somewhere in a block. -/
structure LiesAt (w : World) (b off c : Nat) (cs : Array Value) (l : List Tk) : Prop where
  blk : Blk w b 60 cs
  cap : l.length ≤ c ∧ c ≤ maxLen
  cell : ∀ k t, l[k]? = some t → cs[off + k * 3]? = some (.int .i64 t.k) ∧ cs[off + k * 3 + 1]? = some (.string (str t.s)) ∧ cs[off + k * 3 + 2]? = some (.int .i64 t.p)
def Lies (w : World) (v : Value) (l : List Tk) : Prop := ∃ b off c cs, v = .slice (some ⟨b, off, none⟩) l.length c ∧ LiesAt w b off c cs l
theorem Lies.chg {X : Nat → Prop} {w w' : World} {v : Value} {l : List Tk} (h : Lies w v l) (hc : Chg X w w') (hx : ∀ g, v.ownBlock = some g → ¬ X g) : Lies w' v l := by
  obtain ⟨b, off, c, cs, rfl, h⟩ := h
  exact ⟨b, off, c, cs, rfl, hc.blk h.blk (hx b rfl), h.cap, h.cell⟩
theorem Lies.lt {w : World} {v : Value} {l : List Tk} (h : Lies w v l) : ∀ g, v.ownBlock = some g → g < w.heap.size := by
  obtain ⟨b, off, c, cs, rfl, h⟩ := h
  intro g hg
  cases hg
  exact h.blk.lt
theorem LiesAt.tail {w : World} {b off c : Nat} {cs : Array Value} {t : Tk} {r : List Tk} (h : LiesAt w b off c cs (t :: r)) : LiesAt w b (off + 3) (c - 1) cs r where
  blk := h.blk
  cap := by have := h.cap; simp at this; omega
  cell k u hu := by
    have := h.cell (k + 1) u hu
    rw [show off + 3 + k * 3 = off + (k + 1) * 3 by omega]
    exact this
theorem LiesAt.head {w : World} {b off c : Nat} {cs : Array Value} {t : Tk} {r : List Tk} (h : LiesAt w b off c cs (t :: r)) :
    w.cell? ⟨b, off, none⟩ = some (.int .i64 t.k) ∧ w.cell? ⟨b, off + 1, none⟩ = some (.string (str t.s)) ∧ w.cell? ⟨b, off + 2, none⟩ = some (.int .i64 t.p) := by
  have := h.cell 0 t rfl
  rw [h.blk.cell, h.blk.cell, h.blk.cell]
  simpa using this
theorem is_any {w : World} {rb : Nat} {lv : Value} {t : Tk} {r : List Tk} (h0 : w.cell? ⟨rb, 0, none⟩ = some lv) (hl : Lies w lv (t :: r)) (k : Nat) : Calls Tryd.prog 50 #[.pointer (some ⟨rb, 0, none⟩), .int .i64 k] w fun e w' => e = .returned (.bool (t.k == k)) ∧ w' = w := by
  obtain ⟨b, off, c, cs, rfl, h⟩ := hl
  obtain ⟨c0, _, _⟩ := h.head
  have hb : ((t.k : Int) == (k : Int)) = (t.k == k) := by rw [Bool.eq_iff_iff, beq_iff_eq, beq_iff_eq]; omega
  have HB := Lib.hid hb
  have hn : (0 : Int) < ((t :: r).length : Int) := by rw [List.length_cons]; omega
  generalize (t :: r).length = n at *
  clear h hb
  go_enter Tryd.func50, Tryd.ntmps50
  go_wp2
  go_ret
  exact ⟨ret_bool HB.out, rfl⟩
theorem sym_any {w : World} {rb : Nat} {lv : Value} {t : Tk} {r : List Tk} (h0 : w.cell? ⟨rb, 0, none⟩ = some lv) (hl : Lies w lv (t :: r)) : Calls Tryd.prog 75 #[.pointer (some ⟨rb, 0, none⟩)] w fun e w' => e = .returned (.bool (symT t)) ∧ w' = w := by
  have H1 := Lib.hid (is_any h0 hl 1)
  have H2 := Lib.hid (is_any h0 hl 2)
  unfold symT
  clear h0 hl
  cases h1 : (t.k == 1) with
  | true =>
    rw [h1] at H1
    clear h1
    go_enter Tryd.func75, Tryd.ntmps75
    go_wp2_with (go_at_call 50; refine H1.out.mono ?_; rintro e w' ⟨rfl, rfl⟩)
    go_ret
    exact ⟨rfl, rfl⟩
  | false =>
    rw [h1] at H1
    clear h1
    go_enter Tryd.func75, Tryd.ntmps75
    go_wp2_with fail
    refine H1.out.mono ?_
    rintro e w' ⟨rfl, rfl⟩
    go_wp2_with fail
    refine H2.out.mono ?_
    rintro e w' ⟨rfl, rfl⟩
    go_wp2
    go_ret
    exact ⟨by simp, rfl⟩
theorem bad_any {w : World} {rb : Nat} {lv : Value} {t : Tk} {r : List Tk} (h0 : w.cell? ⟨rb, 0, none⟩ = some lv) (hl : Lies w lv (t :: r)) : Calls Tryd.prog 76 #[.pointer (some ⟨rb, 0, none⟩)] w fun e w' => Gives (badT (t :: r)) e ∧ w' = w := by
  have H1 := Lib.hid (is_any h0 hl 0)
  obtain ⟨b, off, c, cs, rfl, h⟩ := hl
  obtain ⟨_, _, c2⟩ := h.head
  have hn : (0 : Int) < ((t :: r).length : Int) := by rw [List.length_cons]; omega
  have hbd : badT (t :: r) = (if t.k = 0 then 4 else 3, t.p) := rfl
  rw [hbd]
  clear h hbd
  generalize (t :: r).length = n at *
  by_cases hk : t.k = 0
  · rw [if_pos hk]
    rw [show (t.k == 0) = true by simp [hk]] at H1
    clear hk
    go_enter Tryd.func76, Tryd.ntmps76
    go_wp2_with (first
      | (go_at_call 50; refine H1.out.mono ?_; rintro e w' ⟨rfl, rfl⟩)
      | (go_at_call 81; refine (fail_any _ _ _).mono ?_; rintro e w' ⟨rfl, rfl⟩))
    exact ⟨rfl, Gives.of rfl rfl, rfl⟩
  · rw [if_neg hk]
    rw [show (t.k == 0) = false by simp [hk]] at H1
    clear hk
    go_enter Tryd.func76, Tryd.ntmps76
    go_wp2_with (first
      | (go_at_call 50; refine H1.out.mono ?_; rintro e w' ⟨rfl, rfl⟩)
      | (go_at_call 81; refine (fail_any _ _ _).mono ?_; rintro e w' ⟨rfl, rfl⟩))
    exact ⟨rfl, Gives.of rfl rfl, rfl⟩
/-- The value of a token. -/
def Tk.val (t : Tk) : Value := .agg #[.int .i64 t.k, .string (str t.s), .int .i64 t.p]
/-- A token is taken. -/
def Took (w : World) (rb : Nat) (f1 f2 f3 f4 f5 : Value) (lv : Value) (t : Tk) (r : List Tk) (e : Ending) (w' : World) : Prop :=
  e = .returned t.val ∧ Chg (· = rb) w w' ∧ ∃ lv', Blk w' rb 84 #[lv', f1, f2, f3, f4, f5] ∧ Lies w' lv' r ∧ lv'.ownBlock = lv.ownBlock
set_option maxHeartbeats 1600000 in
theorem take_any {w : World} {rb : Nat} {f1 f2 f3 f4 f5 lv : Value} {t : Tk} {r : List Tk} (hB : Blk w rb 84 #[lv, f1, f2, f3, f4, f5]) (hl : Lies w lv (t :: r)) (hr : r ≠ []) (hne : lv.ownBlock ≠ some rb) : Calls Tryd.prog 52 #[.pointer (some ⟨rb, 0, none⟩)] w (Took w rb f1 f2 f3 f4 f5 lv t r) := by
  obtain ⟨b, off, c, cs, rfl, h⟩ := hl
  obtain ⟨c0, c1, c2⟩ := h.head
  have hbr : b ≠ rb := fun e => hne (by rw [e]; rfl)
  have hb0 := hB.cell 0
  have hf0 := hB.frozen 0
  simp at hb0
  have hlt := hB.lt
  have hltb := h.blk.lt
  have hT := Lib.hid h
  have hcap := h.cap
  have hrl : 0 < r.length := List.length_pos_iff.2 hr
  simp only [List.length_cons] at hcap
  have HB := Lib.hid hB
  clear h hB hr hne
  obtain ⟨hc1, hc2⟩ := hcap
  unfold maxLen at hc2
  rw [show (t :: r).length = r.length + 1 from rfl]
  have q1 : ¬ c = 1 := by omega
  have q2 : (0 : Int) < (r.length : Int) + 1 := by omega
  have q3 : (1 : Int) ≤ (r.length : Int) + 1 := by omega
  have q4 : (r.length : Int) + 1 ≤ (c : Int) := by omega
  go_enter Tryd.func52, Tryd.ntmps52
  go_wp2
  refine bodyPost_ret (v := t.val) (by simp [results, Tryd.results52, go_sem, Tk.val]) rfl ⟨rfl, ?_, ?_⟩
  · exact (((Chg.refl (· = rb) w).set (p := ⟨rb, 0, none⟩) (.inr rfl) _).alloc _).alloc _
  · have hB2 := (((HB.out.set_ 0 (.slice (some ⟨b, off + 3, none⟩) r.length (c - 1))).alloc (.cells #[.int .i64 t.k, .string (str t.s), .int .i64 t.p] 60)).alloc (.cells #[.int .i64 t.k, .string (str t.s), .int .i64 t.p] 60))
    refine ⟨_, by simpa using hB2, ⟨b, off + 3, c - 1, cs, rfl, ?_⟩, rfl⟩
    have h2 := hT.out.tail
    exact ⟨((h2.blk.far (p := ⟨rb, 0, none⟩) (by simpa using hbr) _).alloc _).alloc _, h2.cap, h2.cell⟩
theorem want_no {w : World} {rb : Nat} {lv : Value} {t : Tk} {r : List Tk} (h0 : w.cell? ⟨rb, 0, none⟩ = some lv) (hl : Lies w lv (t :: r)) (k : Nat) (hk : (t.k == k) = false) : Calls Tryd.prog 77 #[.pointer (some ⟨rb, 0, none⟩), .int .i64 k] w fun e w' => Gives (badT (t :: r)) e ∧ Below w.heap.size w w' := by
  have hA := below_alloc w (.cells #[.int .i64 0, .string ⟨#[]⟩, .int .i64 0] 60)
  have h0' := (hA.cell (p := ⟨rb, 0, none⟩) (World.block_lt_of_cell? w _ h0)).trans h0
  have hl' : Lies (w.alloc (.cells #[.int .i64 0, .string ⟨#[]⟩, .int .i64 0] 60)) lv (t :: r) := hl.chg (X := fun _ => False) (.of_below hA) (fun _ _ h => h)
  have h1 := is_any h0' hl' k
  rw [hk] at h1
  have H1 := Lib.hid h1
  have H2 := Lib.hid (bad_any h0' hl')
  clear h0 hl h0' hl' h1 hk hA
  go_enter Tryd.func77, Tryd.ntmps77
  go_wp2_with (first
    | (go_at_call 50; refine H1.out.mono ?_; rintro e w' ⟨rfl, rfl⟩)
    | (go_at_call 76; refine H2.out.mono ?_; intro e w' hx; obtain ⟨rfl, rfl⟩ := hx))
  exact ⟨rfl, Gives.of rfl rfl, below_alloc _ _⟩
set_option maxHeartbeats 1600000 in
theorem want_yes {w : World} {rb : Nat} {f1 f2 f3 f4 f5 lv : Value} {t : Tk} {r : List Tk} (hB : Blk w rb 84 #[lv, f1, f2, f3, f4, f5]) (hl : Lies w lv (t :: r)) (hr : r ≠ []) (hne : lv.ownBlock ≠ some rb) (k : Nat) (hk : (t.k == k) = true) : Calls Tryd.prog 77 #[.pointer (some ⟨rb, 0, none⟩), .int .i64 k] w (Took w rb f1 f2 f3 f4 f5 lv t r) := by
  have hA := below_alloc w (.cells #[.int .i64 0, .string ⟨#[]⟩, .int .i64 0] 60)
  have hB' := hB.alloc (.cells #[.int .i64 0, .string ⟨#[]⟩, .int .i64 0] 60)
  have hl' : Lies (w.alloc (.cells #[.int .i64 0, .string ⟨#[]⟩, .int .i64 0] 60)) lv (t :: r) := hl.chg (X := fun _ => False) (.of_below hA) (fun _ _ h => h)
  have h1 := is_any (hB'.cell 0) hl' k
  rw [hk] at h1
  have H1 := Lib.hid h1
  have H2 := Lib.hid (take_any hB' hl' hr hne)
  have hlt := hB.lt
  have HA := Lib.hid hA
  have HLB := Lib.hid hl.lt
  clear hB hl hr hne hB' hl' h1 hk hA
  go_enter Tryd.func77, Tryd.ntmps77
  go_wp2_with (first
    | (go_at_call 50; refine H1.out.mono ?_; rintro e w' ⟨rfl, rfl⟩)
    | (go_at_call 52; refine H2.out.mono ?_; intro e w1 hx; obtain ⟨rfl, hc, hx2⟩ := hx; have HC := Lib.hid hc; have HX := Lib.hid hx2; have k0 := (hc.block w.heap.size (by simp) (by omega)).trans (Blk.new w 60 #[.int .i64 0, .string ⟨#[]⟩, .int .i64 0]); have HK := Lib.hid k0; have j0 := Blk.cell k0 0; have j1 := Blk.cell k0 1; have j2 := Blk.cell k0 2; have i0 := Blk.frozen k0 0; have i1 := Blk.frozen k0 1; have i2 := Blk.frozen k0 2; clear hc hx2 k0; simp at j0 j1 j2; unfold Tk.val))
  refine bodyPost_ret (v := t.val) (by simp [results, Tryd.results77, go_sem, Tk.val, j0, j1, j2]) rfl ⟨rfl, ?_, ?_⟩
  · exact (((((Chg.refl (· = rb) w).alloc _).next HC.out).set (p := ⟨w.heap.size, 0, none⟩) (.inl (Nat.le_refl _)) _).set (p := ⟨w.heap.size, 1, none⟩) (.inl (Nat.le_refl _)) _).set (p := ⟨w.heap.size, 2, none⟩) (.inl (Nat.le_refl _)) _
  · obtain ⟨lv', hb, hl, ho⟩ := HX.out
    have hne : rb ≠ w.heap.size := by omega
    obtain ⟨b, off, c, cs, rfl, h⟩ := hl
    have hbne : b ≠ w.heap.size := by
      have := HLB.out b (ho ▸ rfl)
      omega
    refine ⟨_, ((hb.far (p := ⟨w.heap.size, 0, none⟩) hne _).far (p := ⟨w.heap.size, 1, none⟩) hne _).far (p := ⟨w.heap.size, 2, none⟩) hne _, ⟨b, off, c, cs, rfl, ?_⟩, ho⟩
    exact ⟨((h.blk.far (p := ⟨w.heap.size, 0, none⟩) hbne _).far (p := ⟨w.heap.size, 1, none⟩) hbne _).far (p := ⟨w.heap.size, 2, none⟩) hbne _, h.cap, h.cell⟩
end Go.Proofs.YtnpjhndgdlihjaaDoor

namespace Go.Proofs.YtnpjhndgdlihjaaDoor
open Go.RowKit
set_option linter.unusedVariables false
/-- The end is the last token, and no other one. -/
def Ended : List Tk → Prop
  | [] => False
  | [t] => t.k = 0
  | t :: r => t.k ≠ 0 ∧ Ended r
theorem Ended.tail {t : Tk} {r : List Tk} (h : Ended (t :: r)) (hk : t.k ≠ 0) : Ended r ∧ r ≠ [] := by
  cases r with
  | nil => exact absurd h hk
  | cons u r => exact ⟨h.2, by simp⟩
theorem Ended.cons {l : List Tk} (h : Ended l) : ∃ t r, l = t :: r := by
  cases l with
  | nil => exact h.elim
  | cons t r => exact ⟨t, r, rfl⟩
theorem sym_nz {t : Tk} (h : symT t = true) : t.k ≠ 0 := by
  intro h0
  unfold symT at h
  rw [h0] at h
  cases h
theorem Chg.keeps {X : Nat → Prop} {T : List TypeId} {w a b : World} (h : Chg X w a) (k : Keeps w.heap.size T a b) : Chg X w b :=
  ⟨k.os.trans h.os, k.tape.trans h.tape, k.output.trans h.output, Nat.le_trans h.size k.size, fun i hi hx => (k.block i (Nat.lt_of_lt_of_le hi h.size) (.inl hi)).trans (h.block i hi hx)⟩
/-- Where the reader stands. -/
structure Stand (w : World) (rb : Nat) (f1 f2 f3 f4 f5 : Value) (tb : Option Nat) (l : List Tk) : Prop where
  ex : ∃ lv, Blk w rb 84 #[lv, f1, f2, f3, f4, f5] ∧ Lies w lv l ∧ lv.ownBlock = tb
  ended : Ended l
  ne : tb ≠ some rb
theorem Took.stand {w w' : World} {rb : Nat} {f1 f2 f3 f4 f5 lv : Value} {t : Tk} {r : List Tk} {e : Ending} (h : Took w rb f1 f2 f3 f4 f5 lv t r e w') (hr : Ended r) (hne : lv.ownBlock ≠ some rb) :
    e = .returned t.val ∧ Chg (· = rb) w w' ∧ Stand w' rb f1 f2 f3 f4 f5 lv.ownBlock r := by
  obtain ⟨h1, h2, lv', h3, h4, h5⟩ := h
  exact ⟨h1, h2, ⟨lv', h3, h4, h5⟩, hr, hne⟩
theorem Stand.chg {X : Nat → Prop} {w w' : World} {rb : Nat} {f1 f2 f3 f4 f5 : Value} {tb : Option Nat} {l : List Tk} (h : Stand w rb f1 f2 f3 f4 f5 tb l) (hc : Chg X w w') (h1 : ¬ X rb) (h2 : ∀ g, tb = some g → ¬ X g) : Stand w' rb f1 f2 f3 f4 f5 tb l := by
  obtain ⟨lv, k1, k2, rfl⟩ := h.ex
  exact ⟨⟨lv, hc.blk k1 h1, k2.chg hc h2, rfl⟩, h.ended, h.ne⟩
theorem Stand.lt {w : World} {rb : Nat} {f1 f2 f3 f4 f5 : Value} {tb : Option Nat} {l : List Tk} (h : Stand w rb f1 f2 f3 f4 f5 tb l) : rb < w.heap.size ∧ ∀ g, tb = some g → g < w.heap.size := by
  obtain ⟨lv, k1, k2, rfl⟩ := h.ex
  exact ⟨k1.lt, k2.lt⟩
/-- Where a right side stands, that is being read. -/
structure SideAt (w : World) (rb : Nat) (f1 f2 f3 f4 f5 : Value) (tb : Option Nat) (l : List Tk) (sb : Nat) (p : Nat) (sv : Value) (a rest : List Tk) (wr : World) : Prop where
  stand : Stand wr rb f1 f2 f3 f4 f5 tb rest
  blk : Blk wr sb 116 #[sv, .int .i64 p]
  own : wr.ownsRow w.heap.size 60 3 sv a.length (a.flatMap Tk.cells)
  chg : Chg (· = rb) w wr
  tw : l.takeWhile symT = a ++ rest.takeWhile symT
  dw : l.dropWhile symT = rest.dropWhile symT
theorem side_rel {w wr w1 w2 : World} {rb : Nat} {f1 f2 f3 f4 f5 : Value} {tb : Option Nat} {l : List Tk} {sb p c2 : Nat} {sv : Value} {a r : List Tk} {t : Tk} {A2 : Option Addr} (hlt : rb < w.heap.size) (htb : ∀ g, tb = some g → g < w.heap.size) (hsb : w.heap.size ≤ sb)
    (h : SideAt w rb f1 f2 f3 f4 f5 tb l sb p sv a (t :: r) wr) (ht : symT t = true) (hc1 : Chg (· = rb) wr w1) (hs1 : Stand w1 rb f1 f2 f3 f4 f5 tb r)
    (ho : w2.ownsRow w.heap.size 60 3 (.slice A2 (a.length + 1) c2) (a.length + 1) (a.flatMap Tk.cells ++ t.cells)) (hk : Keeps w.heap.size [60] (w1.alloc (.cells #[.int .i64 t.k, .string (str t.s), .int .i64 t.p] 60)) w2) :
    SideAt w rb f1 f2 f3 f4 f5 tb l sb p (.slice A2 (a.length + 1) c2) (a ++ [t]) r (w2.setCell ⟨sb, 0, none⟩ (.slice A2 (a.length + 1) c2)) := by
  have hrs : rb ≠ sb := by omega
  have hbk : Blk w2 sb 116 #[sv, .int .i64 p] := hk.blk ((hc1.blk h.blk (Ne.symm hrs)).alloc _) (.inr (by decide))
  have hcw : Chg (· = rb) w w2 := ((h.chg.next hc1).alloc _).keeps hk
  refine ⟨⟨?_, hs1.ended, hs1.ne⟩, by simpa using hbk.set_ 0 _, ?_, hcw.set (p := ⟨sb, 0, none⟩) (.inl hsb) _, ?_, ?_⟩
  · obtain ⟨lv, k1, k2, k3⟩ := hs1.ex
    refine ⟨lv, (hk.blk (k1.alloc _) (.inr (by decide))).far (by simpa using hrs) _, ?_, k3⟩
    obtain ⟨b, off, c, cs, rfl, hl⟩ := k2
    have hb := htb b (by rw [← k3]; rfl)
    exact ⟨b, off, c, cs, rfl, (hk.blk (hl.blk.alloc _) (.inl hb)).far (by simp; omega) _, hl.cap, hl.cell⟩
  · have : (a ++ [t]).length = a.length + 1 := by simp
    rw [this, List.flatMap_append]
    refine own_far (by simpa using ho) ?_ _
    intro he
    rcases own_form ho with ⟨e, _⟩ | ⟨b, c, e, _, _, _, _, cur, hcur⟩
    · rw [e] at he; cases he
    · rw [e] at he
      cases he
      exact Blk.ne_ (t := 60) hcur hbk (by decide) rfl
  · rw [h.tw, List.takeWhile_cons, if_pos ht]; simp
  · rw [h.dw, List.dropWhile_cons, if_pos ht]
theorem own_shape {w : World} {base : Nat} {e : TypeId} {size n : Nat} {v : Value} {xs : List Value} (h : w.ownsRow base e size v n xs) : ∃ A c, v = .slice A n c := by
  rcases own_form h with ⟨rfl, rfl⟩ | ⟨b, c, rfl, _⟩
  · exact ⟨none, 0, rfl⟩
  · exact ⟨_, c, rfl⟩
theorem own_ne {w : World} {base x : Nat} {e : TypeId} {size n : Nat} {v : Value} {xs : List Value} (h : w.ownsRow base e size v n xs) (hx : x < base) : ∀ g, v.ownBlock = some g → ¬ g = x := by
  rcases own_form h with ⟨rfl, _⟩ | ⟨b, c, rfl, hb, _⟩
  · intro g hg; cases hg
  · intro g hg he
    cases hg
    subst he
    exact absurd hx (Nat.not_lt.2 hb)
theorem SideAt.len {w wr : World} {rb : Nat} {f1 f2 f3 f4 f5 : Value} {tb : Option Nat} {l : List Tk} {sb p : Nat} {sv : Value} {a rest : List Tk} (h : SideAt w rb f1 f2 f3 f4 f5 tb l sb p sv a rest wr) : a.length + rest.length = l.length := by
  have h1 := congrArg List.length h.tw
  have h2 := congrArg List.length h.dw
  have h3 := congrArg List.length (List.takeWhile_append_dropWhile (p := symT) (l := l))
  have h4 := congrArg List.length (List.takeWhile_append_dropWhile (p := symT) (l := rest))
  rw [List.length_append] at h1 h3 h4
  omega
theorem sideL_l (l : List Tk) : (sideL l).l = l.takeWhile symT := by
  cases l <;> rfl
theorem SideAt.drew {w wr : World} {rb : Nat} {f1 f2 f3 f4 f5 : Value} {tb : Option Nat} {l : List Tk} {sb p : Nat} {sv : Value} {a rest : List Tk} (h : SideAt w rb f1 f2 f3 f4 f5 tb l sb p sv a rest wr) : SideAt w rb f1 f2 f3 f4 f5 tb l sb p sv a rest wr.drew := by
  have hd : Chg (fun _ => False) wr wr.drew := (Chg.refl _ _).drew
  exact ⟨h.stand.chg hd id (fun _ _ => id), hd.blk h.blk id, hd.own h.own (fun _ _ => id), h.chg.drew, h.tw, h.dw⟩
/-- A right side. -/
def SideEnd (w : World) (rb : Nat) (f1 f2 f3 f4 f5 : Value) (tb : Option Nat) (l : List Tk) (e : Ending) (w' : World) : Prop :=
  ∃ A c, e = .returned (.agg #[.slice A (sideL l).l.length c, .int .i64 (sideL l).p]) ∧ Chg (· = rb) w w' ∧ Stand w' rb f1 f2 f3 f4 f5 tb (l.dropWhile symT) ∧ w'.ownsRow w.heap.size 60 3 (.slice A (sideL l).l.length c) (sideL l).l.length ((sideL l).l.flatMap Tk.cells)
theorem ElTok_len (l : List Tk) : (l.flatMap Tk.cells).length = l.length * 3 := fm_len Tk.cells 3 Tk.cells_len l
set_option maxRecDepth 100000 in
set_option maxHeartbeats 3200000 in
theorem side_any {w : World} {rb : Nat} {f1 f2 f3 f4 f5 : Value} {tb : Option Nat} {l : List Tk} (h : Stand w rb f1 f2 f3 f4 f5 tb l) (hlen : l.length ≤ 100000) : Calls Tryd.prog 78 #[.pointer (some ⟨rb, 0, none⟩)] w (SideEnd w rb f1 f2 f3 f4 f5 tb l) := by
  obtain ⟨hlt, htb⟩ := h.lt
  obtain ⟨t0, r0, hl0⟩ := h.ended.cons
  obtain ⟨lv, hB, hl, hown⟩ := h.ex
  have hA := below_alloc w (.cells #[.slice none 0 0, .int .i64 0] 116)
  have hAA := ((Chg.refl (· = rb) w).alloc (.cells #[.slice none 0 0, .int .i64 0] 116)).alloc (.cells #[.slice none 0 0, .int .i64 t0.p] 116)
  have hp : (sideL l).p = t0.p := by rw [hl0]; rfl
  have HP := Lib.hid hp
  have hst0 : SideAt w rb f1 f2 f3 f4 f5 tb l (w.heap.size + 1) t0.p (.slice none 0 0) [] l ((w.alloc (.cells #[.slice none 0 0, .int .i64 0] 116)).alloc (.cells #[.slice none 0 0, .int .i64 t0.p] 116)) := by
    have hb1 := ((Chg.refl (fun _ => False) w).alloc (.cells #[.slice none 0 0, .int .i64 0] 116)).alloc (.cells #[.slice none 0 0, .int .i64 t0.p] 116)
    refine ⟨h.chg hb1 id (fun _ _ h => h), ?_, World.ownsRow_nil _ _ _ _, hAA, rfl, rfl⟩
    have := Blk.new (w.alloc (.cells #[.slice none 0 0, .int .i64 0] 116)) 116 #[.slice none 0 0, .int .i64 t0.p]
    rwa [World.size_alloc] at this
  have HST := Lib.hid hst0
  have HRB0 := Lib.hid ((Blk.new w 116 #[.slice none 0 0, .int .i64 0]).alloc (.cells #[.slice none 0 0, .int .i64 t0.p] 116))
  have hb0 := hB.cell 0
  simp at hb0
  obtain ⟨b, off, c, cs, rfl, hla⟩ := hl
  rw [hl0] at hla
  obtain ⟨_, _, c2⟩ := hla.head
  have hltb := hla.blk.lt
  have hll : (0 : Int) < (l.length : Int) := by rw [hl0, List.length_cons]; omega
  clear hA hAA h hB hla hl0 hown hp hst0
  go_enter Tryd.func78, Tryd.ntmps78
  go_wp2
  generalize hsb : w.heap.size + 1 = sb at *
  go_loopg [] l.length (fun n wr => ∃ sv a rest, n = rest.length ∧ Hid (SideAt w rb f1 f2 f3 f4 f5 tb l sb t0.p sv a rest wr) ∧ Hid (Blk wr w.heap.size 116 #[.slice none 0 0, .int .i64 0]))
  case atStart => exact ⟨_, [], l, rfl, HST, HRB0⟩
  case round =>
    obtain ⟨sv, a, rest, rfl, HS, HR⟩ := hrel
    obtain ⟨t, r, rfl⟩ := HS.out.stand.ended.cons
    have hal := HS.out.len
    obtain ⟨lvr, hB, hl, hown⟩ := HS.out.stand.ex
    have h0 := hB.cell 0
    simp at h0
    have H1 := Lib.hid (sym_any h0 hl)
    obtain ⟨A, c, rfl⟩ := own_shape HS.out.own
    have b0 := HS.out.blk.cell 0
    have b1 := HS.out.blk.cell 1
    have u0 := HS.out.blk.frozen 0
    have rr0 := HR.out.cell 0
    have rr1 := HR.out.cell 1
    have v0 := HR.out.frozen 0
    have v1 := HR.out.frozen 1
    simp at b0 b1 rr0 rr1
    have hsb2 := HS.out.blk.lt
    cases hs : symT t with
    | true =>
      rw [hs] at H1
      have HD := Lib.hid HS.out.drew
      have HRD := Lib.hid (((Chg.refl (fun _ => False) wr).drew).blk HR.out id)
      clear hB hl hown
      obtain ⟨lvr, hB, hl, hown⟩ := HD.out.stand.ex
      have htk := HS.out.stand.ended.tail (sym_nz hs)
      have hne : lvr.ownBlock ≠ some rb := by rw [hown]; exact HS.out.stand.ne
      have H2 := Lib.hid ((take_any hB hl htk.2 hne).mono fun e w1 hx => (by have := hx.stand htk.1 hne; rw [hown] at this; exact this : e = .returned (.agg #[.int .i64 t.k, .string (str t.s), .int .i64 t.p]) ∧ Chg (· = rb) wr.drew w1 ∧ Stand w1 rb f1 f2 f3 f4 f5 tb r))
      have HSY := Lib.hid hs
      have HA : a.length + r.length < 100000 := by simp at hal; omega
      clear hB hl h0 hown hs htk hal hne
      go_wp2_with (go_at_call 75; refine H1.out.mono ?_; rintro e w' ⟨rfl, hw'⟩; replace hw' := hw'.symm; subst hw')
      go_region_law (first
        | (refine step_app ElTok (.tmp 15) (.tmp 18) ?_ ?_ (base := w.heap.size) (n := a.length) (m := 1) (N := a.length + 1) (v := .slice A a.length c) (src := .slice (some ⟨w1.heap.size, 0, none⟩) 1 1) (xs := a.flatMap Tk.cells) (news := [.int .i64 t.k, .string (str t.s), .int .i64 t.p]) ?_ ?_ ?_ ?_ ?_ ?_ ?_ ?_ ?_
           · rfl
           · rfl
           · rfl
           · rfl
           · exact HO1.out.alloc _
           · exact src_tok w1 _ _ _
           · rfl
           · unfold maxLen; omega
           · omega
           · simp; omega
           intro A2 c2 w2 r1 r2 r3
           have HF := Lib.hid (side_rel hlt htb (by omega) HD.out HSY.out HC1.out HS1.out r1 r2)
           have hk2 := r2.blk (HK1.out.alloc _) (.inr (by decide))
           have z0 := hk2.cell 0
           have z1 := hk2.frozen 0
           simp at z0
           have HRF := Lib.hid ((r2.blk (HR1.out.alloc _) (.inr (by decide))).far (p := ⟨sb, 0, none⟩) (by simp; omega) (.slice A2 (a.length + 1) c2))
           clear r1 r2 r3 hk2)
        | (go_simp; go_at_call 52; refine H2.out.mono ?_; intro e w1 hx; obtain ⟨rfl, hc1, hs1⟩ := hx
           have HC1 := Lib.hid hc1
           have HS1 := Lib.hid hs1
           have HO1 := Lib.hid (hc1.own HD.out.own (own_ne HD.out.own hlt))
           have hk := hc1.blk HD.out.blk (by omega)
           have b0 := hk.cell 0
           have u0 := hk.frozen 0
           simp at b0
           have HK1 := Lib.hid hk
           have HR1 := Lib.hid (hc1.blk HRD.out (by omega))
           have hsz1 : wr.heap.size ≤ w1.heap.size := hc1.size
           have hsz3 : sb < w1.heap.size := by omega
           clear hc1 hs1 hk))
      all_goals go_wp2
      all_goals go_roundg r.length
      all_goals first
        | (case measure => simp)
        | (case rel => exact ⟨_, a ++ [t], r, rfl, HF, HRF⟩)
        | skip
    | false =>
      rw [hs] at H1
      clear hB hl h0
      go_wp2_with (go_at_call 75; refine H1.out.mono ?_; rintro e w' ⟨rfl, hw'⟩; replace hw' := hw'.symm; subst hw')
      refine bodyPost_ret (v := .agg #[.slice A a.length c, .int .i64 t0.p]) (by simp [results, Tryd.results78, go_sem, rr0, rr1]) rfl ?_
      have hst := HS.out
      have htw := hst.tw
      rw [List.takeWhile_cons, if_neg (by rw [hs]; simp), List.append_nil] at htw
      have hdw := hst.dw
      rw [List.dropWhile_cons, if_neg (by rw [hs]; simp)] at hdw
      have hX : Chg (· = w.heap.size) wr ((wr.setCell ⟨w.heap.size, 0, none⟩ (.slice A a.length c)).setCell ⟨w.heap.size, 1, none⟩ (.int .i64 t0.p)) := ((Chg.refl (· = w.heap.size) wr).set (p := ⟨w.heap.size, 0, none⟩) (.inr rfl) _).set (p := ⟨w.heap.size, 1, none⟩) (.inr rfl) _
      refine ⟨A, c, ?_, (hst.chg.set (p := ⟨w.heap.size, 0, none⟩) (.inl (Nat.le_refl _)) _).set (p := ⟨w.heap.size, 1, none⟩) (.inl (Nat.le_refl _)) _, ?_, ?_⟩
      · rw [sideL_l, htw, HP.out]
      · rw [hdw]
        exact hst.stand.chg hX (by omega) (fun g hg => by have := htb g hg; omega)
      · rw [sideL_l, htw]
        refine hX.own hst.own ?_
        intro g hg he
        rcases own_form hst.own with ⟨e, _⟩ | ⟨b, c, e, _, _, _, _, cur, hcur⟩
        · rw [e] at hg; cases hg
        · rw [e] at hg
          cases hg
          exact Blk.ne_ (t := 60) hcur HR.out (by decide) he
end Go.Proofs.YtnpjhndgdlihjaaDoor

namespace Go.Proofs.YtnpjhndgdlihjaaDoor
open Go.RowKit
set_option linter.unusedVariables false
theorem ElIntR : El Tryd.prog 66 3 1 8 := El.of (z := .int .i64 0) Tryd.underlying66 (by kernel_rfl) rfl (by decide)
theorem src_int (y : World) (a : Int) : SrcOK (y.alloc (.cells #[.int .i64 a] 3)) (.slice (some ⟨y.heap.size, 0, none⟩) 1 1) 1 1 [.int .i64 a] :=
  SrcOK.blk (c := 1) (Blk.new y 3 #[.int .i64 a]) rfl (by simp [Value.oneCell'])
theorem Chg.of_grown {w w' : World} {v : Value} (h : w.grownBy w' v.ownBlock) : Chg (fun k => v.ownBlock = some k) w w' := ⟨h.os, h.tape, h.output, h.size, fun k hk hx => h.block k hk (fun e => hx e.symm)⟩
/-- Rows of other types lie in other blocks. -/
theorem own_apart {w : World} {B1 B2 : Nat} {e1 e2 : TypeId} {s1 s2 n1 n2 : Nat} {v1 v2 : Value} {xs1 xs2 : List Value} (h1 : w.ownsRow B1 e1 s1 v1 n1 xs1) (h2 : w.ownsRow B2 e2 s2 v2 n2 xs2) (he : e1 ≠ e2) : ∀ g, v1.ownBlock = some g → ¬ v2.ownBlock = some g := by
  intro g hg hg2
  rcases own_form h1 with ⟨rfl, _⟩ | ⟨b, c, rfl, _, _, _, _, cur, hcur⟩
  · cases hg
  · cases hg
    rcases own_form h2 with ⟨rfl, _⟩ | ⟨b2, c2, rfl, _, _, _, _, cur2, hcur2⟩
    · cases hg2
    · cases hg2
      exact Blk.ne_ (t := e1) hcur hcur2 he rfl
theorem own_ge {w : World} {B : Nat} {e : TypeId} {s n : Nat} {v : Value} {xs : List Value} (h : w.ownsRow B e s v n xs) : ∀ g, v.ownBlock = some g → B ≤ g ∧ g < w.heap.size := by
  intro g hg
  rcases own_form h with ⟨rfl, _⟩ | ⟨b, c, rfl, h1, h2, _⟩
  · cases hg
  · cases hg
    exact ⟨h1, h2⟩
def Mark (m : Nat) : Value := .int .i64 m
/-- Where the reader stands, while it reads the heads. -/
structure Heads (w : World) (B rb : Nat) (f4 f5 : Value) (tb : Option Nat) (l : List Tk) (x : Txt) (dv kv sv : Value) : Prop where
  stand : Stand w rb dv kv sv f4 f5 tb l
  decl : w.ownsRow B 60 3 dv x.decl.length (x.decl.flatMap Tk.cells)
  marks : w.ownsRow B 3 1 kv x.marks.length (x.marks.map Mark)
  starts : w.ownsRow B 60 3 sv x.starts.length (x.starts.flatMap Tk.cells)
  apart : ∀ g, dv.ownBlock = some g → ¬ sv.ownBlock = some g
  rbB : rb < B
  tbB : ∀ g, tb = some g → g < B
  bB : B ≤ w.heap.size
  ld : x.decl.length + l.length ≤ 100000
  lm : x.marks.length + l.length ≤ 100000
  ls : x.starts.length + l.length ≤ 100000
theorem Heads.chg {X : Nat → Prop} {w w' : World} {B rb : Nat} {f4 f5 : Value} {tb : Option Nat} {l l' : List Tk} {x : Txt} {dv kv sv : Value} (h : Heads w B rb f4 f5 tb l x dv kv sv) (hc : Chg X w w') (hx : ∀ k, X k → k = rb) (hs : Stand w' rb dv kv sv f4 f5 tb l') (hl : l'.length ≤ l.length) : Heads w' B rb f4 f5 tb l' x dv kv sv where
  stand := hs
  decl := hc.own h.decl (fun g hg hX => own_ne h.decl h.rbB g hg (hx g hX))
  marks := hc.own h.marks (fun g hg hX => own_ne h.marks h.rbB g hg (hx g hX))
  starts := hc.own h.starts (fun g hg hX => own_ne h.starts h.rbB g hg (hx g hX))
  apart := h.apart
  rbB := h.rbB
  tbB := h.tbB
  bB := Nat.le_trans h.bB hc.size
  ld := by have := h.ld; omega
  lm := by have := h.lm; omega
  ls := by have := h.ls; omega
/-- A row of the reader's has grown, and is laid back. -/
theorem decl_rel {w w2 : World} {o : Obj} {B rb : Nat} {f4 f5 : Value} {tb : Option Nat} {l : List Tk} {x : Txt} {dv kv sv : Value} {A2 : Option Addr} {c2 N : Nat} {t : Tk} (h : Heads w B rb f4 f5 tb l x dv kv sv) (hl : x.decl.length + 1 + l.length ≤ 100000) (hN : N = x.decl.length + 1)
    (ho : w2.ownsRow B 60 3 (.slice A2 N c2) N (x.decl.flatMap Tk.cells ++ t.cells)) (hg : (w.alloc o).grownBy w2 dv.ownBlock ∧ ((Value.slice A2 N c2).ownBlock = dv.ownBlock ∨ (Value.slice A2 N c2).ownBlock = some (w.alloc o).heap.size)) :
    Heads (w2.setCell ⟨rb, 1, none⟩ (.slice A2 N c2)) B rb f4 f5 tb l { x with decl := x.decl ++ [t] } (.slice A2 N c2) kv sv ∧ Chg (fun k => k = rb ∨ B ≤ k) w (w2.setCell ⟨rb, 1, none⟩ (.slice A2 N c2)) := by
  have hX : Chg (fun k => dv.ownBlock = some k) w w2 := ((Chg.refl _ w).alloc o).next (.of_grown hg.1)
  have hOg : ∀ k, dv.ownBlock = some k → B ≤ k := fun k hk => (own_ge h.decl k hk).1
  have hY : Chg (fun k => k = rb ∨ dv.ownBlock = some k) w (w2.setCell ⟨rb, 1, none⟩ (.slice A2 N c2)) := (hX.mono (fun i hi => .inr hi)).set (p := ⟨rb, 1, none⟩) (.inr (.inl rfl)) _
  have hrb := h.rbB
  obtain ⟨lv, k1, k2, k3⟩ := h.stand.ex
  have e1 : ¬ dv.ownBlock = some rb := fun e => by have := hOg _ e; omega
  refine ⟨⟨⟨⟨lv, by simpa using (hX.blk k1 e1).set_ 1 _, k2.chg hY ?_, k3⟩, h.stand.ended, h.stand.ne⟩, ?d, ?k, ?s, ?_, h.rbB, h.tbB, Nat.le_trans h.bB hY.size, ?_, ?_, ?_⟩, hY.mono ?_⟩
  · intro g hgg
    rw [k3] at hgg
    rintro (rfl | hh)
    · exact h.stand.ne hgg
    · have := h.tbB g hgg; have := hOg g hh; omega
  case d =>
    rw [show (x.decl ++ [t]).length = N by rw [hN]; simp, List.flatMap_append]
    exact own_far (by simpa [Tk.cells] using ho) (fun e => own_ne ho hrb _ e rfl) _
  case k =>
    refine hY.own h.marks ?_
    rintro g hgg (rfl | hh)
    · exact own_ne h.marks hrb _ hgg rfl
    · exact own_apart h.decl h.marks (by decide) g hh hgg
  case s =>
    refine hY.own h.starts ?_
    rintro g hgg (rfl | hh)
    · exact own_ne h.starts hrb _ hgg rfl
    · exact h.apart g hh hgg
  · intro g hgg hsg
    rcases hg.2 with e | e
    · rw [e] at hgg; exact h.apart g hgg hsg
    · rw [e] at hgg; cases hgg; have := (own_ge h.starts _ hsg).2; simp at this; omega
  · have := h.ld; simp at this ⊢; omega
  · have := h.lm; simp at this ⊢; omega
  · have := h.ls; simp at this ⊢; omega
  · rintro i (hi | hi)
    · exact .inl hi
    · exact .inr (hOg i hi)
/-- A row of the reader's has grown, and is laid back. -/
theorem marks_rel {w w2 : World} {o : Obj} {B rb : Nat} {f4 f5 : Value} {tb : Option Nat} {l : List Tk} {x : Txt} {dv kv sv : Value} {A2 : Option Addr} {c2 N : Nat} {m : Nat} (h : Heads w B rb f4 f5 tb l x dv kv sv) (hl : x.marks.length + 1 + l.length ≤ 100000) (hN : N = x.marks.length + 1)
    (ho : w2.ownsRow B 3 1 (.slice A2 N c2) N (x.marks.map Mark ++ [Mark m])) (hg : (w.alloc o).grownBy w2 kv.ownBlock ∧ ((Value.slice A2 N c2).ownBlock = kv.ownBlock ∨ (Value.slice A2 N c2).ownBlock = some (w.alloc o).heap.size)) :
    Heads (w2.setCell ⟨rb, 2, none⟩ (.slice A2 N c2)) B rb f4 f5 tb l { x with marks := x.marks ++ [m] } dv (.slice A2 N c2) sv ∧ Chg (fun k => k = rb ∨ B ≤ k) w (w2.setCell ⟨rb, 2, none⟩ (.slice A2 N c2)) := by
  have hX : Chg (fun k => kv.ownBlock = some k) w w2 := ((Chg.refl _ w).alloc o).next (.of_grown hg.1)
  have hOg : ∀ k, kv.ownBlock = some k → B ≤ k := fun k hk => (own_ge h.marks k hk).1
  have hY : Chg (fun k => k = rb ∨ kv.ownBlock = some k) w (w2.setCell ⟨rb, 2, none⟩ (.slice A2 N c2)) := (hX.mono (fun i hi => .inr hi)).set (p := ⟨rb, 2, none⟩) (.inr (.inl rfl)) _
  have hrb := h.rbB
  obtain ⟨lv, k1, k2, k3⟩ := h.stand.ex
  have e1 : ¬ kv.ownBlock = some rb := fun e => by have := hOg _ e; omega
  refine ⟨⟨⟨⟨lv, by simpa using (hX.blk k1 e1).set_ 2 _, k2.chg hY ?_, k3⟩, h.stand.ended, h.stand.ne⟩, ?d, ?k, ?s, ?_, h.rbB, h.tbB, Nat.le_trans h.bB hY.size, ?_, ?_, ?_⟩, hY.mono ?_⟩
  · intro g hgg
    rw [k3] at hgg
    rintro (rfl | hh)
    · exact h.stand.ne hgg
    · have := h.tbB g hgg; have := hOg g hh; omega
  case k =>
    rw [show (x.marks ++ [m]).length = N by rw [hN]; simp, List.map_append]
    exact own_far (by simpa [Mark] using ho) (fun e => own_ne ho hrb _ e rfl) _
  case d =>
    refine hY.own h.decl ?_
    rintro g hgg (rfl | hh)
    · exact own_ne h.decl hrb _ hgg rfl
    · exact own_apart h.marks h.decl (by decide) g hh hgg
  case s =>
    refine hY.own h.starts ?_
    rintro g hgg (rfl | hh)
    · exact own_ne h.starts hrb _ hgg rfl
    · exact own_apart h.marks h.starts (by decide) g hh hgg
  · exact h.apart
  · have := h.ld; simp at this ⊢; omega
  · have := h.lm; simp at this ⊢; omega
  · have := h.ls; simp at this ⊢; omega
  · rintro i (hi | hi)
    · exact .inl hi
    · exact .inr (hOg i hi)
/-- A row of the reader's has grown, and is laid back. -/
theorem starts_rel {w w2 : World} {o : Obj} {B rb : Nat} {f4 f5 : Value} {tb : Option Nat} {l : List Tk} {x : Txt} {dv kv sv : Value} {A2 : Option Addr} {c2 N : Nat} {t : Tk} (h : Heads w B rb f4 f5 tb l x dv kv sv) (hl : x.starts.length + 1 + l.length ≤ 100000) (hN : N = x.starts.length + 1)
    (ho : w2.ownsRow B 60 3 (.slice A2 N c2) N (x.starts.flatMap Tk.cells ++ t.cells)) (hg : (w.alloc o).grownBy w2 sv.ownBlock ∧ ((Value.slice A2 N c2).ownBlock = sv.ownBlock ∨ (Value.slice A2 N c2).ownBlock = some (w.alloc o).heap.size)) :
    Heads (w2.setCell ⟨rb, 3, none⟩ (.slice A2 N c2)) B rb f4 f5 tb l { x with starts := x.starts ++ [t] } dv kv (.slice A2 N c2) ∧ Chg (fun k => k = rb ∨ B ≤ k) w (w2.setCell ⟨rb, 3, none⟩ (.slice A2 N c2)) := by
  have hX : Chg (fun k => sv.ownBlock = some k) w w2 := ((Chg.refl _ w).alloc o).next (.of_grown hg.1)
  have hOg : ∀ k, sv.ownBlock = some k → B ≤ k := fun k hk => (own_ge h.starts k hk).1
  have hY : Chg (fun k => k = rb ∨ sv.ownBlock = some k) w (w2.setCell ⟨rb, 3, none⟩ (.slice A2 N c2)) := (hX.mono (fun i hi => .inr hi)).set (p := ⟨rb, 3, none⟩) (.inr (.inl rfl)) _
  have hrb := h.rbB
  obtain ⟨lv, k1, k2, k3⟩ := h.stand.ex
  have e1 : ¬ sv.ownBlock = some rb := fun e => by have := hOg _ e; omega
  refine ⟨⟨⟨⟨lv, by simpa using (hX.blk k1 e1).set_ 3 _, k2.chg hY ?_, k3⟩, h.stand.ended, h.stand.ne⟩, ?d, ?k, ?s, ?_, h.rbB, h.tbB, Nat.le_trans h.bB hY.size, ?_, ?_, ?_⟩, hY.mono ?_⟩
  · intro g hgg
    rw [k3] at hgg
    rintro (rfl | hh)
    · exact h.stand.ne hgg
    · have := h.tbB g hgg; have := hOg g hh; omega
  case s =>
    rw [show (x.starts ++ [t]).length = N by rw [hN]; simp, List.flatMap_append]
    exact own_far (by simpa [Tk.cells] using ho) (fun e => own_ne ho hrb _ e rfl) _
  case d =>
    refine hY.own h.decl ?_
    rintro g hgg (rfl | hh)
    · exact own_ne h.decl hrb _ hgg rfl
    · exact h.apart g hgg hh
  case k =>
    refine hY.own h.marks ?_
    rintro g hgg (rfl | hh)
    · exact own_ne h.marks hrb _ hgg rfl
    · exact own_apart h.starts h.marks (by decide) g hh hgg
  · intro g hgg hsg
    rcases hg.2 with e | e
    · rw [e] at hsg; exact h.apart g hgg hsg
    · rw [e] at hsg; cases hsg; have := (own_ge h.decl _ hgg).2; simp at this; omega
  · have := h.ld; simp at this ⊢; omega
  · have := h.lm; simp at this ⊢; omega
  · have := h.ls; simp at this ⊢; omega
  · rintro i (hi | hi)
    · exact .inl hi
    · exact .inr (hOg i hi)
end Go.Proofs.YtnpjhndgdlihjaaDoor

namespace Go.Proofs.YtnpjhndgdlihjaaDoor
open Go.RowKit
set_option linter.unusedVariables false
/-- A token that has been taken. -/
def TakeEnd (w : World) (rb : Nat) (f1 f2 f3 f4 f5 : Value) (tb : Option Nat) (t : Tk) (r : List Tk) (e : Ending) (w' : World) : Prop :=
  e = .returned (.agg #[.int .i64 t.k, .string (str t.s), .int .i64 t.p]) ∧ Chg (· = rb) w w' ∧ Stand w' rb f1 f2 f3 f4 f5 tb r
namespace Stand
variable {w : World} {rb : Nat} {f1 f2 f3 f4 f5 : Value} {tb : Option Nat} {t : Tk} {r l : List Tk}
theorem is (h : Stand w rb f1 f2 f3 f4 f5 tb (t :: r)) (k : Nat) (K : Int) (hK : K = (k : Int)) : Calls Tryd.prog 50 #[.pointer (some ⟨rb, 0, none⟩), .int .i64 K] w fun e w' => e = .returned (.bool (t.k == k)) ∧ w = w' := by
  subst hK
  obtain ⟨lv, hB, hl, _⟩ := h.ex
  exact (is_any (hB.cell 0) hl k).mono fun e w' ⟨h1, h2⟩ => ⟨h1, h2.symm⟩
theorem sym (h : Stand w rb f1 f2 f3 f4 f5 tb (t :: r)) : Calls Tryd.prog 75 #[.pointer (some ⟨rb, 0, none⟩)] w fun e w' => e = .returned (.bool (symT t)) ∧ w = w' := by
  obtain ⟨lv, hB, hl, _⟩ := h.ex
  exact (sym_any (hB.cell 0) hl).mono fun e w' ⟨h1, h2⟩ => ⟨h1, h2.symm⟩
theorem bad (h : Stand w rb f1 f2 f3 f4 f5 tb (t :: r)) : Calls Tryd.prog 76 #[.pointer (some ⟨rb, 0, none⟩)] w fun e w' => e = .panicked [{ v := .iface 78 (.agg #[.int .i64 (badT (t :: r)).1, .int .i64 (badT (t :: r)).2]), recovered := false }] ∧ w = w' := by
  obtain ⟨lv, hB, hl, _⟩ := h.ex
  exact (bad_any (hB.cell 0) hl).mono fun e w' ⟨h1, h2⟩ => ⟨h1, h2.symm⟩
theorem take (h : Stand w rb f1 f2 f3 f4 f5 tb (t :: r)) (hk : t.k ≠ 0) : Calls Tryd.prog 52 #[.pointer (some ⟨rb, 0, none⟩)] w (TakeEnd w rb f1 f2 f3 f4 f5 tb t r) := by
  obtain ⟨lv, hB, hl, ho⟩ := h.ex
  obtain ⟨h1, h2⟩ := h.ended.tail hk
  have hne : lv.ownBlock ≠ some rb := by rw [ho]; exact h.ne
  refine (take_any hB hl h2 hne).mono fun e w' hx => ?_
  have := hx.stand h1 hne
  rw [ho] at this
  exact this
theorem want (h : Stand w rb f1 f2 f3 f4 f5 tb (t :: r)) (k : Nat) (K : Int) (hK : K = (k : Int)) (hk : t.k = k) (h0 : k ≠ 0) : Calls Tryd.prog 77 #[.pointer (some ⟨rb, 0, none⟩), .int .i64 K] w (TakeEnd w rb f1 f2 f3 f4 f5 tb t r) := by
  subst hK
  obtain ⟨lv, hB, hl, ho⟩ := h.ex
  obtain ⟨h1, h2⟩ := h.ended.tail (hk ▸ h0)
  have hne : lv.ownBlock ≠ some rb := by rw [ho]; exact h.ne
  refine (want_yes hB hl h2 hne k (by simp [hk])).mono fun e w' hx => ?_
  have := hx.stand h1 hne
  rw [ho] at this
  exact this
theorem wantNo (h : Stand w rb f1 f2 f3 f4 f5 tb (t :: r)) (k : Nat) (K : Int) (hK : K = (k : Int)) (hk : t.k ≠ k) : Calls Tryd.prog 77 #[.pointer (some ⟨rb, 0, none⟩), .int .i64 K] w fun e w' => e = .panicked [{ v := .iface 78 (.agg #[.int .i64 (badT (t :: r)).1, .int .i64 (badT (t :: r)).2]), recovered := false }] ∧ Below w.heap.size w w' := by
  subst hK
  obtain ⟨lv, hB, hl, _⟩ := h.ex
  exact want_no (hB.cell 0) hl k (by simp [hk])
theorem drew (h : Stand w rb f1 f2 f3 f4 f5 tb l) : Stand w.drew rb f1 f2 f3 f4 f5 tb l := h.chg ((Chg.refl (fun _ => False) w).drew) id (fun _ _ => id)
theorem cells (h : Stand w rb f1 f2 f3 f4 f5 tb l) : w.cell? ⟨rb, 1, none⟩ = some f1 ∧ w.cell? ⟨rb, 2, none⟩ = some f2 ∧ w.cell? ⟨rb, 3, none⟩ = some f3 ∧ w.cell? ⟨rb, 4, none⟩ = some f4 ∧ w.cell? ⟨rb, 5, none⟩ = some f5 ∧ rb < w.heap.size := by
  obtain ⟨lv, hB, hl, _⟩ := h.ex
  exact ⟨hB.cell 1, hB.cell 2, hB.cell 3, hB.cell 4, hB.cell 5, hB.lt⟩
theorem frozen (h : Stand w rb f1 f2 f3 f4 f5 tb l) (k : Nat) : w.frozen? ⟨rb, k, none⟩ = false := by
  obtain ⟨lv, hB, hl, _⟩ := h.ex
  exact hB.frozen k
end Stand
theorem Heads.drew {w : World} {B rb : Nat} {f4 f5 : Value} {tb : Option Nat} {l : List Tk} {x : Txt} {dv kv sv : Value} (h : Heads w B rb f4 f5 tb l x dv kv sv) : Heads w.drew B rb f4 f5 tb l x dv kv sv :=
  h.chg ((Chg.refl (fun _ => False) w).drew) (fun _ h => h.elim) h.stand.drew (Nat.le_refl _)
theorem Heads.ex {w : World} {B rb : Nat} {f4 f5 : Value} {tb : Option Nat} {l : List Tk} {x : Txt} {dv kv sv : Value} (h : Heads w B rb f4 f5 tb l x dv kv sv) : ∃ A1 c1 A2 c2 A3 c3, dv = .slice A1 x.decl.length c1 ∧ kv = .slice A2 x.marks.length c2 ∧ sv = .slice A3 x.starts.length c3 := by
  obtain ⟨A1, c1, h1⟩ := own_shape h.decl
  obtain ⟨A2, c2, h2⟩ := own_shape h.marks
  obtain ⟨A3, c3, h3⟩ := own_shape h.starts
  exact ⟨A1, c1, A2, c2, A3, c3, h1, h2, h3⟩
theorem Heads.grown {w w2 : World} {o : Obj} {B rb : Nat} {f4 f5 v : Value} {tb : Option Nat} {l : List Tk} {x : Txt} {dv kv sv : Value} (h : Heads w B rb f4 f5 tb l x dv kv sv) (hv : ∀ k, v.ownBlock = some k → B ≤ k ∧ k < w.heap.size) (hg : (w.alloc o).grownBy w2 v.ownBlock) : Stand w2 rb dv kv sv f4 f5 tb l := by
  refine h.stand.chg (((Chg.refl _ w).alloc o).next (.of_grown hg)) (fun e => ?_) (fun g hgg e => ?_)
  · have := (hv _ e).1; have := h.rbB; omega
  · have := (hv _ e).1; have := h.tbB _ hgg; omega
/-- A head that has been read, or not. -/
def HeadEnd (w : World) (B rb : Nat) (f4 f5 : Value) (tb : Option Nat) (x : Txt) (l : List Tk) (e : Ending) (w' : World) : Prop :=
  Chg (fun k => k = rb ∨ B ≤ k) w w' ∧ match headL x l with
  | .ok (x', l') => e = .returned (.tuple #[]) ∧ ∃ dv kv sv, Heads w' B rb f4 f5 tb l' x' dv kv sv
  | .error f => Gives f e
theorem tok_at (k p : Int) (s : ByteArray) (w : World) : (Instr.field 60 (.agg #[.int .i64 k, .string s, .int .i64 p]) 2).run Tryd.prog w = .ok (.int .i64 p) w := by kernel_rfl
theorem symT_iff (t : Tk) : symT t = true ↔ t.k = 1 ∨ t.k = 2 := by simp [symT]
set_option maxRecDepth 100000 in
set_option maxHeartbeats 3200000 in
theorem head_any {w : World} {B rb : Nat} {f4 f5 : Value} {tb : Option Nat} {l : List Tk} {x : Txt} {dv kv sv : Value} (h : Heads w B rb f4 f5 tb l x dv kv sv) : Calls Tryd.prog 51 #[.pointer (some ⟨rb, 0, none⟩)] w (HeadEnd w B rb f4 f5 tb x l) := by
  obtain ⟨t, r, rfl⟩ := h.stand.ended.cons
  obtain ⟨A1, c1, A2, c2, A3, c3, rfl, rfl, rfl⟩ := h.ex
  have H7 := Lib.hid (h.stand.is 7 7 rfl)
  have H8 := Lib.hid (h.stand.is 8 8 rfl)
  have HBAD := Lib.hid h.stand.bad
  have hrbB := h.rbB
  by_cases h7 : t.k = 7
  · have hk : (t.k == 7) = true := by simp [h7]
    rw [hk] at H7
    have HT := Lib.hid (h.stand.take (by omega))
    obtain ⟨t2, r2, rfl⟩ := (h.stand.ended.tail (by omega)).1.cons
    have HH := Lib.hid h
    cases h2 : symT t2 with
    | false =>
      have HE : Hid (headL x (t :: t2 :: r2) = .error (badT (t2 :: r2))) := Lib.hid (by simp [headL, h7, h2])
      have HS2 := Lib.hid h2
      clear h h7 h2 hk
      go_enter Tryd.func51, Tryd.ntmps51
      go_wp2_with (first
        | (go_at_call 50; with_reducible refine H7.out.mono ?_; rintro e w' ⟨rfl, hw'⟩; subst hw')
        | (go_at_call 52; refine HT.out.mono ?_; intro e w1 hx; obtain ⟨rfl, hc1, hs1⟩ := hx; have HC1 := Lib.hid hc1; have HY := Lib.hid (HS2.out ▸ hs1.sym); have HB2 := Lib.hid hs1.bad; clear hc1 hs1)
        | (go_at_call 75; refine HY.out.mono ?_; rintro e w' ⟨rfl, hw'⟩; subst hw')
        | (go_at_call 76; refine HB2.out.mono ?_; rintro e w' ⟨rfl, hw'⟩; subst hw'))
      refine ⟨rfl, HC1.out.mono (fun _ h => .inl h), ?_⟩
      rw [HE.out]
      exact Gives.of rfl rfl
    | true =>
      have HE : Hid (headL x (t :: t2 :: r2) = .ok ({ x with decl := x.decl ++ (t2 :: r2).takeWhile symT }, (t2 :: r2).dropWhile symT)) := Lib.hid (by simp [headL, h7, h2])
      have HS2 := Lib.hid h2
      have HN : Hid (t2 :: r2 ≠ []) := Lib.hid (by simp)
      have HLEN : Hid (x.decl.length + (t2 :: r2).length ≤ 100000) := Lib.hid (by have := h.ld; simp at this ⊢; omega)
      clear h7 hk
      go_enter Tryd.func51, Tryd.ntmps51
      go_wp2_with (first
        | (go_at_call 50; with_reducible refine H7.out.mono ?_; rintro e w' ⟨rfl, hw'⟩; subst hw')
        | (go_at_call 52; refine HT.out.mono ?_; intro e w1 hx; obtain ⟨rfl, hc1, hs1⟩ := hx; have HC1 := Lib.hid hc1; have HY := Lib.hid (h2 ▸ hs1.sym); have HH1 := Lib.hid (HH.out.chg hc1 (fun _ h => h) hs1 (by simp)); clear hc1 hs1 h h2)
        | (go_at_call 75; refine HY.out.mono ?_; rintro e w' ⟨rfl, hw'⟩; subst hw'))
      have hw1 : B ≤ w1.heap.size := HH1.out.bB
      go_loopg [] (t2 :: r2).length (fun n wr => ∃ dv a rest, n = rest.length ∧ Hid (Heads wr B rb f4 f5 tb rest { x with decl := x.decl ++ a } dv (.slice A2 x.marks.length c2) (.slice A3 x.starts.length c3)) ∧ Hid (Chg (fun k => k = rb ∨ B ≤ k) w wr) ∧ Hid ((t2 :: r2).takeWhile symT = a ++ rest.takeWhile symT ∧ (t2 :: r2).dropWhile symT = rest.dropWhile symT))
      case atStart =>
        have hst : Heads w1 B rb f4 f5 tb (t2 :: r2) { x with decl := x.decl ++ [] } (.slice A1 x.decl.length c1) (.slice A2 x.marks.length c2) (.slice A3 x.starts.length c3) := by
          rw [List.append_nil]
          exact HH1.out
        exact ⟨.slice A1 x.decl.length c1, [], t2 :: r2, rfl, Lib.hid hst, Lib.hid (HC1.out.mono (fun _ h => .inl h)), Lib.hid ⟨rfl, rfl⟩⟩
      case round =>
        obtain ⟨dv, a, rest, rfl, HR, HC, HTD⟩ := hrel
        obtain ⟨t3, r3, rfl⟩ := HR.out.stand.ended.cons
        obtain ⟨A, c, hdv⟩ := own_shape HR.out.decl
        generalize hnn : (x.decl ++ a).length = n at *
        have hdl := HR.out.ld
        have hnl : ({ x with decl := x.decl ++ a } : Txt).decl.length = n := hnn
        simp at hdl hnn
        subst hdv
        have HY3 := Lib.hid HR.out.stand.sym
        have hrbw := HR.out.bB
        cases h3 : symT t3 with
        | false =>
          rw [h3] at HY3
          go_wp2_with (go_at_call 75; refine HY3.out.mono ?_; rintro e w' ⟨rfl, hw'⟩; subst hw')
          refine bodyPost_ret (results_none rfl _ _ _) rfl ⟨HC.out, ?_⟩
          rw [HE.out]
          have h1 := HTD.out.1
          have h2 := HTD.out.2
          rw [List.takeWhile_cons (a := t3), if_neg (by rw [h3]; simp), List.append_nil] at h1
          rw [List.dropWhile_cons (x := t3), if_neg (by rw [h3]; simp)] at h2
          rw [h1, h2]
          exact ⟨rfl, _, _, _, HR.out⟩
        | true =>
          rw [h3] at HY3
          have HRD := Lib.hid HR.out.drew
          have HT3 := Lib.hid (HRD.out.stand.take (sym_nz h3))
          have HS3 := Lib.hid h3
          obtain ⟨b1, _, _, _, _, _⟩ := HRD.out.stand.cells
          clear h3
          go_wp2_with (go_at_call 75; refine HY3.out.mono ?_; rintro e w' ⟨rfl, hw'⟩; subst hw')
          go_region_law (first
            | (refine step_app ElTok (.tmp 20) (.tmp 23) ?_ ?_ (base := B) (n := n) (m := 1) (N := n + 1) (v := .slice A n c) (src := .slice (some ⟨w3.heap.size, 0, none⟩) 1 1) (xs := (x.decl ++ a).flatMap Tk.cells) (news := t3.cells) ?_ ?_ ?_ ?_ ?_ ?_ ?_ ?_ ?_
               · rfl
               · rfl
               · rfl
               · rfl
               · have := HH3.out.decl
                 rw [hnl] at this
                 exact this.alloc _
               · exact src_tok w3 _ _ _
               · rfl
               · unfold maxLen; omega
               · omega
               · simp; omega
               intro A4 c4 w4 q1 q2 q3
               have HF := Lib.hid (decl_rel HH3.out (by simp; omega) (by simp; omega) q1 q3)
               have hs4 := HH3.out.grown (own_ge HH3.out.decl) q3.1
               obtain ⟨cA, _, _, _, _, _⟩ := hs4.cells
               have vA := hs4.frozen 1
               clear q1 q2 q3 hs4)
            | (go_simp; go_at_call 52; refine HT3.out.mono ?_; intro e w3 hx; obtain ⟨rfl, hc3, hs3⟩ := hx
               have HC3 := Lib.hid hc3
               have HH3 := Lib.hid (HRD.out.chg hc3 (fun _ h => h) hs3 (by simp))
               obtain ⟨d1, _, _, _, _, hrb3⟩ := hs3.cells
               have v1 := hs3.frozen 1
               have hsz3 : wr.heap.size ≤ w3.heap.size := hc3.size
               clear hc3 hs3))
          all_goals go_wp2
          all_goals go_roundg r3.length
          all_goals first
            | (case measure => simp)
            | (case rel =>
                refine ⟨.slice A4 (n + 1) c4, a ++ [t3], r3, rfl, Lib.hid ?_, Lib.hid ?_, Lib.hid ?_⟩
                · have := HF.out.1
                  rw [List.append_assoc] at this
                  exact this
                · exact (HC.out.drew.next (HC3.out.mono (fun _ h => .inl h))).next HF.out.2
                · have h1 := HTD.out.1
                  have h2 := HTD.out.2
                  rw [List.takeWhile_cons (a := t3), if_pos HS3.out] at h1
                  rw [List.dropWhile_cons (x := t3), if_pos HS3.out] at h2
                  exact ⟨by rw [h1]; simp, h2⟩)
  · have hk : (t.k == 7) = false := by simp [h7]
    rw [hk] at H7
    by_cases h8 : t.k = 8
    · have hk8 : (t.k == 8) = true := by simp [h8]
      rw [hk8] at H8
      obtain ⟨t2, r2, rfl⟩ := (h.stand.ended.tail (by omega)).1.cons
      have HD := Lib.hid h.drew
      have HT := Lib.hid (HD.out.stand.take (by omega))
      obtain ⟨_, b2, _, _, _, hrbw⟩ := HD.out.stand.cells
      have hlm := h.lm
      have hls := h.ls
      simp at hlm hls
      have hBw := h.bB
      have HE1 : Hid (t2.k = 1 → headL x (t :: t2 :: r2) = .ok ({ x with marks := x.marks ++ [t.p], starts := x.starts ++ [t2] }, r2)) := Lib.hid (fun e => by simp [headL, h8, isK, e])
      have HE2 : Hid (t2.k ≠ 1 → headL x (t :: t2 :: r2) = .error (badT (t2 :: r2))) := Lib.hid (fun e => by simp [headL, h8, isK, e])
      have hfd := tok_at t.k t.p (str t.s)
      clear h h7 h8 hk hk8
      go_enter Tryd.func51, Tryd.ntmps51
      go_wp2_with (first
        | (go_at_call 50; with_reducible refine H7.out.mono ?_; rintro e w' ⟨rfl, hw'⟩; subst hw')
        | (go_at_call 50; with_reducible refine H8.out.mono ?_; rintro e w' ⟨rfl, hw'⟩; subst hw'))
      go_region_law (first
        | (refine step_app ElIntR (.tmp 34) (.tmp 38) ?_ ?_ (base := B) (n := x.marks.length) (m := 1) (N := x.marks.length + 1) (v := .slice A2 x.marks.length c2) (src := .slice (some ⟨w3.heap.size, 0, none⟩) 1 1) (xs := x.marks.map Mark) (news := [Mark t.p]) ?_ ?_ ?_ ?_ ?_ ?_ ?_ ?_ ?_
           · rfl
           · rfl
           · rfl
           · rfl
           · exact HH3.out.marks.alloc _
           · exact src_int w3 _
           · rfl
           · unfold maxLen; omega
           · omega
           · simp; omega
           intro A4 c4 w4 q1 q2 q3
           have HF := Lib.hid (marks_rel HH3.out (by simp; omega) (by simp) q1 q3)
           have hs4 := HH3.out.grown (own_ge HH3.out.marks) q3.1
           obtain ⟨_, cA, _, _, _, _⟩ := hs4.cells
           have vA := hs4.frozen 2
           clear q1 q2 q3 hs4)
        | (go_simp; go_at_call 52; refine HT.out.mono ?_; intro e w3 hx; obtain ⟨rfl, hc3, hs3⟩ := hx
           have HC3 := Lib.hid hc3
           have HH3 := Lib.hid (HD.out.chg hc3 (fun _ h => h) hs3 (by simp))
           obtain ⟨_, d2, _, _, _, hrb3⟩ := hs3.cells
           have v1 := hs3.frozen 2
           have hsz3 : w.heap.size ≤ w3.heap.size := hc3.size
           clear hc3 hs3))
      all_goals go_wp2
      all_goals generalize hw5 : World.setCell w4 ⟨rb, 2, none⟩ (.slice A4 (x.marks.length + 1) c4) = w5 at *
      all_goals clear b2 d2 v1 cA vA hw5
      all_goals have HF2 := Lib.hid HF.out.1.drew
      all_goals have HCF := Lib.hid ((((Chg.refl (fun k => k = rb ∨ B ≤ k) w).drew.next (HC3.out.mono (fun _ h => .inl h))).next HF.out.2).drew)
      all_goals have hB5 := HF.out.1.bB
      all_goals have hld := HF.out.1.ld
      all_goals simp at hld
      all_goals obtain ⟨_, _, b3, _, _, hrb5⟩ := HF2.out.stand.cells
      all_goals by_cases hk1 : t2.k = 1
      all_goals first
        | (have HW := Lib.hid (HF2.out.stand.want 1 1 rfl hk1 (by omega))
           replace HE1 := Lib.hid (HE1.out hk1)
           clear hk1 HE2
           go_region_law (first
             | (refine step_app ElTok (.tmp 46) (.tmp 49) ?_ ?_ (base := B) (n := x.starts.length) (m := 1) (N := x.starts.length + 1) (v := .slice A3 x.starts.length c3) (src := .slice (some ⟨w6.heap.size, 0, none⟩) 1 1) (xs := x.starts.flatMap Tk.cells) (news := t2.cells) ?_ ?_ ?_ ?_ ?_ ?_ ?_ ?_ ?_
                · rfl
                · rfl
                · rfl
                · rfl
                · exact HH6.out.starts.alloc _
                · exact src_tok w6 _ _ _
                · rfl
                · unfold maxLen; omega
                · omega
                · simp; omega
                intro A6 c6 w7 q1 q2 q3
                have HG := Lib.hid (starts_rel HH6.out (by simp; omega) (by simp) q1 q3)
                have hs4 := HH6.out.grown (own_ge HH6.out.starts) q3.1
                obtain ⟨_, _, cA, _, _, _⟩ := hs4.cells
                have vA := hs4.frozen 3
                clear q1 q2 q3 hs4)
             | (go_simp; go_at_call 77; refine HW.out.mono ?_; intro e w6 hx; obtain ⟨rfl, hc3, hs3⟩ := hx
                have HC6 := Lib.hid hc3
                have HH6 := Lib.hid (HF2.out.chg hc3 (fun _ h => h) hs3 (by simp))
                obtain ⟨_, _, d2, _, _, hrb3⟩ := hs3.cells
                have v1 := hs3.frozen 3
                have hsz6 : w5.heap.size ≤ w6.heap.size := hc3.size
                clear hc3 hs3))
           all_goals go_wp2
           all_goals refine bodyPost_ret (results_none rfl _ _ _) rfl ⟨(HCF.out.next (HC6.out.mono (fun _ h => .inl h))).next HG.out.2, ?_⟩
           all_goals rw [HE1.out]
           all_goals exact ⟨rfl, _, _, _, HG.out.1⟩)
        | (have HW := Lib.hid (HF2.out.stand.wantNo 1 1 rfl hk1)
           replace HE2 := Lib.hid (HE2.out hk1)
           clear hk1 HE1
           go_region_dies
           all_goals (refine HW.out.mono ?_; rintro e w6 ⟨rfl, hb6⟩; exact ⟨rfl, HCF.out.next (.of_below hb6), by rw [HE2.out]; exact Gives.of rfl rfl⟩))
    · have hk8 : (t.k == 8) = false := by simp [h8]
      rw [hk8] at H8
      have HE : Hid (headL x (t :: r) = .error (badT (t :: r))) := Lib.hid (by simp [headL, h7, h8])
      clear h h7 h8 hk hk8
      go_enter Tryd.func51, Tryd.ntmps51
      go_wp2_with (first
        | (go_at_call 50; with_reducible refine H7.out.mono ?_; rintro e w' ⟨rfl, hw'⟩; subst hw')
        | (go_at_call 50; with_reducible refine H8.out.mono ?_; rintro e w' ⟨rfl, hw'⟩; subst hw')
        | (go_at_call 76; refine HBAD.out.mono ?_; rintro e w' ⟨rfl, hw'⟩; subst hw'))
      refine ⟨rfl, Chg.refl _ _, ?_⟩
      rw [HE.out]
      exact Gives.of rfl rfl
end Go.Proofs.YtnpjhndgdlihjaaDoor
