/- The document's tokens, with the row they lie in. Tokens as they lie, read only; a text's rows, that grow. The document's heads, where they are right. -/
import Derived.Test.YtnpjhndgdlihjaaDoorZm
import Derived.Test.YtnpjhndgdlihjaaDoorZe
import Derived.Deep.LoopGhost
import Derived.BigRegion
namespace Go.Proofs.YtnpjhndgdlihjaaDoor
open Go.RowKit
set_option linter.unusedVariables false
theorem blk_facts {w : World} {b : Nat} {t : TypeId} {x0 x1 : Value} (h : Blk w b t #[x0, x1]) : w.cell? ⟨b, 0, none⟩ = some x0 ∧ w.cell? ⟨b, 1, none⟩ = some x1 ∧ w.frozen? ⟨b, 0, none⟩ = false ∧ w.frozen? ⟨b, 1, none⟩ = false := by
  have c0 := h.cell 0
  have c1 := h.cell 1
  simp at c0 c1
  exact ⟨c0, c1, h.frozen 0, h.frozen 1⟩
theorem src_tok2 (y : World) (o : Obj) (a c : Int) (b : ByteArray) : SrcOK ((y.alloc o).alloc (.cells #[.int .i64 a, .string b, .int .i64 c] 60)) (.slice (some ⟨y.heap.size + 1, 0, none⟩) 1 1) 1 3 [.int .i64 a, .string b, .int .i64 c] := by
  have h : (y.alloc o).heap.size = y.heap.size + 1 := by simp
  rw [← h]
  exact src_tok _ _ _ _
/-- Tokens, and the row they lie in; all but the place of what goes wrong is told. -/
def RRow (w : World) (r : Except Flt (List Tk)) (e : Ending) (w' : World) : Prop :=
  Below w.heap.size w w' ∧ match r with
  | .ok l => ∃ v, w'.ownsRow (w.heap.size + 1) 60 3 v l.length (l.flatMap Tk.cells) ∧ e = .returned (.tuple #[v, .agg #[.int .i64 0, .int .i64 0]])
  | .error f => True
set_option maxRecDepth 100000 in
set_option maxHeartbeats 3200000 in
theorem rrow_any (s : ByteArray) (hs : s.size ≤ 4611686018427387904) (w : World) : Calls Tryd.prog 23 #[.string s] w (RRow w (tokens s.data.toList)) := by
  unfold tokens
  rw [len_size]
  by_cases hlong : 8192 < s.size
  · rw [if_pos hlong]
    have q1 : (8192 : Int) < (s.size : Int) := by omega
    clear hlong
    go_enter Tryd.func23, Tryd.ntmps23
    go_wp2
    refine bodyPost_ret (v := .tuple #[.slice none 0 0, .agg #[.int .i64 5, .int .i64 0]]) (by simp [results, Tryd.results23, go_sem]) rfl ⟨below_alloc _ _, trivial⟩
  rw [if_neg hlong]
  have q1 : ¬ (8192 : Int) < (s.size : Int) := by omega
  have hs2 : s.size ≤ 8192 := by omega
  clear hlong
  go_enter Tryd.func23, Tryd.ntmps23
  go_wp2
  go_loopw [4, 5] (fun v i wr => ∃ (p : Nat) (acc : List Tk), p ≤ s.size ∧ i = .int .i64 p ∧ acc.length ≤ p ∧ (∃ A c, v = .slice A acc.length c) ∧ Hid (wr.ownsRow (w.heap.size + 1) 60 3 v acc.length (acc.flatMap Tk.cells)) ∧ Hid (Below w.heap.size w wr) ∧ Hid (Blk wr w.heap.size 34 #[.int .i64 0, .int .i64 0]) ∧ Hid (TokAt s p acc)) (fun _ i _ => s.size - (intOf i).toNat)
  case atStart => exact ⟨0, [], Nat.zero_le _, rfl, Nat.le_refl _, ⟨none, 0, rfl⟩, Lib.hid (World.ownsRow_nil _ _ _ _), Lib.hid (below_alloc _ _), Lib.hid (Blk.new _ _ _), Lib.hid (TokAt.start s)⟩
  case round =>
    obtain ⟨p, acc, hp, rfl, hacc, ⟨A, c, rfl⟩, HO, HB, HK, HT⟩ := hrel
    by_cases hlt : p < s.size
    · have hq2 : (p : Int) < (s.size : Int) := by omega
      have HONE := Lib.hid (rone_at s hs2 p hlt wr)
      have hstep := HT.out.stepD hlt
      have hwl := HK.out.lt
      cases ho : oneD s.size p (s.data.toList.drop p) with
      | error f =>
        obtain ⟨fe, fp⟩ := f
        rw [ho] at HONE hstep
        have HS := Lib.hid hstep.2
        have qe : ((fe : Int) != 0) = true := bne_iff_ne.2 (by have := hstep.1; simp at this; omega)
        have HE := Lib.hid hstep.1
        clear hstep ho
        go_wp2_with (go_at_call 39; refine HONE.out.mono ?_; rintro e w1 ⟨hb, k, rfl⟩; have HB1 := Lib.hid hb; have HK1 := Lib.hid (HK.out.below hb hwl); have hw1 := hb.size; have hwl1 := HK1.out.lt; obtain ⟨c0, c1, f0, f1⟩ := blk_facts HK1.out; clear hb)
        go_region
        go_wp2
        rw [HS.out]
        refine bodyPost_ret (v := .tuple #[.slice none 0 0, .agg #[.int .i64 fe, .int .i64 fp]]) (by have hz := res_cells (x := .int .i64 fe) (y := .int .i64 fp) hwl1 c0 c1 (.cells #[.int .i64 fe, .int .i64 fp] 34); simp [results, Tryd.results23, go_sem, hz.1, hz.2]) rfl ⟨?_, trivial⟩
        first | exact res_below (HB.out.trans (HB1.out.mono HB.out.size)) _ | trace_state
      | ok q =>
        obtain ⟨k, n⟩ := q
        rw [ho] at HONE hstep
        obtain ⟨hn0, hn1, hn2⟩ := hstep
        have HN := Lib.hid hn2
        have b1 : (p : Int) + (n : Int) ≤ (s.size : Int) := by omega
        have hstr : str ((s.data.toList.drop p).take n) = s.extract p (p + n) := by rw [← extract_take, str_data]
        have HSTR := Lib.hid hstr
        clear ho hn2 hstr
        by_cases hk : k = 0
        · subst hk
          have HN2 : Hid (TokAt s (p + n) acc) := Lib.hid HN.out
          go_wp2_with (go_at_call 39; refine HONE.out.mono ?_; rintro e w1 ⟨hb, rfl⟩; have HB1 := Lib.hid hb; have HK1 := Lib.hid (HK.out.below hb hwl); have hw1 := hb.size; have hwl1 := HK1.out.lt; clear hb)
          go_roundw
          case rel => exact ⟨p + n, acc, by omega, by go_num, by omega, ⟨_, _, rfl⟩, Lib.hid (((Keeps.of_below (B := 0) (T := []) HB1.out).own HO.out (.inr (by simp))).alloc _), Lib.hid ((HB.out.trans (HB1.out.mono HB.out.size)).alloc (by have := HB.out.size; omega) _), Lib.hid (HK1.out.alloc _), HN2⟩
          case measure => simp [intOf]; omega
        · have HN2 : Hid (TokAt s (p + n) (acc ++ [⟨k, (s.data.toList.drop p).take n, p⟩])) := Lib.hid (by have := HN.out; rw [if_neg hk] at this; exact this)
          have q0 : ((k : Int) != 0) = true := bne_iff_ne.2 (by omega)
          clear hk
          go_wp2_with (first
            | (go_at_call 39; refine HONE.out.mono ?_; rintro e w1 ⟨hb, rfl⟩; have HB1 := Lib.hid hb; have HK1 := Lib.hid (HK.out.below hb hwl); have HO1 := Lib.hid (((Keeps.of_below (B := 0) (T := []) hb).own HO.out (.inr (by simp))).alloc (.cells #[.int .i64 0, .int .i64 0] 34)); have hsz1 := HB.out.size; have hsz2 := hb.size; have hwl1 := HK1.out.lt; clear hb)
            | (at_builtin; (refine wpList_app ElTok (.tmp 30) (.tmp 40) rfl rfl (base := w.heap.size + 1) (n := acc.length) (m := 1) (N := acc.length + 1) (xs := acc.flatMap Tk.cells) (news := [.int .i64 k, .string (s.extract p (p + n)), .int .i64 p]) rfl rfl (HO1.out.alloc _) (src_tok2 w1 _ _ _ _) rfl (by unfold maxLen; omega) (by omega) (by simp; omega) ?_; intro A2 c2 w2 r1 r2 r3; have HR1 := Lib.hid r1; have HK2 := Lib.hid (below_app r2 (by simp; omega)); clear r1 r2 r3)))
          go_roundw
          case rel =>
            refine ⟨p + n, acc ++ [⟨k, (s.data.toList.drop p).take n, p⟩], by omega, by go_num, by simp; omega, ⟨A2, c2, by simp⟩, Lib.hid ?_, Lib.hid (((HB.out.trans (HB1.out.mono HB.out.size)).alloc (by omega) _).trans (HK2.out.mono (by omega))), Lib.hid ((HK1.out.alloc _).below HK2.out (by omega)), HN2⟩
            have := HR1.out
            rw [← HSTR.out] at this
            simpa [Tk.cells] using this
          case measure => simp [intOf]; omega
    · obtain rfl : p = s.size := by omega
      have HL := Lib.hid (HT.out.last rfl)
      have hsz1 := HB.out.size
      have hwl := HK.out.lt
      go_wp2_with (at_builtin; refine wpList_app ElTok (.tmp 45) (.tmp 49) rfl rfl (base := w.heap.size + 1) (n := acc.length) (m := 1) (N := acc.length + 1) (xs := acc.flatMap Tk.cells) (news := [.int .i64 0, .string ⟨#[]⟩, .int .i64 s.size]) rfl rfl (HO.out.alloc _) (src_tok wr _ _ _) rfl (by unfold maxLen; omega) (by omega) (by simp; omega) ?_; intro A2 c2 w2 r1 r2 r3; have HK2 := Lib.hid (below_app r2 (by omega)); have HK3 := Lib.hid (HK.out.below HK2.out (by omega)); have HR1 := Lib.hid r1; obtain ⟨c0, c1, f0, f1⟩ := blk_facts HK3.out; clear r1 r2 r3)
      rw [HL.out]
      refine bodyPost_ret (v := .tuple #[.slice A2 (acc.length + 1) c2, .agg #[.int .i64 0, .int .i64 0]]) (by simp [results, Tryd.results23, go_sem, c0, c1]) rfl ⟨?_, _, ?_, rfl⟩
      · exact ((HB.out.trans (HK2.out.mono (by omega))).setCell (by simp) _).setCell (by simp) _
      · have h := HR1.out
        have hX : Chg (· = w.heap.size) w2 ((w2.setCell ⟨w.heap.size, 0, none⟩ (.int .i64 0)).setCell ⟨w.heap.size, 1, none⟩ (.int .i64 0)) := ((Chg.refl (· = w.heap.size) w2).set (p := ⟨w.heap.size, 0, none⟩) (.inr rfl) _).set (p := ⟨w.heap.size, 1, none⟩) (.inr rfl) _
        have h2 := hX.own h (fun g hg e => own_ne h (Nat.lt_succ_self _) g hg e)
        have e1 : (acc ++ [(⟨0, [], s.size⟩ : Tk)]).length = acc.length + 1 := by simp
        rw [e1, List.flatMap_append]
        exact h2
end Go.Proofs.YtnpjhndgdlihjaaDoor

namespace Go.Proofs.YtnpjhndgdlihjaaDoor
open Go.RowKit
set_option linter.unusedVariables false
theorem Chg.cell {X : Nat → Prop} {a b : World} (h : Chg X a b) {g i : Nat} (hlt : g < a.heap.size) (hx : ¬ X g) : b.cell? ⟨g, i, none⟩ = a.cell? ⟨g, i, none⟩ := by
  unfold World.cell?
  rw [h.block g hlt hx]
/-- Tokens in a row, as they lie. -/
structure Toks (w : World) (v : Value) (l : List Tk) : Prop where
  lies : ∃ A c, v = .slice A l.length c ∧ ∀ k t, l[k]? = some t → ∃ b off, A = some ⟨b, off, none⟩ ∧ b < w.heap.size ∧ w.cell? ⟨b, off + k * 3, none⟩ = some (.int .i64 t.k) ∧ w.cell? ⟨b, off + k * 3 + 1, none⟩ = some (.string (str t.s)) ∧ w.cell? ⟨b, off + k * 3 + 2, none⟩ = some (.int .i64 t.p)
  short : l.length ≤ 100000
theorem Toks.chg {X : Nat → Prop} {w w' : World} {v : Value} {l : List Tk} (h : Toks w v l) (hc : Chg X w w') (hx : ∀ g, v.ownBlock = some g → ¬ X g) : Toks w' v l := by
  obtain ⟨⟨A, c, rfl, h1⟩, h2⟩ := h
  refine ⟨⟨A, c, rfl, fun k t ht => ?_⟩, h2⟩
  obtain ⟨b, off, rfl, hlt, k1, k2, k3⟩ := h1 k t ht
  have hn := hx b rfl
  exact ⟨b, off, rfl, Nat.lt_of_lt_of_le hlt hc.size, (hc.cell hlt hn).trans k1, (hc.cell hlt hn).trans k2, (hc.cell hlt hn).trans k3⟩
theorem Toks.later {w w' : World} {v : Value} {l : List Tk} (h : Toks w v l) (hb : Below w.heap.size w w') : Toks w' v l := h.chg (X := fun _ => False) (.of_below hb) (fun _ _ => id)
theorem toks_own {w : World} {B : Nat} {v : Value} {l : List Tk} (h : w.ownsRow B 60 3 v l.length (l.flatMap Tk.cells)) (hl : l.length ≤ 100000) : Toks w v l := by
  rcases own_form h with ⟨rfl, h0⟩ | ⟨b, c, rfl, h1, h2, h3, h4, _⟩
  · exact ⟨⟨none, 0, by rw [h0], fun k x hx => by have := (List.getElem?_eq_some_iff.1 hx).1; omega⟩, hl⟩
  · refine ⟨⟨_, c, rfl, fun k t ht => ⟨b, 0, rfl, h2, ?_⟩⟩, hl⟩
    obtain ⟨hk, hte⟩ := List.getElem?_eq_some_iff.1 ht
    have hg : ∀ j, j < 3 → (l.flatMap Tk.cells)[k * 3 + j]? = (Tk.cells t)[j]? := fun j hj => by rw [fm_get Tk.cells 3 Tk.cells_len l k j hk hj, hte]
    have e0 := own_cell h (k * 3) (by omega)
    have e1 := own_cell h (k * 3 + 1) (by omega)
    have e2 := own_cell h (k * 3 + 2) (by omega)
    have g0 := hg 0 (by omega)
    rw [Nat.add_zero] at g0
    rw [g0] at e0
    rw [hg 1 (by omega)] at e1
    rw [hg 2 (by omega)] at e2
    rw [Nat.zero_add]
    exact ⟨e0, e1, e2⟩
/-- A token's block. -/
def Tk.obj (t : Tk) : Obj := .cells #[.int .i64 t.k, .string (str t.s), .int .i64 t.p] 60
theorem symb_any (t : Tk) (w : World) : Calls Tryd.prog 64 #[.agg #[.int .i64 t.k, .string (str t.s), .int .i64 t.p]] w fun e w' => e = .returned (.bool (symT t)) ∧ w' = w.alloc t.obj := by
  unfold symT Tk.obj
  cases h1 : (t.k == 1) with
  | true =>
    have q1 : ((t.k : Int) == 1) = true := by rw [beq_iff_eq] at h1 ⊢; omega
    clear h1
    go_enter Tryd.func64, Tryd.ntmps64
    go_wp2
    go_ret
    exact ⟨rfl, rfl⟩
  | false =>
    have q1 : ((t.k : Int) == 1) = false := by rw [beq_eq_false_iff_ne] at h1 ⊢; omega
    have q2 : ((t.k : Int) == 2) = (t.k == 2) := by rw [Bool.eq_iff_iff, beq_iff_eq, beq_iff_eq]; omega
    generalize (t.k == 2) = b2 at *
    clear h1
    go_enter Tryd.func64, Tryd.ntmps64
    go_wp2
    go_ret
    exact ⟨by simp, rfl⟩
/-! A row grows. -/
section
variable {w w2 : World} {o : Obj} {B : Nat} {v v2 u : Value} {e : TypeId} {s n : Nat} {xs : List Value}
/-- How a row grows: in its place, or in a new block. -/
def Grew (w : World) (o : Obj) (w2 : World) (v v2 : Value) : Prop := (w.alloc o).grownBy w2 v.ownBlock ∧ (v2.ownBlock = v.ownBlock ∨ v2.ownBlock = some (w.alloc o).heap.size)
theorem Grew.chg (hg : Grew w o w2 v v2) : Chg (fun k => v.ownBlock = some k) w w2 := ((Chg.refl _ w).alloc o).next (.of_grown hg.1)
theorem Grew.other (hg : Grew w o w2 v v2) (hu : w.ownsRow B e s u n xs) (hap : ∀ g, v.ownBlock = some g → ¬ u.ownBlock = some g) : w2.ownsRow B e s u n xs ∧ ∀ g, v2.ownBlock = some g → ¬ u.ownBlock = some g := by
  refine ⟨hg.chg.own hu (fun g hu' hv => hap g hv hu'), fun g h2 hu' => ?_⟩
  rcases hg.2 with e | e
  · rw [e] at h2; exact hap g h2 hu'
  · rw [e] at h2; cases h2; have := (own_ge hu _ hu').2; simp at this; omega
end
theorem own_far2 {w : World} {B xb i : Nat} {e : TypeId} {s n : Nat} {v x : Value} {xs : List Value} (h : w.ownsRow B e s v n xs) (hx : xb < B) : (w.setCell ⟨xb, i, none⟩ x).ownsRow B e s v n xs := own_far h (fun he => own_ne h hx _ he rfl) _
/-- A text that is being read, as it lies: its rows are new from B on, each in a block of its own. -/
structure DTx (w : World) (B xb : Nat) (x : Txt) (dv kv sv rv : Value) : Prop where
  blk : Blk w xb 52 #[dv, kv, sv, rv]
  decl : w.ownsRow B 60 3 dv x.decl.length (x.decl.flatMap Tk.cells)
  marks : ∃ ml : List Tk, ml.length = x.marks.length ∧ w.ownsRow B 60 3 kv ml.length (ml.flatMap Tk.cells)
  starts : w.ownsRow B 60 3 sv x.starts.length (x.starts.flatMap Tk.cells)
  ap1 : ∀ g, dv.ownBlock = some g → ¬ kv.ownBlock = some g
  ap2 : ∀ g, dv.ownBlock = some g → ¬ sv.ownBlock = some g
  ap3 : ∀ g, kv.ownBlock = some g → ¬ sv.ownBlock = some g
  xbB : xb < B
  bB : B ≤ w.heap.size
theorem DTx.chg {X : Nat → Prop} {w w' : World} {B xb : Nat} {x : Txt} {dv kv sv rv : Value} (h : DTx w B xb x dv kv sv rv) (hc : Chg X w w') (hx : ¬ X xb) (hB : ∀ k, B ≤ k → ¬ X k) : DTx w' B xb x dv kv sv rv where
  blk := hc.blk h.blk hx
  decl := hc.own h.decl (fun g hg => hB g (own_ge h.decl g hg).1)
  marks := by obtain ⟨ml, h1, h2⟩ := h.marks; exact ⟨ml, h1, hc.own h2 (fun g hg => hB g (own_ge h2 g hg).1)⟩
  starts := hc.own h.starts (fun g hg => hB g (own_ge h.starts g hg).1)
  ap1 := h.ap1
  ap2 := h.ap2
  ap3 := h.ap3
  xbB := h.xbB
  bB := Nat.le_trans h.bB hc.size
theorem DTx.alloc {w : World} {B xb : Nat} {x : Txt} {dv kv sv rv : Value} (h : DTx w B xb x dv kv sv rv) (o : Obj) : DTx (w.alloc o) B xb x dv kv sv rv := h.chg ((Chg.refl (fun _ => False) w).alloc o) id (fun _ _ => id)
theorem DTx.drew {w : World} {B xb : Nat} {x : Txt} {dv kv sv rv : Value} (h : DTx w B xb x dv kv sv rv) : DTx w.drew B xb x dv kv sv rv := h.chg ((Chg.refl (fun _ => False) w).drew) id (fun _ _ => id)
theorem own_blk {w : World} {B xb : Nat} {e t : TypeId} {s n : Nat} {v : Value} {xs : List Value} {cs : Array Value} (h : w.ownsRow B e s v n xs) (hx : xb < B) : ¬ v.ownBlock = some xb := fun he => own_ne h hx _ he rfl
theorem DTx.decl_grow {w w2 : World} {o : Obj} {B xb : Nat} {x : Txt} {dv kv sv rv v2 : Value} {t : Tk} (h : DTx w B xb x dv kv sv rv) (ho : w2.ownsRow B 60 3 v2 (x.decl.length + 1) (x.decl.flatMap Tk.cells ++ t.cells)) (hg : Grew w o w2 dv v2) :
    DTx (w2.setCell ⟨xb, 0, none⟩ v2) B xb { x with decl := x.decl ++ [t] } v2 kv sv rv ∧ Chg (fun k => k = xb ∨ B ≤ k) w (w2.setCell ⟨xb, 0, none⟩ v2) := by
  have e1 : ¬ dv.ownBlock = some xb := own_blk (t := 60) (cs := #[]) h.decl h.xbB
  have hC : Chg (fun k => k = xb ∨ B ≤ k) w (w2.setCell ⟨xb, 0, none⟩ v2) := (hg.chg.mono (fun k hk => .inr (own_ge h.decl k hk).1)).set (p := ⟨xb, 0, none⟩) (.inr (.inl rfl)) _
  obtain ⟨ml, m1, m2⟩ := h.marks
  obtain ⟨o2, a2⟩ := hg.other m2 h.ap1
  obtain ⟨o3, a3⟩ := hg.other h.starts h.ap2
  refine ⟨⟨by simpa using (hg.chg.blk h.blk e1).set_ 0 v2, ?_, ⟨ml, m1, own_far2 o2 h.xbB⟩, own_far2 o3 h.xbB, a2, a3, h.ap3, h.xbB, Nat.le_trans h.bB hC.size⟩, hC⟩
  have e2 : (x.decl ++ [t]).length = x.decl.length + 1 := by simp
  rw [e2, List.flatMap_append]
  exact own_far2 (by simpa [List.flatMap] using ho) h.xbB
theorem DTx.marks_grow {w w2 : World} {o : Obj} {B xb : Nat} {x : Txt} {dv kv sv rv v2 : Value} {t : Tk} {ml : List Tk} (h : DTx w B xb x dv kv sv rv) (hml : ml.length = x.marks.length) (hm : w.ownsRow B 60 3 kv ml.length (ml.flatMap Tk.cells)) (ho : w2.ownsRow B 60 3 v2 (ml.length + 1) (ml.flatMap Tk.cells ++ t.cells)) (hg : Grew w o w2 kv v2) :
    DTx (w2.setCell ⟨xb, 1, none⟩ v2) B xb { x with marks := x.marks ++ [t.p] } dv v2 sv rv ∧ Chg (fun k => k = xb ∨ B ≤ k) w (w2.setCell ⟨xb, 1, none⟩ v2) := by
  have e1 : ¬ kv.ownBlock = some xb := own_blk (t := 60) (cs := #[]) hm h.xbB
  have hC : Chg (fun k => k = xb ∨ B ≤ k) w (w2.setCell ⟨xb, 1, none⟩ v2) := (hg.chg.mono (fun k hk => .inr (own_ge hm k hk).1)).set (p := ⟨xb, 1, none⟩) (.inr (.inl rfl)) _
  obtain ⟨o2, a2⟩ := hg.other h.decl (fun g a b => h.ap1 g b a)
  obtain ⟨o3, a3⟩ := hg.other h.starts h.ap3
  refine ⟨⟨by simpa using (hg.chg.blk h.blk e1).set_ 1 v2, own_far2 o2 h.xbB, ⟨ml ++ [t], by simp [hml], ?_⟩, own_far2 o3 h.xbB, fun g a b => a2 g b a, h.ap2, a3, h.xbB, Nat.le_trans h.bB hC.size⟩, hC⟩
  have e2 : (ml ++ [t]).length = ml.length + 1 := by simp
  rw [e2, List.flatMap_append]
  exact own_far2 (by simpa [List.flatMap] using ho) h.xbB
theorem DTx.starts_grow {w w2 : World} {o : Obj} {B xb : Nat} {x : Txt} {dv kv sv rv v2 : Value} {t : Tk} (h : DTx w B xb x dv kv sv rv) (ho : w2.ownsRow B 60 3 v2 (x.starts.length + 1) (x.starts.flatMap Tk.cells ++ t.cells)) (hg : Grew w o w2 sv v2) :
    DTx (w2.setCell ⟨xb, 2, none⟩ v2) B xb { x with starts := x.starts ++ [t] } dv kv v2 rv ∧ Chg (fun k => k = xb ∨ B ≤ k) w (w2.setCell ⟨xb, 2, none⟩ v2) := by
  have e1 : ¬ sv.ownBlock = some xb := own_blk (t := 60) (cs := #[]) h.starts h.xbB
  have hC : Chg (fun k => k = xb ∨ B ≤ k) w (w2.setCell ⟨xb, 2, none⟩ v2) := (hg.chg.mono (fun k hk => .inr (own_ge h.starts k hk).1)).set (p := ⟨xb, 2, none⟩) (.inr (.inl rfl)) _
  obtain ⟨ml, m1, m2⟩ := h.marks
  obtain ⟨o2, a2⟩ := hg.other h.decl (fun g a b => h.ap2 g b a)
  obtain ⟨o3, a3⟩ := hg.other m2 (fun g a b => h.ap3 g b a)
  refine ⟨⟨by simpa using (hg.chg.blk h.blk e1).set_ 2 v2, own_far2 o2 h.xbB, ⟨ml, m1, own_far2 o3 h.xbB⟩, ?_, h.ap1, fun g a b => a2 g b a, fun g a b => a3 g b a, h.xbB, Nat.le_trans h.bB hC.size⟩, hC⟩
  have e2 : (x.starts ++ [t]).length = x.starts.length + 1 := by simp
  rw [e2, List.flatMap_append]
  exact own_far2 (by simpa [List.flatMap] using ho) h.xbB
/-! A run of symbols. -/
structure Span (l : List Tk) (s j : Nat) (a : List Tk) : Prop where
  le : j = s + a.length
  tw : (l.drop s).takeWhile symT = a ++ (l.drop j).takeWhile symT
  dw : (l.drop s).dropWhile symT = (l.drop j).dropWhile symT
theorem Span.start (l : List Tk) (s : Nat) : Span l s s [] := ⟨rfl, rfl, rfl⟩
theorem drop_cons {l : List Tk} {j : Nat} {t : Tk} (h : l[j]? = some t) : l.drop j = t :: l.drop (j + 1) := by
  obtain ⟨hj, rfl⟩ := List.getElem?_eq_some_iff.1 h
  exact List.drop_eq_getElem_cons hj
theorem Span.step {l : List Tk} {s j : Nat} {a : List Tk} {t : Tk} (h : Span l s j a) (ht : l[j]? = some t) (hs : symT t = true) : Span l s (j + 1) (a ++ [t]) := by
  refine ⟨by rw [h.le, List.length_append]; rfl, ?_, ?_⟩
  · rw [h.tw, drop_cons ht, List.takeWhile_cons, if_pos hs]; simp
  · rw [h.dw, drop_cons ht, List.dropWhile_cons, if_pos hs]
theorem Span.done {l : List Tk} {s j : Nat} {a : List Tk} {t : Tk} (h : Span l s j a) (ht : l[j]? = some t) (hs : symT t = false) : (l.drop s).takeWhile symT = a ∧ (l.drop s).dropWhile symT = l.drop j := by
  refine ⟨?_, ?_⟩
  · rw [h.tw, drop_cons ht, List.takeWhile_cons, if_neg (by rw [hs]; simp)]; simp
  · rw [h.dw, drop_cons ht, List.dropWhile_cons, if_neg (by rw [hs]; simp)]
theorem Span.get {l : List Tk} {s j : Nat} {a : List Tk} (h : Span l s j a) (hne : (l.drop s).dropWhile symT ≠ []) : ∃ t, l[j]? = some t := by
  rcases Nat.lt_or_ge j l.length with hj | hj
  · exact ⟨_, List.getElem?_eq_getElem hj⟩
  · exfalso
    refine hne ?_
    rw [h.dw, List.drop_eq_nil_of_le hj]
    rfl
end Go.Proofs.YtnpjhndgdlihjaaDoor

namespace Go.Proofs.YtnpjhndgdlihjaaDoor
open Go.RowKit
set_option linter.unusedVariables false
theorem headsL_nil (f : Nat) (x : Txt) : ¬ ∃ q, headsL f x [] = .ok q := by
  rintro ⟨q, h⟩
  cases f <;> cases h
theorem heads_split {f : Nat} {y x' : Txt} {l l' : List Tk} (h : headsL (f + 1) y l = .ok (x', l')) :
    (∃ t r, l = t :: r ∧ t.k = 6 ∧ x' = y ∧ l' = r) ∨
    (∃ t r, l = t :: r ∧ t.k = 7 ∧ r.takeWhile symT ≠ [] ∧ r.dropWhile symT ≠ [] ∧ headsL f { y with decl := y.decl ++ r.takeWhile symT } (r.dropWhile symT) = .ok (x', l')) ∨
    (∃ t u r, l = t :: u :: r ∧ t.k = 8 ∧ u.k = 1 ∧ headsL f { y with marks := y.marks ++ [t.p], starts := y.starts ++ [u] } r = .ok (x', l')) := by
  unfold headsL at h
  cases l with
  | nil => cases h
  | cons t r =>
    by_cases h6 : t.k = 6
    · left
      rw [if_pos (by simp [isK, h6])] at h
      cases h
      exact ⟨t, r, rfl, h6, rfl, rfl⟩
    · rw [if_neg (by simp [isK, h6])] at h
      unfold headL at h
      dsimp only at h
      by_cases h7 : t.k = 7
      · right; left
        rw [if_pos h7] at h
        by_cases he : (r.takeWhile symT).isEmpty = true
        · rw [if_pos he] at h; cases h
        · rw [if_neg he] at h
          refine ⟨t, r, rfl, h7, by simpa using he, fun hd => ?_, h⟩
          rw [hd] at h
          exact headsL_nil _ _ ⟨_, h⟩
      · rw [if_neg h7] at h
        by_cases h8 : t.k = 8
        · right; right
          rw [if_pos h8] at h
          cases r with
          | nil => cases h
          | cons u r =>
            by_cases hu : u.k = 1
            · rw [if_pos (by simp [isK, hu])] at h
              exact ⟨t, u, r, rfl, h8, hu, h⟩
            · rw [if_neg (by simp [isK, hu])] at h; cases h
        · rw [if_neg h8] at h; cases h
theorem drop_get {l : List Tk} {k : Nat} {t : Tk} {r : List Tk} (h : l.drop k = t :: r) : l[k]? = some t ∧ l.drop (k + 1) = r ∧ k < l.length := by
  have h0 : (l.drop k)[0]? = some t := by rw [h]; rfl
  rw [List.getElem?_drop, Nat.add_zero] at h0
  refine ⟨h0, ?_, (List.getElem?_eq_some_iff.1 h0).1⟩
  rw [drop_cons h0] at h
  exact (List.cons.inj h).2
/-- Behind the heads. -/
def HeadsEnd (w : World) (xb : Nat) (rv : Value) (x' : Txt) (l r : List Tk) (e : Ending) (w' : World) : Prop :=
  ∃ (k : Nat) (dv kv sv : Value), e = .returned (.tuple #[.int .i64 k, .agg #[.int .i64 0, .int .i64 0]]) ∧ k ≤ l.length ∧ l.drop k = r ∧ (x'.decl.length ≤ 100000 ∧ x'.marks.length ≤ 100000 ∧ x'.starts.length ≤ 100000) ∧ DTx w' (w.heap.size + 1) xb x' dv kv sv rv ∧ Chg (· = xb) w w'
set_option maxRecDepth 100000 in
set_option maxHeartbeats 3200000 in
theorem heads_any {w : World} {xb : Nat} {tv rv : Value} {l r : List Tk} {x' : Txt} {F : Nat} (htk : Toks w tv l) (hx : Blk w xb 52 #[.slice none 0 0, .slice none 0 0, .slice none 0 0, rv]) (hne : ∀ g, tv.ownBlock = some g → ¬ g = xb)
    (hl : headsL F ⟨[], [], [], []⟩ l = .ok (x', r)) : Calls Tryd.prog 40 #[tv, .pointer (some ⟨xb, 0, none⟩)] w (HeadsEnd w xb rv x' l r) := by
  have hl0 : ∃ t, l[0]? = some t := by
    cases l with
    | nil => exact absurd ⟨_, hl⟩ (headsL_nil _ _)
    | cons t r => exact ⟨t, rfl⟩
  obtain ⟨⟨A, c, rfl, h1⟩, h2⟩ := htk
  obtain ⟨t0, ht0⟩ := hl0
  obtain ⟨b, off, rfl, hlt, -⟩ := h1 0 t0 ht0
  have hnb : ¬ b = xb := hne b rfl
  have HC := Lib.hid (fun (y : World) (hy : Chg (· = xb) (w.alloc (.cells #[.int .i64 0, .int .i64 0] 34)) y) (k : Nat) (t : Tk) (ht : l[k]? = some t) => (by
    obtain ⟨b', off', e, hlt', k1, k2, k3⟩ := h1 k t ht
    cases e
    have hb := ((Chg.refl (· = xb) w).alloc (.cells #[.int .i64 0, .int .i64 0] 34)).next hy
    exact ⟨(hb.cell hlt hnb).trans k1, (hb.cell hlt hnb).trans k2, (hb.cell hlt hnb).trans k3⟩ : y.cell? ⟨b, off + k * 3, none⟩ = some (.int .i64 t.k) ∧ y.cell? ⟨b, off + k * 3 + 1, none⟩ = some (.string (str t.s)) ∧ y.cell? ⟨b, off + k * 3 + 2, none⟩ = some (.int .i64 t.p)))
  have HK0 := Lib.hid (Blk.new w 34 #[.int .i64 0, .int .i64 0])
  have hxl := hx.lt
  have HD0 : Hid (DTx (w.alloc (.cells #[.int .i64 0, .int .i64 0] 34)) (w.heap.size + 1) xb ⟨[], [], [], []⟩ (.slice none 0 0) (.slice none 0 0) (.slice none 0 0) rv) := Lib.hid
    ⟨hx.alloc _, World.ownsRow_nil _ _ _ _, ⟨[], rfl, World.ownsRow_nil _ _ _ _⟩, World.ownsRow_nil _ _ _ _, (fun _ h => by cases h), (fun _ h => by cases h), (fun _ h => by cases h), by omega, by simp⟩
  have HL0 : Hid (headsL F ⟨[], [], [], []⟩ (l.drop 0) = .ok (x', r)) := Lib.hid hl
  have hll : l.length ≤ 100000 := h2
  have HS := Lib.hid (fun (t : Tk) (y : World) => symb_any t y)
  have HCW := Lib.hid ((Chg.refl (· = xb) w).alloc (.cells #[.int .i64 0, .int .i64 0] 34))
  clear h1 h2 hne hl ht0 hx
  go_enter Tryd.func40, Tryd.ntmps40
  go_wp2
  have HSZ : Hid ((w.alloc (.cells #[.int .i64 0, .int .i64 0] 34)).heap.size = w.heap.size + 1) := Lib.hid (by simp)
  generalize w.alloc (.cells #[.int .i64 0, .int .i64 0] 34) = W at *
  go_loopw [6, 7] (fun i kk wr => ∃ (k f : Nat) (y : Txt) (dv kv sv : Value), i = .int .i64 k ∧ k ≤ l.length ∧ Hid (y.decl.length ≤ k ∧ y.marks.length ≤ k ∧ y.starts.length ≤ k) ∧ Hid (headsL f y (l.drop k) = .ok (x', r)) ∧ Hid (DTx wr (w.heap.size + 1) xb y dv kv sv rv) ∧ Hid (Chg (· = xb) W wr)) (fun i _ _ => l.length - (intOf i).toNat)
  case atStart => exact ⟨0, F, _, _, _, _, rfl, Nat.zero_le _, Lib.hid ⟨Nat.le_refl _, Nat.le_refl _, Nat.le_refl _⟩, HL0, HD0, Lib.hid (Chg.refl _ _)⟩
  case round =>
    rename World => w9
    obtain ⟨k, f, y, dv, kv, sv, rfl, hk, HLN, HL, HD, HCH⟩ := hrel
    cases f with
    | zero => exact absurd HL.out (by unfold headsL; simp)
    | succ f =>
      rcases heads_split HL.out with ⟨t, r', e1, e2, e3, e4⟩ | ⟨t, r', e1, e2, e3, e4, e5⟩ | ⟨t, u, r', e1, e2, e3, e4⟩
      · obtain ⟨g1, g2, g3⟩ := drop_get e1
        obtain ⟨c0, _, _⟩ := HC.out w9 HCH.out k t g1
        have q1 : (k : Int) < (l.length : Int) := by omega
        have q2 : ((t.k : Int) != 6) = false := by rw [e2]; rfl
        have hbl : b < w9.heap.size := by have := HCH.out.size; rw [HSZ.out] at this; omega
        have HEND := Lib.hid g2
        have HKr := Lib.hid (HCH.out.blk HK0.out (by omega))
        have z0 := HKr.out.cell 0
        have z1 := HKr.out.cell 1
        have v0 := HKr.out.frozen 0
        have v1 := HKr.out.frozen 1
        simp at z0 z1
        have hfl := HKr.out.lt
        clear e1 e2 g1 g2
        go_wp2
        have hb2 : Blk ((w9.setCell ⟨w.heap.size, 0, none⟩ (.int .i64 0)).setCell ⟨w.heap.size, 1, none⟩ (.int .i64 0)) w.heap.size 34 #[.int .i64 0, .int .i64 0] := by simpa using (HKr.out.set_ 0 (.int .i64 0)).set_ 1 (.int .i64 0)
        have y0 := hb2.cell 0
        have y1 := hb2.cell 1
        simp only [show (#[Value.int .i64 0, .int .i64 0] : Array Value)[0]? = some (.int .i64 0) from rfl, show (#[Value.int .i64 0, .int .i64 0] : Array Value)[1]? = some (.int .i64 0) from rfl] at y0 y1
        refine bodyPost_ret (v := .tuple #[.int .i64 ((k : Int) + 1), .agg #[.int .i64 0, .int .i64 0]]) (by simp [results, Tryd.results40, go_sem, y0, y1]) rfl ?_
        have hX : Chg (· = w.heap.size) w9 ((w9.setCell ⟨w.heap.size, 0, none⟩ (.int .i64 0)).setCell ⟨w.heap.size, 1, none⟩ (.int .i64 0)) := ((Chg.refl (· = w.heap.size) w9).set (p := ⟨w.heap.size, 0, none⟩) (.inr rfl) _).set (p := ⟨w.heap.size, 1, none⟩) (.inr rfl) _
        have hE := HEND.out
        subst e3 e4
        exact ⟨k + 1, dv, kv, sv, rfl, by omega, hE, (by have h1 := HLN.out; omega), HD.out.chg hX (by omega) (fun i hi => by omega), ((HCW.out.next HCH.out).set (p := ⟨w.heap.size, 0, none⟩) (.inl (Nat.le_refl _)) _).set (p := ⟨w.heap.size, 1, none⟩) (.inl (Nat.le_refl _)) _⟩
      · obtain ⟨g1, g2, g3⟩ := drop_get e1
        rw [← g2] at e3 e4 e5
        obtain ⟨c0, c1, c2⟩ := HC.out w9 HCH.out k t g1
        have q1 : (k : Int) < (l.length : Int) := by omega
        have q2 : ((t.k : Int) != 6) = true := by rw [e2]; rfl
        have q3 : ((t.k : Int) == 7) = true := by rw [e2]; rfl
        have hbl : b < w9.heap.size := by have := HCH.out.size; rw [HSZ.out] at this; omega
        have HE3 := Lib.hid e3
        have HE4 := Lib.hid e4
        have HE5 := Lib.hid e5
        clear e1 e2 e3 e4 e5 g1 g2
        go_wp2
        clear c0 c1 c2
        go_loopw [7] (fun kk wr => ∃ (j : Nat) (a : List Tk) (dv2 : Value), kk = .int .i64 j ∧ Hid (Span l (k + 1) j a) ∧ Hid (DTx wr (w.heap.size + 1) xb { y with decl := y.decl ++ a } dv2 kv sv rv) ∧ Hid (Chg (· = xb) W wr)) (fun kk _ => l.length - (intOf kk).toNat)
        case atStart => exact ⟨k + 1, [], dv, by go_num, Lib.hid (Span.start _ _), Lib.hid (by rw [List.append_nil]; exact HD.out), HCH⟩
        case round =>
          obtain ⟨j, a, dv2, rfl, HSP, HD2, HC2⟩ := hrel
          obtain ⟨t3, ht3⟩ := HSP.out.get HE4.out
          obtain ⟨c0, c1, c2⟩ := HC.out wr HC2.out j t3 ht3
          have hjl := (List.getElem?_eq_some_iff.1 ht3).1
          have q4 : (j : Int) < (l.length : Int) := by omega
          have hbl2 : b < wr.heap.size := by have := HC2.out.size; rw [HSZ.out] at this; omega
          have HY3 := Lib.hid (HS.out t3 wr)
          have HT3 := Lib.hid ht3
          have HLE := Lib.hid HSP.out.le
          have hle1 : k + 1 ≤ j := by have := HLE.out; omega
          have hle2 : y.decl.length + a.length < 100000 := by have := HLE.out; have := HLN.out.1; omega
          cases h3 : symT t3 with
          | false =>
            rw [h3] at HY3
            obtain ⟨s1, s2⟩ := HSP.out.done ht3 h3
            have hane : a ≠ [] := by rw [← s1]; exact HE3.out
            have hal : 0 < a.length := List.length_pos_iff.2 hane
            have q5 : ((j : Int) == (k : Int) + 1) = false := by rw [beq_eq_false_iff_ne]; have := HLE.out; omega
            have HL5 := Lib.hid HE5.out
            rw [s1, s2] at HL5
            clear h3 s1 s2 hane ht3 hle2
            go_wp2_with (go_at_call 64; refine HY3.out.mono ?_; rintro e w' ⟨rfl, rfl⟩)
            go_roundw
            case rel => exact ⟨j, f, { y with decl := y.decl ++ a }, dv2, kv, sv, rfl, by omega, Lib.hid (by have h1 := HLN.out; have h2 := HLE.out; simp; omega), HL5, Lib.hid (HD2.out.alloc _), Lib.hid (HC2.out.alloc _)⟩
            case measure => simp [intOf]; omega
          | true =>
            rw [h3] at HY3
            have HS3 := Lib.hid (HSP.out.step ht3 h3)
            have HD3 := Lib.hid (HD2.out.alloc t3.obj).drew
            have HC3 := Lib.hid (HC2.out.alloc t3.obj).drew
            obtain ⟨A, c', hdv⟩ := own_shape HD2.out.decl
            subst hdv
            have HNN : Hid ((y.decl ++ a).length = y.decl.length + a.length) := Lib.hid List.length_append
            have hn1 : (y.decl ++ a).length < 100000 := by rw [HNN.out]; exact hle2
            generalize hnn : (y.decl ++ a).length = n at *
            have HNL : Hid (({ y with decl := y.decl ++ a } : Txt).decl.length = n) := Lib.hid hnn
            have HN2 := Lib.hid hnn
            clear hnn hle2
            have k0 := HD3.out.blk.cell 0
            have f0 := HD3.out.blk.frozen 0
            simp at k0
            clear h3 ht3
            go_wp2_with (go_at_call 64; refine HY3.out.mono ?_; rintro e w' ⟨rfl, rfl⟩)
            have hBw := HD3.out.bB
            generalize hWA : wr.alloc t3.obj = WA at *
            have HZA : Hid (WA.heap.size = wr.heap.size + 1) := Lib.hid (by rw [← hWA]; unfold Tk.obj; simp)
            have hbl3 : b < WA.heap.size := by have := HZA.out; omega
            have hxl3 : xb < WA.heap.size := by have := HZA.out; have := HD2.out.blk.lt; omega
            have HCW3 := Lib.hid (HC.out WA (by rw [← hWA]; exact HC2.out.alloc _) j t3 HT3.out)
            clear hWA
            obtain ⟨c0, c1, c2⟩ := HCW3.out
            go_region_law (first
              | (refine step_app ElTok (.tmp 31) (.tmp 36) ?_ ?_ (base := w.heap.size + 1) (n := n) (m := 1) (N := n + 1) (v := .slice A n c') (src := .slice (some ⟨WA.heap.size, 0, none⟩) 1 1) (xs := (y.decl ++ a).flatMap Tk.cells) (news := [.int .i64 t3.k, .string (str t3.s), .int .i64 t3.p]) ?_ ?_ ?_ ?_ ?_ ?_ ?_ ?_ ?_
                 · rfl
                 · rfl
                 · rfl
                 · rfl
                 · have := HD3.out.decl
                   rw [HNL.out] at this
                   exact this.alloc _
                 · exact src_tok WA.drew _ _ _
                 · rfl
                 · unfold maxLen; omega
                 · omega
                 · simp at hBw ⊢; omega
                 intro A4 c4 w4 r1 r2 r3
                 have r3' : Grew WA.drew (.cells #[.int .i64 t3.k, .string (str t3.s), .int .i64 t3.p] 60) w4 (.slice A n c') (.slice A4 (n + 1) c4) := r3
                 have hF := DTx.decl_grow (t := t3) HD3.out (by rw [HNL.out]; exact r1) r3'
                 have HF := Lib.hid hF.1
                 have HFC := Lib.hid hF.2
                 have hbk4 := r3'.chg.blk HD3.out.blk (own_blk (t := 60) (cs := #[]) HD3.out.decl HD3.out.xbB)
                 have cA := hbk4.cell 0
                 have vA := hbk4.frozen 0
                 simp at cA
                 clear r1 r2 r3 r3' hF hbk4))
            all_goals go_wp2
            all_goals go_roundw
            all_goals first
              | (case measure => simp [intOf]; omega)
              | (case rel =>
                  refine ⟨j + 1, a ++ [t3], .slice A4 (n + 1) c4, by go_num, HS3, Lib.hid ?_, Lib.hid ?_⟩
                  · have := HF.out
                    rw [List.append_assoc] at this
                    exact this
                  · exact HC3.out.trans HFC.out (fun i hi hx => by rcases hx with hx | hx; exact hx; have := HSZ.out; omega))
              | skip
      · obtain ⟨g1, g2, g3⟩ := drop_get e1
        obtain ⟨g4, g5, g6⟩ := drop_get g2
        obtain ⟨c0, c1, c2⟩ := HC.out w9 HCH.out k t g1
        obtain ⟨d0, d1, d2⟩ := HC.out w9 HCH.out (k + 1) u g4
        have q1 : (k : Int) < (l.length : Int) := by omega
        have q1' : (k : Int) + 1 < (l.length : Int) := by omega
        have q1'' : 0 ≤ (k : Int) + 1 := by omega
        have q2 : ((t.k : Int) != 6) = true := by rw [e2]; rfl
        have q3 : ((t.k : Int) == 7) = false := by rw [e2]; rfl
        have q4 : ((t.k : Int) == 8) = true := by rw [e2]; rfl
        have q5 : ((u.k : Int) != 1) = false := by rw [e3]; rfl
        have hbl : b < w9.heap.size := by have := HCH.out.size; rw [HSZ.out] at this; omega
        have HE5 := Lib.hid e4
        rw [← g5] at HE5
        have HGT := Lib.hid g1
        have HGU := Lib.hid g4
        clear e1 e2 e3 e4 g1 g2 g4 g5
        obtain ⟨ml, m1, m2⟩ := HD.out.marks
        obtain ⟨A, c', hdv⟩ := own_shape m2
        subst hdv
        have hml : ml.length ≤ 100000 := by have := HLN.out.2.1; omega
        have HDD := Lib.hid HD.out.drew
        have HMM : Hid (w9.drew.ownsRow (w.heap.size + 1) 60 3 (.slice A ml.length c') ml.length (ml.flatMap Tk.cells)) := Lib.hid (((Chg.refl (fun _ => False) w9).drew).own m2 (fun _ _ => id))
        have HM1 := Lib.hid m1
        have k1 := HDD.out.blk.cell 1
        have f1 := HDD.out.blk.frozen 1
        simp at k1
        have hBw := HD.out.bB
        have hxl3 := HD.out.blk.lt
        clear m1 m2
        go_wp2
        generalize hnn : ml.length = n at *
        have HNN := Lib.hid hnn
        clear hnn
        go_region_law (first
          | (refine step_app ElTok (.tmp 72) (.tmp 77) ?_ ?_ (base := w.heap.size + 1) (n := n) (m := 1) (N := n + 1) (v := .slice A n c') (src := .slice (some ⟨w9.heap.size, 0, none⟩) 1 1) (xs := ml.flatMap Tk.cells) (news := [.int .i64 t.k, .string (str t.s), .int .i64 t.p]) ?_ ?_ ?_ ?_ ?_ ?_ ?_ ?_ ?_
             · rfl
             · rfl
             · rfl
             · rfl
             · exact HMM.out.alloc _
             · exact src_tok w9.drew _ _ _
             · rfl
             · unfold maxLen; omega
             · omega
             · simp; omega
             intro A4 c4 w4 r1 r2 r3
             have r3' : Grew w9.drew (.cells #[.int .i64 t.k, .string (str t.s), .int .i64 t.p] 60) w4 (.slice A n c') (.slice A4 (n + 1) c4) := r3
             have hF := DTx.marks_grow (t := t) (ml := ml) HDD.out (by rw [HNN.out]; exact HM1.out) (by rw [HNN.out]; exact HMM.out) (by rw [HNN.out]; exact r1) r3'
             have HF := Lib.hid hF.1
             have HFC := Lib.hid hF.2
             have hbk4 := r3'.chg.blk HDD.out.blk (own_blk (t := 60) (cs := #[]) HMM.out HDD.out.xbB)
             have cA := hbk4.cell 1
             have vA := hbk4.frozen 1
             simp at cA
             clear r1 r2 r3 r3' hF hbk4))
        all_goals (
          have HC4 := Lib.hid (HCH.out.drew.trans HFC.out (fun i hi hx => by rcases hx with hx | hx; exact hx; have := HSZ.out; omega))
          clear cA vA k1 f1 c0 c1 c2 d0 d1 d2 HDD HMM
          generalize w4.setCell ⟨xb, 1, none⟩ (.slice A4 (n + 1) c4) = W4 at *
          obtain ⟨c0, c1, c2⟩ := HC.out W4 HC4.out (k + 1) u HGU.out
          obtain ⟨A5, c5, hsv⟩ := own_shape HF.out.starts
          subst hsv
          have HDD := Lib.hid HF.out.drew
          have k2 := HDD.out.blk.cell 2
          have f2 := HDD.out.blk.frozen 2
          simp at k2
          have hBw2 := HF.out.bB
          have hxl4 := HF.out.blk.lt
          have hbl4 : b < W4.heap.size := by have := HC4.out.size; rw [HSZ.out] at this; omega
          have hst : y.starts.length ≤ 100000 := by have := HLN.out.2.2; omega
          have HD5 : Hid (W4.drew.ownsRow (w.heap.size + 1) 60 3 (.slice A5 y.starts.length c5) y.starts.length (y.starts.flatMap Tk.cells)) := Lib.hid HDD.out.starts
          go_wp2
          go_region_law (first
            | (refine step_app ElTok (.tmp 85) (.tmp 90) ?_ ?_ (base := w.heap.size + 1) (n := y.starts.length) (m := 1) (N := y.starts.length + 1) (v := .slice A5 y.starts.length c5) (src := .slice (some ⟨W4.heap.size, 0, none⟩) 1 1) (xs := y.starts.flatMap Tk.cells) (news := [.int .i64 u.k, .string (str u.s), .int .i64 u.p]) ?_ ?_ ?_ ?_ ?_ ?_ ?_ ?_ ?_
               · rfl
               · rfl
               · rfl
               · rfl
               · exact HD5.out.alloc _
               · exact src_tok W4.drew _ _ _
               · rfl
               · unfold maxLen; omega
               · omega
               · simp; omega
               intro A6 c6 w6 r1 r2 r3
               have r3' : Grew W4.drew (.cells #[.int .i64 u.k, .string (str u.s), .int .i64 u.p] 60) w6 (.slice A5 y.starts.length c5) (.slice A6 (y.starts.length + 1) c6) := r3
               have hF := DTx.starts_grow (t := u) HDD.out r1 r3'
               have HF6 := Lib.hid hF.1
               have HFC6 := Lib.hid hF.2
               have hbk4 := r3'.chg.blk HDD.out.blk (own_blk (t := 60) (cs := #[]) HD5.out HDD.out.xbB)
               have cA := hbk4.cell 2
               have vA := hbk4.frozen 2
               simp at cA
               clear r1 r2 r3 r3' hF hbk4))
          all_goals go_wp2
          all_goals go_roundw
          all_goals first
            | (case measure => simp [intOf]; omega)
            | (case rel =>
                refine ⟨k + 2, f, _, _, _, _, by go_num, by omega, Lib.hid ?_, HE5, HF6, Lib.hid ?_⟩
                · have := HLN.out
                  simp
                  omega
                · exact HC4.out.drew.trans HFC6.out (fun i hi hx => by rcases hx with hx | hx; exact hx; have := HSZ.out; omega))
            | skip)
end Go.Proofs.YtnpjhndgdlihjaaDoor
