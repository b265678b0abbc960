/- The builder: what it has built; one terminal more. The builder: one terminal more. The builder: what %start says; where a second one stands. The builder: a symbol of a right side. The builder: a rule's left side. The builder: a rule's left side, the walk. -/
import Derived.Test.YtnpjhndgdlihjaaDoorZf
import Derived.BigRegion
namespace Go.Proofs.YtnpjhndgdlihjaaDoor
open Go.RowKit Go.Maps
set_option linter.unusedVariables false
def Nv (s : List UInt8) : Value := .string (str s)
/-- A rule by names, as it lies. -/
structure GN where
  v : Value
  l : List Nme
/-- What a map knows of a list of names: the place of each, from one on. -/
def Places (D : DataW Unit) (L : List Nme) : Prop := ∀ s, D.atKey (klR s) (.lit (.int .i64 0)) = .lit (.int .i64 (if s ∈ L then L.idxOf s + 1 else 0 : Nat))
theorem Places.start : Places (.map []) [] := fun s => rfl
theorem Places.next {D : DataW Unit} {L : List Nme} (h : Places D L) (ht : Maps.Tidy D) {s : Nme} (hs : s ∉ L) : Places (D.put (klR s) (.lit (.int .i64 (L.length + 1 : Nat)))) (L ++ [s]) := by
  intro u
  by_cases e : u = s
  · subst e
    rw [Maps.atKey_put_same ht.isMap (key_litR _), if_pos (by simp)]
    rw [List.idxOf_append, if_neg hs]
    simp
  · rw [Maps.atKey_put_other (fun hh => e (klR_inj hh)), h u]
    by_cases hu : u ∈ L
    · rw [if_pos hu, if_pos (by simp [hu]), List.idxOf_append, if_pos hu]
    · rw [if_neg hu, if_neg (by simp [hu, e])]
/-- What the builder has built. -/
structure BAt (w0 w : World) (bb tm nm rb : Nat) (tv nv gv : Value) (b : Bd) (gs : List GN) (DT DN : DataW Unit) : Prop where
  below : Below w0.heap.size w0 w
  blk : Blk w bb 88 #[.pointer (some ⟨rb, 0, none⟩), .map (some tm), .map (some nm), tv, nv, .slice none 0 0, .int .i64 0, gv]
  ft : w.ownsRow w0.heap.size 9 1 tv b.T.length (b.T.map Nv)
  fn : w.ownsRow w0.heap.size 9 1 nv b.N.length (b.N.map Nv)
  fg : w.ownsRow w0.heap.size 27 1 gv gs.length (gs.map GN.v)
  names : gs.map GN.l = b.R
  rows : ∀ q ∈ gs, w.ownsRow w0.heap.size 9 1 q.v q.l.length (q.l.map Nv)
  tn : ∀ k, tv.ownBlock = some k → ¬ nv.ownBlock = some k
  tr : ∀ q ∈ gs, ∀ k, tv.ownBlock = some k → ¬ q.v.ownBlock = some k
  nr : ∀ q ∈ gs, ∀ k, nv.ownBlock = some k → ¬ q.v.ownBlock = some k
  mt : w.ownsMap Tryd.prog 9 (plainElem Tryd.prog 3) tm b.T.length DT
  mn : w.ownsMap Tryd.prog 9 (plainElem Tryd.prog 3) nm b.N.length DN
  pt : Places DT b.T
  pn : Places DN b.N
  b0 : w0.heap.size ≤ bb ∧ w0.heap.size ≤ tm ∧ w0.heap.size ≤ nm
  b1 : tm ≠ nm
  lt : b.T.length ≤ 120
  ln : b.N.length ≤ 120
  lr : b.R.length ≤ 300
theorem places_look {w : World} {mb n : Nat} {D : DataW Unit} {L : List Nme} (h : w.ownsMap Tryd.prog 9 (plainElem Tryd.prog 3) mb n D) (hL : Places D L) {s : List UInt8} (hs : s.length ≤ 8192) : (Instr.lookup 81 (.map (some mb)) (.string (str s)) false).run Tryd.prog w = .ok (.int .i64 (if s ∈ L then L.idxOf s + 1 else 0 : Nat)) w := by
  have hk := WideMaps.keyOf_string_mk Tryd.underlying9 (s := str s) (by rw [str_size]; unfold maxLen; omega)
  obtain ⟨c, h1, h2, _⟩ := h.lookup_int lawStrR Tryd.underlying81 Tryd.underlying3 (zeroIntR w) hk
  rw [h1]
  have h3 := hL s
  have h2' : D.atKey (klR s) (.lit (.int .i64 0)) = .lit (.int .i64 c) := h2
  rw [h3] at h2'
  simp only [DataW.lit.injEq, Lit.int.injEq, true_and] at h2'
  rw [← h2']
theorem places_put {w : World} {mb n : Nat} {D : DataW Unit} (h : w.ownsMap Tryd.prog 9 (plainElem Tryd.prog 3) mb n D) (hn : n ≤ 100000) {s : List UInt8} (hs : s.length ≤ 8192) {c : Nat} (hc : c ≤ 100000) :
    ∃ w', (Instr.mapUpdate 81 (.map (some mb)) (.string (str s)) (.int .i64 (c : Int))).run Tryd.prog w = .ok () w' ∧ w'.ownsMap Tryd.prog 9 (plainElem Tryd.prog 3) mb (n + 1) (D.put (klR s) (.lit (.int .i64 (c : Int)))) ∧ w.grownBy w' (some mb) := by
  have hk := WideMaps.keyOf_string_mk Tryd.underlying9 (s := str s) (by rw [str_size]; unfold maxLen; omega)
  exact h.update lawStrR Tryd.underlying81 (by unfold maxLen; omega) hk (plainElem_int Tryd.underlying3 (WalkArith.wf_i64 (by omega)))
/-- Maps and rows lie in other blocks. -/
theorem map_apart {w : World} {mb n n2 B : Nat} {D : DataW Unit} {e : TypeId} {s : Nat} {v : Value} {xs : List Value} (h : w.ownsMap Tryd.prog 9 (plainElem Tryd.prog 3) mb n D) (hr : w.ownsRow B e s v n2 xs) : ¬ v.ownBlock = some mb := by
  intro hg
  obtain ⟨es, clock, hb, _⟩ := h
  rcases own_form hr with ⟨rfl, _⟩ | ⟨b, c, rfl, _, _, _, _, cur, hcur⟩
  · cases hg
  · cases hg
    unfold Blk at hcur
    rw [hb] at hcur
    cases hcur
theorem map_blk {w : World} {mb n g : Nat} {D : DataW Unit} {e : TypeId} {cs : Array Value} (h : w.ownsMap Tryd.prog 9 (plainElem Tryd.prog 3) mb n D) (hr : Blk w g e cs) : mb ≠ g := by
  rintro rfl
  obtain ⟨es, clock, hb, _⟩ := h
  unfold Blk at hr
  rw [hb] at hr
  cases hr
theorem row_blk {w : World} {g B n : Nat} {e e2 : TypeId} {s : Nat} {cs : Array Value} {v : Value} {xs : List Value} (hr : w.ownsRow B e s v n xs) (h : Blk w g e2 cs) (he : e ≠ e2) : ¬ v.ownBlock = some g := by
  intro hg
  rcases own_form hr with ⟨rfl, _⟩ | ⟨b, c, rfl, _, _, _, _, cur, hcur⟩
  · cases hg
  · cases hg
    exact Blk.ne_ (t := e) hcur h he rfl
/-- Nothing that the builder has built lies in a block that has turned. -/
theorem BAt.chg {X : Nat → Prop} {w0 w w' : World} {bb tm nm rb : Nat} {tv nv gv : Value} {b : Bd} {gs : List GN} {DT DN : DataW Unit} (h : BAt w0 w bb tm nm rb tv nv gv b gs DT DN) (hc : Chg X w w') (hx : ∀ k, k < w.heap.size → ¬ X k) : BAt w0 w' bb tm nm rb tv nv gv b gs DT DN where
  below := h.below.trans (hc.below h.below.size (fun k hk => hx k (Nat.lt_of_lt_of_le hk h.below.size)))
  blk := hc.blk h.blk (hx _ h.blk.lt)
  ft := hc.own h.ft (fun g hg => hx g (own_ge h.ft g hg).2)
  fn := hc.own h.fn (fun g hg => hx g (own_ge h.fn g hg).2)
  fg := hc.own h.fg (fun g hg => hx g (own_ge h.fg g hg).2)
  names := h.names
  rows q hq := hc.own (h.rows q hq) (fun g hg => hx g (own_ge (h.rows q hq) g hg).2)
  tn := h.tn
  tr := h.tr
  nr := h.nr
  mt := map_chg h.mt hc (hx _ (by obtain ⟨es, c, hb, _⟩ := h.mt; exact (Array.getElem?_eq_some_iff.1 hb).1))
  mn := map_chg h.mn hc (hx _ (by obtain ⟨es, c, hb, _⟩ := h.mn; exact (Array.getElem?_eq_some_iff.1 hb).1))
  pt := h.pt
  pn := h.pn
  b0 := h.b0
  b1 := h.b1
  lt := h.lt
  ln := h.ln
  lr := h.lr
end Go.Proofs.YtnpjhndgdlihjaaDoor

namespace Go.Proofs.YtnpjhndgdlihjaaDoor
open Go.RowKit Go.Maps
set_option linter.unusedVariables false
theorem ElStrR : El Tryd.prog 27 9 1 16 := El.of (z := .string ⟨#[]⟩) Tryd.underlying27 (by kernel_rfl) rfl (by decide)
theorem src_str (y : World) (s : ByteArray) : SrcOK (y.alloc (.cells #[.string s] 9)) (.slice (some ⟨y.heap.size, 0, none⟩) 1 1) 1 1 [.string s] :=
  SrcOK.blk (c := 1) (Blk.new y 9 #[.string s]) rfl (by simp [Value.oneCell'])
theorem map_lt {w : World} {mb n : Nat} {D : DataW Unit} (h : w.ownsMap Tryd.prog 9 (plainElem Tryd.prog 3) mb n D) : mb < w.heap.size := by
  obtain ⟨es, c, hb, _⟩ := h
  exact (Array.getElem?_eq_some_iff.1 hb).1
/-- The blocks that a step of the builder may turn. -/
def Mine (bb tm nm : Nat) (tv nv : Value) (k : Nat) : Prop := k = bb ∨ k = tm ∨ k = nm ∨ tv.ownBlock = some k ∨ nv.ownBlock = some k
/-- A row lies where it lay, or in a block that is new. -/
def Newer (w : World) (v v' : Value) : Prop := ∀ k, v'.ownBlock = some k → v.ownBlock = some k ∨ w.heap.size ≤ k
theorem Newer.refl (w : World) (v : Value) : Newer w v v := fun k h => .inl h
theorem term_rel {w0 w w2 w4 : World} {o : Obj} {bb tm nm rb : Nat} {tv nv gv : Value} {b : Bd} {gs : List GN} {DT DN : DataW Unit} {s : Nme} {A2 : Option Addr} {c2 : Nat}
    (h : BAt w0 w bb tm nm rb tv nv gv b gs DT DN) (hs : s ∉ b.T) (hlt : b.T.length < 120)
    (ho : w2.ownsRow w0.heap.size 9 1 (.slice A2 (b.T.length + 1) c2) (b.T.length + 1) (b.T.map Nv ++ [Nv s]))
    (hg : (w.alloc o).grownBy w2 tv.ownBlock ∧ ((Value.slice A2 (b.T.length + 1) c2).ownBlock = tv.ownBlock ∨ (Value.slice A2 (b.T.length + 1) c2).ownBlock = some (w.alloc o).heap.size))
    (hm : w4.ownsMap Tryd.prog 9 (plainElem Tryd.prog 3) tm (b.T.length + 1) (DT.put (klR s) (.lit (.int .i64 (b.T.length + 1 : Nat)))))
    (hg4 : (w2.setCell ⟨bb, 3, none⟩ (.slice A2 (b.T.length + 1) c2)).drew.grownBy w4 (some tm)) :
    BAt w0 w4 bb tm nm rb (.slice A2 (b.T.length + 1) c2) nv gv { b with T := b.T ++ [s] } gs (DT.put (klR s) (.lit (.int .i64 (b.T.length + 1 : Nat)))) DN ∧ Chg (Mine bb tm nm tv nv) w w4 ∧ Newer w tv (.slice A2 (b.T.length + 1) c2) := by
  have hX : Chg (fun k => tv.ownBlock = some k) w w2 := ((Chg.refl _ w).alloc o).next (.of_grown hg.1)
  have hXY : Chg (fun k => tv.ownBlock = some k ∨ k = bb) w (w2.setCell ⟨bb, 3, none⟩ (.slice A2 (b.T.length + 1) c2)).drew := ((hX.mono (fun i hi => .inl hi)).set (p := ⟨bb, 3, none⟩) (.inr (.inr rfl)) _).drew
  have h4 := Chg.of_map hg4
  have hY : Chg (fun k => (tv.ownBlock = some k ∨ k = bb) ∨ k = tm) w w4 := (hXY.mono (fun i hi => .inl hi)).next (h4.mono (fun i hi => .inr hi))
  have hbb := h.blk.lt
  have htm := map_lt h.mt
  have e1 : ¬ tv.ownBlock = some bb := row_blk h.ft h.blk (by decide)
  have e2 : ¬ tv.ownBlock = some tm := map_apart h.mt h.ft
  have e3 : tm ≠ bb := map_blk h.mt h.blk
  have e4 : nm ≠ bb := map_blk h.mn h.blk
  have e5 : ¬ tv.ownBlock = some nm := map_apart h.mn h.ft
  have hnew : ∀ k, (Value.slice A2 (b.T.length + 1) c2).ownBlock = some k → k ≠ bb ∧ k ≠ tm := by
    intro k hk
    rcases hg.2 with e | e
    · rw [e] at hk
      exact ⟨by rintro rfl; exact e1 hk, by rintro rfl; exact e2 hk⟩
    · rw [e] at hk
      cases hk
      exact ⟨by simp; omega, by simp; omega⟩
  have hrow : ∀ {e : TypeId} {sz n : Nat} {v : Value} {xs : List Value}, w.ownsRow w0.heap.size e sz v n xs → e ≠ 88 → (∀ k, tv.ownBlock = some k → ¬ v.ownBlock = some k) → w4.ownsRow w0.heap.size e sz v n xs := by
    intro e sz n v xs hr he hd
    refine hY.own hr ?_
    rintro k hk ((hh | rfl) | rfl)
    · exact hd k hh hk
    · exact row_blk hr h.blk he hk
    · exact map_apart h.mt hr hk
  have happ : ∀ {v : Value} {B n sz : Nat} {e : TypeId} {xs : List Value}, w.ownsRow B e sz v n xs → (∀ k, tv.ownBlock = some k → ¬ v.ownBlock = some k) → ∀ k, (Value.slice A2 (b.T.length + 1) c2).ownBlock = some k → ¬ v.ownBlock = some k := by
    intro v B n sz e xs hr hd k hk hv
    rcases hg.2 with e | e
    · rw [e] at hk; exact hd k hk hv
    · rw [e] at hk
      cases hk
      have := (own_ge hr _ hv).2
      simp at this
      omega
  refine ⟨?_, hY.mono ?_, ?_⟩
  rotate_left
  · rintro k ((hh | rfl) | rfl)
    · exact .inr (.inr (.inr (.inl hh)))
    · exact .inl rfl
    · exact .inr (.inl rfl)
  · intro k hk
    rcases hg.2 with e | e
    · exact .inl (e ▸ hk)
    · rw [e] at hk
      cases hk
      exact .inr (by simp)
  refine ⟨?_, ?_, ?_, hrow h.fn (by decide) h.tn, hrow h.fg (by decide) (fun k hk hk2 => own_apart h.ft h.fg (by decide) k hk hk2), h.names, fun q hq => hrow (h.rows q hq) (by decide) (h.tr q hq), happ h.fn h.tn, fun q hq => happ (h.rows q hq) (h.tr q hq), h.nr, by simpa using hm, ?_, ?_, h.pn, h.b0, h.b1, by simp; omega, h.ln, h.lr⟩
  · refine h.below.trans (hY.below h.below.size ?_)
    rintro k hk ((hh | rfl) | rfl)
    · have := (own_ge h.ft k hh).1; omega
    · have := h.b0.1; omega
    · have := h.b0.2.1; omega
  · refine h4.blk (cs := #[.pointer (some ⟨rb, 0, none⟩), .map (some tm), .map (some nm), .slice A2 (b.T.length + 1) c2, nv, .slice none 0 0, .int .i64 0, gv]) ?_ (fun e => e3 e.symm)
    have := (hX.blk h.blk e1).set_ 3 (.slice A2 (b.T.length + 1) c2)
    exact (Chg.refl (fun _ => False) _).drew.blk (by simpa using this) id
  · rw [List.map_append, show (b.T ++ [s]).length = b.T.length + 1 by simp]
    exact h4.own ((Chg.refl (fun _ => False) _).drew.own (own_far (by simpa using ho) (fun e => (hnew _ e).1 rfl) _) (fun _ _ => id)) (fun k hk e => (hnew k hk).2 e)
  · refine map_chg h.mn hY ?_
    rintro ((hh | hh) | hh)
    · exact e5 hh
    · exact e4 hh
    · exact h.b1 hh.symm
  · exact h.pt.next (h.mt.tidy lawStrR) hs
theorem BAt.cells {w0 w : World} {bb tm nm rb : Nat} {tv nv gv : Value} {b : Bd} {gs : List GN} {DT DN : DataW Unit} (h : BAt w0 w bb tm nm rb tv nv gv b gs DT DN) :
    w.cell? ⟨bb, 0, none⟩ = some (.pointer (some ⟨rb, 0, none⟩)) ∧ w.cell? ⟨bb, 1, none⟩ = some (.map (some tm)) ∧ w.cell? ⟨bb, 2, none⟩ = some (.map (some nm)) ∧ w.cell? ⟨bb, 3, none⟩ = some tv ∧ w.cell? ⟨bb, 4, none⟩ = some nv ∧ w.cell? ⟨bb, 7, none⟩ = some gv ∧ bb < w.heap.size :=
  ⟨h.blk.cell 0, h.blk.cell 1, h.blk.cell 2, h.blk.cell 3, h.blk.cell 4, h.blk.cell 7, h.blk.lt⟩
theorem BAt.drew {w0 w : World} {bb tm nm rb : Nat} {tv nv gv : Value} {b : Bd} {gs : List GN} {DT DN : DataW Unit} (h : BAt w0 w bb tm nm rb tv nv gv b gs DT DN) : BAt w0 w.drew bb tm nm rb tv nv gv b gs DT DN := h.chg ((Chg.refl (fun _ => False) w).drew) (fun _ _ => id)
theorem BAt.alloc {w0 w : World} {bb tm nm rb : Nat} {tv nv gv : Value} {b : Bd} {gs : List GN} {DT DN : DataW Unit} (h : BAt w0 w bb tm nm rb tv nv gv b gs DT DN) (o : Obj) : BAt w0 (w.alloc o) bb tm nm rb tv nv gv b gs DT DN := h.chg ((Chg.refl (fun _ => False) w).alloc o) (fun _ _ => id)
/-- What a step of the builder comes to. -/
def BEnd (w0 w : World) (bb tm nm rb : Nat) (tv nv gv : Value) (gs : List GN) (r : Except Flt Bd) (e : Ending) (w' : World) : Prop :=
  Below w0.heap.size w0 w' ∧ match r with
  | .ok b => e = .returned (.tuple #[]) ∧ ∃ tv' nv' DT DN, BAt w0 w' bb tm nm rb tv' nv' gv b gs DT DN ∧ Chg (Mine bb tm nm tv nv) w w' ∧ Newer w tv tv' ∧ Newer w nv nv'
  | .error f => Gives f e
def termB (b : Bd) (t : Tk) : Except Flt Bd := if 120 ≤ b.T.length then .error (7, t.p) else .ok { b with T := b.T ++ [t.s] }
set_option maxRecDepth 100000 in
set_option maxHeartbeats 3200000 in
theorem bterm_any {w0 w : World} {bb tm nm rb : Nat} {tv nv gv : Value} {b : Bd} {gs : List GN} {DT DN : DataW Unit} (h : BAt w0 w bb tm nm rb tv nv gv b gs DT DN) (t : Tk) (ht : t.s.length ≤ 8192) (hs : t.s ∉ b.T) :
    Calls Tryd.prog 95 #[.pointer (some ⟨bb, 0, none⟩), .agg #[.int .i64 t.k, .string (str t.s), .int .i64 t.p]] w (BEnd w0 w bb tm nm rb tv nv gv gs (termB b t)) := by
  obtain ⟨A, c, rfl⟩ := own_shape h.ft
  have HA := Lib.hid (h.alloc (.cells #[.int .i64 t.k, .string (str t.s), .int .i64 t.p] 60))
  obtain ⟨c0, c1, c2, c3, c4, c7, hbb⟩ := h.cells
  have hw0 := h.below.size
  have HS := Lib.hid hs
  have HT := Lib.hid ht
  have hlt := h.lt
  by_cases hm : 120 ≤ b.T.length
  · have q1 : (120 : Int) ≤ (b.T.length : Int) := by omega
    have HE : Hid (termB b t = .error (7, t.p)) := Lib.hid (by simp [termB, hm])
    clear h hs ht hm
    generalize b.T.length = n at *
    go_enter Tryd.func95, Tryd.ntmps95
    go_wp2_with (go_at_call 81; refine (fail_any _ _ _).mono ?_; rintro e w' ⟨rfl, hw'⟩; subst hw')
    refine ⟨rfl, HA.out.below, ?_⟩
    rw [HE.out]
    exact Gives.of rfl rfl
  · have q1 : ¬ (120 : Int) ≤ (b.T.length : Int) := by omega
    have hm2 : b.T.length < 120 := by omega
    have HE : Hid (termB b t = .ok { b with T := b.T ++ [t.s] }) := Lib.hid (by simp [termB, hm])
    clear h hs ht hm
    go_enter Tryd.func95, Tryd.ntmps95
    go_wp2
    have HXB := Lib.hid (Blk.new w 60 #[.int .i64 t.k, .string (str t.s), .int .i64 t.p])
    have hw1 : w.heap.size < (w.alloc (.cells #[.int .i64 t.k, .string (str t.s), .int .i64 t.p] 60)).heap.size := by simp
    have HCW := Lib.hid (((Chg.refl (Mine bb tm nm (.slice A b.T.length c) nv) w).alloc (.cells #[.int .i64 t.k, .string (str t.s), .int .i64 t.p] 60)).drew)
    have HNW : Hid (∀ v', Newer ((w.alloc (.cells #[.int .i64 t.k, .string (str t.s), .int .i64 t.p] 60)).drew) (.slice A b.T.length c) v' → Newer w (.slice A b.T.length c) v') := Lib.hid (fun v' h k hk => (h k hk).imp id (fun h => Nat.le_trans (by simp) h))
    clear c0 c1 c2 c3 c4 c7 hbb hw0
    generalize (w.alloc (.cells #[.int .i64 t.k, .string (str t.s), .int .i64 t.p] 60)) = w1 at *
    generalize w.heap.size = xb at *
    obtain ⟨c0, c1, c2, c3, c4, c7, hbb⟩ := HA.out.cells
    have x1 := HXB.out.cell 1
    simp at x1
    have hw0 := HA.out.below.size
    have HAD := Lib.hid HA.out.drew
    have HXD := Lib.hid (((Chg.refl (fun _ => False) w1).drew).blk HXB.out id)
    go_region_law (refine step_app ElStrR (.tmp 19) (.tmp 22) ?_ ?_ (base := w0.heap.size) (n := b.T.length) (m := 1) (N := b.T.length + 1) (v := .slice A b.T.length c) (src := .slice (some ⟨w1.heap.size, 0, none⟩) 1 1) (xs := b.T.map Nv) (news := [.string (str t.s)]) ?_ ?_ ?_ ?_ ?_ ?_ ?_ ?_ ?_
                   · rfl
                   · rfl
                   · rfl
                   · rfl
                   · exact HAD.out.ft.alloc _
                   · exact src_str w1.drew _
                   · rfl
                   · unfold maxLen; omega
                   · omega
                   · simp; omega
                   intro A2 k2 w2 q1 q2 q3
                   have HQ1 := Lib.hid q1
                   have HQ3 := Lib.hid (show ((w1.drew.alloc (.cells #[.string (str t.s)] 9)).grownBy w2 (Value.slice A b.T.length c).ownBlock ∧ _) from q3)
                   have hX : Chg (fun k => (Value.slice A b.T.length c).ownBlock = some k) w1.drew w2 := ((Chg.refl _ w1.drew).alloc (.cells #[.string (str t.s)] 9)).next (.of_grown q3.1)
                   have hb2 := hX.blk HAD.out.blk (row_blk HAD.out.ft HAD.out.blk (by decide))
                   have hx2 := hX.blk HXD.out (row_blk HAD.out.ft HXD.out (by decide))
                   have z3 := hb2.cell 3
                   have zf := hb2.frozen 3
                   simp at z3
                   have HB2 := Lib.hid hb2
                   have HX2 := Lib.hid hx2
                   have HMT2 := Lib.hid (map_chg HAD.out.mt hX (map_apart HAD.out.mt HAD.out.ft))
                   clear q1 q2 q3 hX hb2 hx2)
    all_goals go_wp2
    all_goals have hne : xb ≠ bb := fun e => Blk.ne_ (t := 60) HXB.out HA.out.blk (by decide) e
    all_goals have HB3 := Lib.hid ((Chg.refl (fun _ => False) _).drew.blk (HB2.out.set_ 3 (.slice A2 (b.T.length + 1) k2)) id)
    all_goals have HX3 := Lib.hid ((Chg.refl (fun _ => False) _).drew.blk (HX2.out.far (p := ⟨bb, 3, none⟩) (by simpa using hne) (.slice A2 (b.T.length + 1) k2)) id)
    all_goals have HMT3 := Lib.hid (map_chg HMT2.out ((Chg.refl (· = bb) w2).set (p := ⟨bb, 3, none⟩) (.inr rfl) (.slice A2 (b.T.length + 1) k2)).drew (map_blk HAD.out.mt HAD.out.blk))
    all_goals obtain ⟨w4, hput, hm4, hg4⟩ := places_put HMT3.out (by omega) HT.out (c := b.T.length + 1) (by omega)
    all_goals have HF := Lib.hid (term_rel HAD.out HS.out hm2 HQ1.out HQ3.out hm4 hg4)
    all_goals clear hm4 hg4 c0 c1 c2 c3 c4 c7 x1 z3 zf HQ1 HQ3
    all_goals generalize hw3 : World.setCell w2 ⟨bb, 3, none⟩ (.slice A2 (b.T.length + 1) k2) = w3 at *
    all_goals clear hw3
    all_goals have y1 := HB3.out.cell 1
    all_goals have y3 := HB3.out.cell 3
    all_goals have x3 := HX3.out.cell 1
    all_goals simp at y1 y3 x3
    all_goals have hput2 := hput
    all_goals push_cast at hput2
    all_goals go_region
    all_goals go_end0
    all_goals refine ⟨HF.out.1.below, ?_⟩
    all_goals rw [HE.out]
    all_goals exact ⟨rfl, _, _, _, _, HF.out.1, HCW.out.next HF.out.2.1, HNW.out _ HF.out.2.2, Newer.refl _ _⟩
end Go.Proofs.YtnpjhndgdlihjaaDoor

namespace Go.Proofs.YtnpjhndgdlihjaaDoor
open Go.RowKit Go.Maps
set_option linter.unusedVariables false
theorem Rules.later {w w' : World} {B rb mb : Nat} {tb : Option Nat} {l : List Tk} {x : Txt} {dv kv sv rv : Value} {rs : List GRu} {D : DataW Unit} (h : Rules w B rb mb tb l x dv kv sv rv rs D) (hb : Below w.heap.size w w') : Rules w' B rb mb tb l x dv kv sv rv rs D := by
  have hc : Chg (fun _ => False) w w' := .of_below hb
  have hh := h.heads
  exact ⟨⟨hh.stand.chg hc id (fun _ _ => id), hc.own hh.decl (fun _ _ => id), hc.own hh.marks (fun _ _ => id), hc.own hh.starts (fun _ _ => id), hh.apart, hh.rbB, hh.tbB, Nat.le_trans hh.bB hc.size, hh.ld, hh.lm, hh.ls⟩, hc.own h.rules (fun _ _ => id), fun r hr => (h.good r hr).chg hc (fun _ _ _ => id), map_chg h.map hc id, h.lefts, h.mbB, h.mr, h.lr⟩
theorem drew_below (w : World) : Below w.heap.size w w.drew := ⟨rfl, rfl, rfl, Nat.le_refl _, fun _ _ => rfl⟩
theorem row_cell {w : World} {B : Nat} {e : TypeId} {s n : Nat} {v : Value} {xs : List Value} (h : w.ownsRow B e s v n xs) (hn : 0 < n) : ∃ g c, v = .slice (some ⟨g, 0, none⟩) n c ∧ ∀ j u, xs[j]? = some u → w.cell? ⟨g, j, none⟩ = some u := by
  rcases h.2 with ⟨rfl, rfl⟩ | ⟨g, cap, cur, rfl, _⟩
  · omega
  · refine ⟨g, cap, rfl, fun j u hu => ?_⟩
    have := h.cells rfl j u hu
    by_cases hj : j = 0
    · subst hj; simpa [Addr.add] using this
    · simpa [Addr.add, hj] using this
theorem left_count (rs : List GRu) (y : Txt) (h : rs.map GRu.r = y.rules) (s : Nme) : leftOf y s = decide ((rs.map fun r => r.left.s).count s ≠ 0) := by
  unfold leftOf
  rw [← h, List.any_map, Bool.eq_iff_iff, List.any_eq_true, decide_eq_true_eq, ← Nat.pos_iff_ne_zero, List.count_pos_iff]
  simp [GRu.r]
/-- A step that hands back nothing, or gives up. -/
def Unit_ (w : World) (r : Except Flt Unit) (e : Ending) (w' : World) : Prop :=
  Below w.heap.size w w' ∧ match r with
  | .ok _ => e = .returned (.tuple #[])
  | .error f => Gives f e
theorem start_any {w : World} {B rb mb bb : Nat} {tb : Option Nat} {l : List Tk} {x : Txt} {dv kv sv rv : Value} {rs : List GRu} {D : DataW Unit} (h : Rules w B rb mb tb l x dv kv sv rv rs D) (hb : w.cell? ⟨bb, 0, none⟩ = some (.pointer (some ⟨rb, 0, none⟩))) (hr : rs.map GRu.r = x.rules) {st : Tk} {sr : List Tk} (hs : x.starts = st :: sr) (hst : st.s.length ≤ 8192) : Calls Tryd.prog 94 #[.pointer (some ⟨bb, 0, none⟩)] w (Unit_ w (startT (leftOf x) st)) := by
  obtain ⟨_, _, c3, _, c5, _⟩ := h.heads.stand.cells
  obtain ⟨g, c, rfl, hg⟩ := row_cell h.heads.starts (by rw [hs]; simp)
  have g1 := hg 1 (.string (str st.s)) (by rw [hs]; rfl)
  have g2 := hg 2 (.int .i64 st.p) (by rw [hs]; rfl)
  have hlook := lefts_look (map_chg h.map ((Chg.refl (fun _ => False) w).drew) id) h.lefts hst
  have hn : (0 : Int) < (x.starts.length : Int) := by rw [hs, List.length_cons]; omega
  have HL := Lib.hid (left_count rs x hr st.s)
  clear hg hs h hr
  generalize x.starts.length = n at *
  generalize (rs.map fun r => r.left.s).count st.s = n0 at *
  by_cases h0 : n0 = 0
  · have HE : Hid (startT (leftOf x) st = .error (9, st.p)) := Lib.hid (by simp [startT, HL.out, h0])
    have q1 : ((n0 : Int) == 0) = true := by simp [h0]
    clear h0
    go_enter Tryd.func94, Tryd.ntmps94
    go_wp2_with fail
    go_region
    go_wp2_with (go_at_call 81; refine (fail_any _ _ _).mono ?_; rintro e w' ⟨rfl, hw'⟩; subst hw')
    refine ⟨rfl, drew_below w, ?_⟩
    rw [HE.out]
    exact Gives.of rfl rfl
  · have HE : Hid (startT (leftOf x) st = .ok ()) := Lib.hid (by simp [startT, HL.out, h0])
    have q1 : ((n0 : Int) == 0) = false := by simp; omega
    clear h0
    go_enter Tryd.func94, Tryd.ntmps94
    go_wp2_with fail
    go_region
    go_wp2
    go_end0
    refine ⟨drew_below w, ?_⟩
    rw [HE.out]
theorem second_any {w : World} {B rb mb bb : Nat} {tb : Option Nat} {l : List Tk} {x : Txt} {dv kv sv rv : Value} {rs : List GRu} {D : DataW Unit} (h : Rules w B rb mb tb l x dv kv sv rv rs D) (hb : w.cell? ⟨bb, 0, none⟩ = some (.pointer (some ⟨rb, 0, none⟩))) : Calls Tryd.prog 80 #[.pointer (some ⟨bb, 0, none⟩)] w fun e w' => e = .returned (.int .i64 (secondL x.marks)) ∧ w' = w := by
  obtain ⟨_, c2, _, _, _, _⟩ := h.heads.stand.cells
  by_cases hm : x.marks.length < 2
  · obtain ⟨A, c, rfl⟩ := own_shape h.heads.marks
    have HE : Hid (secondL x.marks = 8193) := Lib.hid (by
      match hh : x.marks, hm with
      | [], _ => rfl
      | [a], _ => rfl
      | a :: b :: r, hm => simp at hm; omega)
    have q1 : (x.marks.length : Int) < 2 := by omega
    clear h hm
    generalize x.marks.length = n at *
    go_enter Tryd.func80, Tryd.ntmps80
    go_wp2
    go_ret
    exact ⟨by rw [HE.out]; rfl, rfl⟩
  · obtain ⟨g, c, rfl, hg⟩ := row_cell h.heads.marks (by omega)
    obtain ⟨a, m, r, hx⟩ : ∃ a m r, x.marks = a :: m :: r := by
      match hh : x.marks, hm with
      | [], hm => simp at hm
      | [a], hm => simp at hm
      | a :: b :: r, _ => exact ⟨a, b, r, rfl⟩
    have g1 := hg 1 (.int .i64 m) (by rw [hx]; rfl)
    have HE : Hid (secondL x.marks = m) := Lib.hid (by rw [hx]; rfl)
    have q1 : ¬ (x.marks.length : Int) < 2 := by omega
    have q2 : (1 : Int) < (x.marks.length : Int) := by omega
    clear h hm hg hx
    generalize x.marks.length = n at *
    go_enter Tryd.func80, Tryd.ntmps80
    go_wp2
    go_ret
    exact ⟨by rw [HE.out]; rfl, rfl⟩
end Go.Proofs.YtnpjhndgdlihjaaDoor

namespace Go.Proofs.YtnpjhndgdlihjaaDoor
open Go.RowKit Go.Maps
set_option linter.unusedVariables false
theorem BAt.cell0 {w0 w : World} {bb tm nm rb : Nat} {tv nv gv : Value} {b : Bd} {gs : List GN} {DT DN : DataW Unit} (h : BAt w0 w bb tm nm rb tv nv gv b gs DT DN) {B mb : Nat} {tb : Option Nat} {l : List Tk} {x : Txt} {dv kv sv rv : Value} {rs : List GRu} {D : DataW Unit} (hr : Rules w0 B rb mb tb l x dv kv sv rv rs D) : w.cell? ⟨rb, 5, none⟩ = some (.map (some mb)) ∧ rb < w0.heap.size := by
  obtain ⟨_, _, _, _, c5, _⟩ := (hr.later h.below).heads.stand.cells
  exact ⟨c5, hr.heads.stand.lt.1⟩
set_option maxRecDepth 100000 in
set_option maxHeartbeats 3200000 in
theorem symbol_any {w0 w : World} {bb tm nm rb : Nat} {tv nv gv : Value} {b : Bd} {gs : List GN} {DT DN : DataW Unit} (h : BAt w0 w bb tm nm rb tv nv gv b gs DT DN) {B mb : Nat} {tb : Option Nat} {l : List Tk} {x : Txt} {dv kv sv rv : Value} {rs : List GRu} {D : DataW Unit} (hr : Rules w0 B rb mb tb l x dv kv sv rv rs D) (hrl : rs.map GRu.r = x.rules) (t : Tk) (ht : t.s.length ≤ 8192) (k : Nat) (K : Int) (hK : K = (k : Int)) :
    Calls Tryd.prog 83 #[.pointer (some ⟨bb, 0, none⟩), .agg #[.int .i64 t.k, .string (str t.s), .int .i64 t.p], .int .i64 K] w (BEnd w0 w bb tm nm rb tv nv gv gs (symbolB (leftOf x) b t k)) := by
  have HA := Lib.hid (h.alloc (.cells #[.int .i64 t.k, .string (str t.s), .int .i64 t.p] 60))
  have HCW := Lib.hid (((Chg.refl (Mine bb tm nm tv nv) w).alloc (.cells #[.int .i64 t.k, .string (str t.s), .int .i64 t.p] 60)).drew)
  have HNW : Hid (∀ v v', Newer ((w.alloc (.cells #[.int .i64 t.k, .string (str t.s), .int .i64 t.p] 60)).drew) v v' → Newer w v v') := Lib.hid (fun v v' h k hk => (h k hk).imp id (fun h => Nat.le_trans (by simp) h))
  have HXB := Lib.hid (Blk.new w 60 #[.int .i64 t.k, .string (str t.s), .int .i64 t.p])
  have HT := Lib.hid ht
  have HL := Lib.hid (left_count rs x hrl t.s)
  by_cases h8 : 8 ≤ k
  · have q1 : (8 : Int) ≤ K := by omega
    have HE : Hid (symbolB (leftOf x) b t k = .error (7, t.p)) := Lib.hid (by simp [symbolB, h8])
    clear h hr hrl ht hK h8
    go_enter Tryd.func83, Tryd.ntmps83
    go_wp2_with (go_at_call 81; refine (fail_any _ _ _).mono ?_; rintro e w' ⟨rfl, hw'⟩; subst hw')
    refine ⟨rfl, HA.out.below, ?_⟩
    rw [HE.out]
    exact Gives.of rfl rfl
  · have q1 : ¬ (8 : Int) ≤ K := by omega
    have HE8 : Hid (symbolB (leftOf x) b t k = if b.T.contains t.s then .ok b else if t.k = 2 then termB b t else if leftOf x t.s then .ok b else .error (9, t.p)) := Lib.hid (by simp [symbolB, h8, termB])
    clear h8 hK h
    have HR1 := Lib.hid (hr.later HA.out.below)
    clear hr hrl
    generalize hw1 : (w.alloc (.cells #[.int .i64 t.k, .string (str t.s), .int .i64 t.p] 60)) = w1 at *
    have hlook := places_look HA.out.drew.mt HA.out.pt ht
    obtain ⟨c0, c1, c2, c3, c4, c7, hbb⟩ := HA.out.cells
    have x0 := HXB.out.cell 0
    have x1 := HXB.out.cell 1
    have x2 := HXB.out.cell 2
    simp at x0 x1 x2
    by_cases hc : t.s ∈ b.T
    · have HE : Hid (symbolB (leftOf x) b t k = .ok b) := Lib.hid (by rw [HE8.out, if_pos (by simpa using hc)])
      rw [if_pos hc] at hlook
      generalize hn : b.T.idxOf t.s + 1 = n1 at *
      have q2 : (0 : Int) < (n1 : Int) := by omega
      clear hc hn ht
      go_enter Tryd.func83, Tryd.ntmps83
      go_wp2
      go_region
      go_wp2
      go_end0
      refine ⟨HA.out.drew.below, ?_⟩
      rw [HE.out]
      exact ⟨rfl, _, _, _, _, HA.out.drew, HCW.out, Newer.refl _ _, Newer.refl _ _⟩
    · rw [if_neg hc, show ((0 : Nat) : Int) = 0 from rfl] at hlook
      have HC := Lib.hid hc
      by_cases h2 : t.k = 2
      · have HE : Hid (symbolB (leftOf x) b t k = termB b t) := Lib.hid (by rw [HE8.out, if_neg (by simpa using hc), if_pos h2])
        have HTM := Lib.hid (bterm_any HA.out.drew t HT.out hc)
        have q2 : ((t.k : Int) == 2) = true := by simp [h2]
        clear hc ht h2
        cases hte : termB b t with
        | error f =>
          have HTE := Lib.hid hte
          clear hte
          go_enter Tryd.func83, Tryd.ntmps83
          go_wp2
          go_region
          go_wp2_with (go_at_call 95; refine HTM.out.mono ?_; intro e w2 hx; obtain ⟨hb2, hx⟩ := hx; rw [HTE.out] at hx; have hx : e = _ := hx; subst hx)
          refine ⟨rfl, hb2, ?_⟩
          rw [HE.out, HTE.out]
          exact Gives.of rfl rfl
        | ok b2 =>
          have HTE := Lib.hid hte
          clear hte
          go_enter Tryd.func83, Tryd.ntmps83
          go_wp2
          go_region
          go_wp2_with (go_at_call 95; refine HTM.out.mono ?_; intro e w2 hx; obtain ⟨hb2, hx⟩ := hx; rw [HTE.out] at hx; obtain ⟨rfl, hx⟩ := hx; have HB2 := Lib.hid hb2; have HX := Lib.hid hx; clear hb2 hx)
          go_end0
          refine ⟨HB2.out, ?_⟩
          rw [HE.out, HTE.out]
          obtain ⟨tv2, nv2, DT2, DN2, z1, z2, z3, z4⟩ := HX.out
          exact ⟨rfl, tv2, nv2, DT2, DN2, z1, HCW.out.next z2, HNW.out _ _ z3, HNW.out _ _ z4⟩
      · have q2 : ((t.k : Int) == 2) = false := by simp; omega
        have hlook2 := lefts_look (map_chg HR1.out.map ((Chg.refl (fun _ => False) w1).drew.drew) id) HR1.out.lefts ht
        obtain ⟨_, _, _, _, c5, _⟩ := HR1.out.heads.stand.cells
        generalize (rs.map fun r => r.left.s).count t.s = n0 at *
        by_cases h0 : n0 = 0
        · have HE : Hid (symbolB (leftOf x) b t k = .error (9, t.p)) := Lib.hid (by rw [HE8.out, if_neg (by simpa using hc), if_neg h2, HL.out]; simp [h0])
          have q3 : ((n0 : Int) == 0) = true := by simp [h0]
          clear hc ht h2 h0
          go_enter Tryd.func83, Tryd.ntmps83
          go_wp2
          go_region
          go_wp2
          go_region
          go_wp2_with (go_at_call 81; refine (fail_any _ _ _).mono ?_; rintro e w' ⟨rfl, hw'⟩; subst hw')
          refine ⟨rfl, HA.out.drew.drew.below, ?_⟩
          rw [HE.out]
          exact Gives.of rfl rfl
        · have HE : Hid (symbolB (leftOf x) b t k = .ok b) := Lib.hid (by rw [HE8.out, if_neg (by simpa using hc), if_neg h2, HL.out]; simp [h0])
          have q3 : ((n0 : Int) == 0) = false := by simp; omega
          clear hc ht h2 h0
          go_enter Tryd.func83, Tryd.ntmps83
          go_wp2
          go_region
          go_wp2
          go_region
          go_wp2
          go_end0
          refine ⟨HA.out.drew.drew.below, ?_⟩
          rw [HE.out]
          exact ⟨rfl, _, _, _, _, HA.out.drew.drew, HCW.out.drew, Newer.refl _ _, Newer.refl _ _⟩
end Go.Proofs.YtnpjhndgdlihjaaDoor

namespace Go.Proofs.YtnpjhndgdlihjaaDoor
open Go.RowKit Go.Maps
set_option linter.unusedVariables false
theorem left_rel {w0 w w2 w4 : World} {o : Obj} {bb tm nm rb : Nat} {tv nv gv : Value} {b : Bd} {gs : List GN} {DT DN : DataW Unit} {s : Nme} {A2 : Option Addr} {c2 : Nat}
    (h : BAt w0 w bb tm nm rb tv nv gv b gs DT DN) (hs : s ∉ b.N) (hlt : b.N.length < 120)
    (ho : w2.ownsRow w0.heap.size 9 1 (.slice A2 (b.N.length + 1) c2) (b.N.length + 1) (b.N.map Nv ++ [Nv s]))
    (hg : (w.alloc o).grownBy w2 nv.ownBlock ∧ ((Value.slice A2 (b.N.length + 1) c2).ownBlock = nv.ownBlock ∨ (Value.slice A2 (b.N.length + 1) c2).ownBlock = some (w.alloc o).heap.size))
    (hm : w4.ownsMap Tryd.prog 9 (plainElem Tryd.prog 3) nm (b.N.length + 1) (DN.put (klR s) (.lit (.int .i64 (b.N.length + 1 : Nat)))))
    (hg4 : (w2.setCell ⟨bb, 4, none⟩ (.slice A2 (b.N.length + 1) c2)).drew.grownBy w4 (some nm)) :
    BAt w0 w4 bb tm nm rb tv (.slice A2 (b.N.length + 1) c2) gv { b with N := b.N ++ [s] } gs DT (DN.put (klR s) (.lit (.int .i64 (b.N.length + 1 : Nat)))) ∧ Chg (Mine bb tm nm tv nv) w w4 ∧ Newer w nv (.slice A2 (b.N.length + 1) c2) := by
  have hX : Chg (fun k => nv.ownBlock = some k) w w2 := ((Chg.refl _ w).alloc o).next (.of_grown hg.1)
  have hXY : Chg (fun k => nv.ownBlock = some k ∨ k = bb) w (w2.setCell ⟨bb, 4, none⟩ (.slice A2 (b.N.length + 1) c2)).drew := ((hX.mono (fun i hi => .inl hi)).set (p := ⟨bb, 4, none⟩) (.inr (.inr rfl)) _).drew
  have h4 := Chg.of_map hg4
  have hY : Chg (fun k => (nv.ownBlock = some k ∨ k = bb) ∨ k = nm) w w4 := (hXY.mono (fun i hi => .inl hi)).next (h4.mono (fun i hi => .inr hi))
  have hbb := h.blk.lt
  have htm := map_lt h.mn
  have e1 : ¬ nv.ownBlock = some bb := row_blk h.fn h.blk (by decide)
  have e2 : ¬ nv.ownBlock = some nm := map_apart h.mn h.fn
  have e3 : nm ≠ bb := map_blk h.mn h.blk
  have e4 : tm ≠ bb := map_blk h.mt h.blk
  have e5 : ¬ nv.ownBlock = some tm := map_apart h.mt h.fn
  have hnew : ∀ k, (Value.slice A2 (b.N.length + 1) c2).ownBlock = some k → k ≠ bb ∧ k ≠ nm := by
    intro k hk
    rcases hg.2 with e | e
    · rw [e] at hk
      exact ⟨by rintro rfl; exact e1 hk, by rintro rfl; exact e2 hk⟩
    · rw [e] at hk
      cases hk
      exact ⟨by simp; omega, by simp; omega⟩
  have hrow : ∀ {e : TypeId} {sz n : Nat} {v : Value} {xs : List Value}, w.ownsRow w0.heap.size e sz v n xs → e ≠ 88 → (∀ k, nv.ownBlock = some k → ¬ v.ownBlock = some k) → w4.ownsRow w0.heap.size e sz v n xs := by
    intro e sz n v xs hr he hd
    refine hY.own hr ?_
    rintro k hk ((hh | rfl) | rfl)
    · exact hd k hh hk
    · exact row_blk hr h.blk he hk
    · exact map_apart h.mn hr hk
  have happ : ∀ {v : Value} {B n sz : Nat} {e : TypeId} {xs : List Value}, w.ownsRow B e sz v n xs → (∀ k, nv.ownBlock = some k → ¬ v.ownBlock = some k) → ∀ k, (Value.slice A2 (b.N.length + 1) c2).ownBlock = some k → ¬ v.ownBlock = some k := by
    intro v B n sz e xs hr hd k hk hv
    rcases hg.2 with e | e
    · rw [e] at hk; exact hd k hk hv
    · rw [e] at hk
      cases hk
      have := (own_ge hr _ hv).2
      simp at this
      omega
  refine ⟨?_, hY.mono ?_, ?_⟩
  rotate_left
  · rintro k ((hh | rfl) | rfl)
    · exact .inr (.inr (.inr (.inr hh)))
    · exact .inl rfl
    · exact .inr (.inr (.inl rfl))
  · intro k hk
    rcases hg.2 with e | e
    · exact .inl (e ▸ hk)
    · rw [e] at hk
      cases hk
      exact .inr (by simp)
  refine ⟨?_, ?_, hrow h.ft (by decide) (fun k hk hk2 => h.tn k hk2 hk), ?_, hrow h.fg (by decide) (fun k hk hk2 => own_apart h.fn h.fg (by decide) k hk hk2), h.names, fun q hq => hrow (h.rows q hq) (by decide) (h.nr q hq), fun k hk hk2 => happ h.ft (fun k hk hk2 => h.tn k hk2 hk) k hk2 hk, h.tr, fun q hq => happ (h.rows q hq) (h.nr q hq), ?_, by simpa using hm, h.pt, ?_, h.b0, h.b1, h.lt, by simp; omega, h.lr⟩
  · refine h.below.trans (hY.below h.below.size ?_)
    rintro k hk ((hh | rfl) | rfl)
    · have := (own_ge h.fn k hh).1; omega
    · have := h.b0.1; omega
    · have := h.b0.2.2; omega
  · refine h4.blk (cs := #[.pointer (some ⟨rb, 0, none⟩), .map (some tm), .map (some nm), tv, .slice A2 (b.N.length + 1) c2, .slice none 0 0, .int .i64 0, gv]) ?_ (fun e => e3 e.symm)
    have := (hX.blk h.blk e1).set_ 4 (.slice A2 (b.N.length + 1) c2)
    exact (Chg.refl (fun _ => False) _).drew.blk (by simpa using this) id
  · rw [List.map_append, show (b.N ++ [s]).length = b.N.length + 1 by simp]
    exact h4.own ((Chg.refl (fun _ => False) _).drew.own (own_far (by simpa using ho) (fun e => (hnew _ e).1 rfl) _) (fun _ _ => id)) (fun k hk e => (hnew k hk).2 e)
  · refine map_chg h.mt hY ?_
    rintro ((hh | hh) | hh)
    · exact e5 hh
    · exact e4 hh
    · exact h.b1 hh
  · exact h.pn.next (h.mn.tidy lawStrR) hs
theorem mem_take (s : Nme) : ∀ (L : List Nme) (D : Nat), s ∈ L.take D ↔ s ∈ L ∧ L.idxOf s < D := by
  intro L
  induction L with
  | nil => intro D; simp
  | cons a L ih =>
    intro D
    cases D with
    | zero => simp
    | succ D =>
      rw [List.take_succ_cons, List.mem_cons, List.mem_cons, ih D, List.idxOf_cons]
      by_cases e : a = s
      · subst e; simp
      · have h1 : (a == s) = false := by simpa using e
        have h2 : ¬ s = a := fun h => e h.symm
        simp [h1, h2]
end Go.Proofs.YtnpjhndgdlihjaaDoor

namespace Go.Proofs.YtnpjhndgdlihjaaDoor
open Go.RowKit Go.Maps
set_option linter.unusedVariables false
set_option maxRecDepth 100000 in
set_option maxHeartbeats 3200000 in
theorem left_any {w0 w : World} {bb tm nm rb : Nat} {tv nv gv : Value} {b : Bd} {gs : List GN} {DT DN : DataW Unit} (h : BAt w0 w bb tm nm rb tv nv gv b gs DT DN) (t : Tk) (ht : t.s.length ≤ 8192) (d : Nat) (K : Int) (hK : K = (d : Int)) :
    Calls Tryd.prog 55 #[.pointer (some ⟨bb, 0, none⟩), .agg #[.int .i64 t.k, .string (str t.s), .int .i64 t.p], .int .i64 K] w (BEnd w0 w bb tm nm rb tv nv gv gs (leftB d b t)) := by
  obtain ⟨A, c, rfl⟩ := own_shape h.fn
  have HA := Lib.hid (h.alloc (.cells #[.int .i64 t.k, .string (str t.s), .int .i64 t.p] 60))
  have HCW := Lib.hid ((((Chg.refl (Mine bb tm nm tv (.slice A b.N.length c)) w).alloc (.cells #[.int .i64 t.k, .string (str t.s), .int .i64 t.p] 60)).drew).drew)
  have HNW : Hid (∀ v', Newer ((w.alloc (.cells #[.int .i64 t.k, .string (str t.s), .int .i64 t.p] 60)).drew.drew.drew) (.slice A b.N.length c) v' → Newer w (.slice A b.N.length c) v') := Lib.hid (fun v' h k hk => (h k hk).imp id (fun h => Nat.le_trans (by simp) h))
  have HXB := Lib.hid (Blk.new w 60 #[.int .i64 t.k, .string (str t.s), .int .i64 t.p])
  have hwx : w.heap.size < (w.alloc (.cells #[.int .i64 t.k, .string (str t.s), .int .i64 t.p] 60)).heap.size := by simp
  have HT := Lib.hid ht
  have hln := h.ln
  clear h
  generalize hw1 : (w.alloc (.cells #[.int .i64 t.k, .string (str t.s), .int .i64 t.p] 60)) = w1 at *
  have hlook := places_look HA.out.drew.mt HA.out.pt ht
  obtain ⟨c0, c1, c2, c3, c4, c7, hbb⟩ := HA.out.cells
  have x0 := HXB.out.cell 0
  have x1 := HXB.out.cell 1
  have x2 := HXB.out.cell 2
  simp at x0 x1 x2
  by_cases hd : t.s ∈ b.T.take d
  · have HE : Hid (leftB d b t = .error (8, t.p)) := Lib.hid (by simp only [leftB]; rw [if_pos (by simpa using hd)])
    obtain ⟨hd1, hd2⟩ := (mem_take _ _ _).1 hd
    rw [if_pos hd1] at hlook
    have q1 : (0 : Int) < ((b.T.idxOf t.s + 1 : Nat) : Int) := by omega
    have q2 : ((b.T.idxOf t.s + 1 : Nat) : Int) ≤ K := by omega
    generalize b.T.idxOf t.s + 1 = n1 at *
    clear hd hd1 hd2 ht hK
    go_enter Tryd.func55, Tryd.ntmps55
    go_wp2
    go_region
    go_wp2_with (go_at_call 81; refine (fail_any _ _ _).mono ?_; rintro e w' ⟨rfl, hw'⟩; subst hw')
    refine ⟨rfl, HA.out.drew.below, ?_⟩
    rw [HE.out]
    exact Gives.of rfl rfl
  · have hB : ∃ n1 : Nat, (Instr.lookup 81 (.map (some tm)) (.string (str t.s)) false).run Tryd.prog w1.drew = .ok (.int .i64 (n1 : Int)) w1.drew ∧ (decide ((0 : Int) < (n1 : Int)) = false ∨ decide ((0 : Int) < (n1 : Int)) = true ∧ decide ((n1 : Int) ≤ K) = false) := by
      refine ⟨_, hlook, ?_⟩
      by_cases hm : t.s ∈ b.T
      · rw [if_pos hm]
        have : ¬ b.T.idxOf t.s < d := fun e => hd ((mem_take _ _ _).2 ⟨hm, e⟩)
        exact .inr ⟨by rw [decide_eq_true_eq]; omega, by rw [decide_eq_false_iff_not]; omega⟩
      · rw [if_neg hm]
        exact .inl rfl
    clear hlook
    obtain ⟨n1, hlook, hB⟩ := hB
    simp only [decide_eq_false_iff_not, decide_eq_true_eq] at hB
    have HE0 : Hid (leftB d b t = if b.N.contains t.s then .ok b else if 120 ≤ b.N.length then .error (7, t.p) else .ok { b with N := b.N ++ [t.s] }) := Lib.hid (by simp only [leftB]; rw [if_neg (by simpa using hd)])
    have hlook2 := places_look HA.out.drew.drew.mn HA.out.pn ht
    by_cases hc : t.s ∈ b.N
    · have HE : Hid (leftB d b t = .ok b) := Lib.hid (by rw [HE0.out, if_pos (by simpa using hc)])
      rw [if_pos hc] at hlook2
      have q3 : (0 : Int) < ((b.N.idxOf t.s + 1 : Nat) : Int) := by omega
      generalize b.N.idxOf t.s + 1 = n2 at *
      clear hd hc ht hK
      rcases hB with q1 | ⟨q1, q2⟩
      all_goals
        go_enter Tryd.func55, Tryd.ntmps55
        go_wp2
        go_region
        go_wp2
        go_region
        go_wp2
      all_goals refine bodyPost_ret (results_none rfl _ _ _) rfl ⟨HA.out.drew.drew.below, ?_⟩
      all_goals rw [HE.out]
      all_goals exact ⟨rfl, _, _, _, _, HA.out.drew.drew, HCW.out, Newer.refl _ _, Newer.refl _ _⟩
    · rw [if_neg hc, show ((0 : Nat) : Int) = 0 from rfl] at hlook2
      have HC := Lib.hid hc
      by_cases hm : 120 ≤ b.N.length
      · have HE : Hid (leftB d b t = .error (7, t.p)) := Lib.hid (by rw [HE0.out, if_neg (by simpa using hc), if_pos hm])
        have q3 : (120 : Int) ≤ (b.N.length : Int) := by omega
        clear hd hc ht hK hm
        generalize b.N.length = n at *
        rcases hB with q1 | ⟨q1, q2⟩
        all_goals
          go_enter Tryd.func55, Tryd.ntmps55
          go_wp2
          go_region
          go_wp2
          go_region
          go_wp2_with (go_at_call 81; refine (fail_any _ _ _).mono ?_; rintro e w' ⟨rfl, hw'⟩; subst hw')
        all_goals refine ⟨rfl, HA.out.drew.drew.below, ?_⟩
        all_goals rw [HE.out]
        all_goals exact Gives.of rfl rfl
      · have HE : Hid (leftB d b t = .ok { b with N := b.N ++ [t.s] }) := Lib.hid (by rw [HE0.out, if_neg (by simpa using hc), if_neg hm])
        have q3 : ¬ (120 : Int) ≤ (b.N.length : Int) := by omega
        have hm2 : b.N.length < 120 := by omega
        clear hd hc ht hK hm
        rcases hB with q1 | ⟨q1, q2⟩
        all_goals
          go_enter Tryd.func55, Tryd.ntmps55
          go_wp2
          go_region
          go_wp2
          go_region
          go_wp2
        all_goals have HA2 := Lib.hid HA.out.drew.drew
        all_goals have HXB2 := Lib.hid (((Chg.refl (fun _ => False) w1).drew.drew).blk HXB.out id)
        all_goals clear hlook hlook2 c0 c1 c2 c3 c4 c7 hbb x0 x1 x2
        all_goals generalize w1.drew.drew = wy at *
        all_goals obtain ⟨c0, c1, c2, c3, c4, c7, hbb⟩ := HA2.out.cells
        all_goals have x1 := HXB2.out.cell 1
        all_goals simp at x1
        all_goals have hw0 := HA2.out.below.size
        all_goals have hxy := HXB2.out.lt
        all_goals have HAD := Lib.hid HA2.out.drew
        all_goals have HXD := Lib.hid (((Chg.refl (fun _ => False) wy).drew).blk HXB2.out id)
        all_goals generalize w.heap.size = xb at *
        all_goals go_region_law (
          refine step_app ElStrR (.tmp 47) (.tmp 50) ?_ ?_ (base := w0.heap.size) (n := b.N.length) (m := 1) (N := b.N.length + 1) (v := .slice A b.N.length c) (src := .slice (some ⟨wy.heap.size, 0, none⟩) 1 1) (xs := b.N.map Nv) (news := [.string (str t.s)]) ?_ ?_ ?_ ?_ ?_ ?_ ?_ ?_ ?_
          · rfl
          · rfl
          · rfl
          · rfl
          · exact HAD.out.fn.alloc _
          · exact src_str wy.drew _
          · rfl
          · unfold maxLen; omega
          · omega
          · simp; omega
          intro A2 k2 w2 q1 q2 q3
          have HQ1 := Lib.hid q1
          have HQ3 := Lib.hid (show ((wy.drew.alloc (.cells #[.string (str t.s)] 9)).grownBy w2 (Value.slice A b.N.length c).ownBlock ∧ _) from q3)
          have hX : Chg (fun k => (Value.slice A b.N.length c).ownBlock = some k) wy.drew w2 := ((Chg.refl _ wy.drew).alloc (.cells #[.string (str t.s)] 9)).next (.of_grown q3.1)
          have hb2 := hX.blk HAD.out.blk (row_blk HAD.out.fn HAD.out.blk (by decide))
          have hx2 := hX.blk HXD.out (row_blk HAD.out.fn HXD.out (by decide))
          have z3 := hb2.cell 4
          have zf := hb2.frozen 4
          simp at z3
          have HB2 := Lib.hid hb2
          have HX2 := Lib.hid hx2
          have HMT2 := Lib.hid (map_chg HAD.out.mn hX (map_apart HAD.out.mn HAD.out.fn))
          clear q1 q2 q3 hX hb2 hx2)
        all_goals go_wp2
        all_goals have hne : xb ≠ bb := fun e => Blk.ne_ (t := 60) HXB2.out HA2.out.blk (by decide) e
        all_goals have HB3 := Lib.hid ((Chg.refl (fun _ => False) _).drew.blk (HB2.out.set_ 4 (.slice A2 (b.N.length + 1) k2)) id)
        all_goals have HX3 := Lib.hid ((Chg.refl (fun _ => False) _).drew.blk (HX2.out.far (p := ⟨bb, 4, none⟩) (by simpa using hne) (.slice A2 (b.N.length + 1) k2)) id)
        all_goals have HMT3 := Lib.hid (map_chg HMT2.out ((Chg.refl (· = bb) w2).set (p := ⟨bb, 4, none⟩) (.inr rfl) (.slice A2 (b.N.length + 1) k2)).drew (map_blk HAD.out.mn HAD.out.blk))
        all_goals obtain ⟨w4, hput, hm4, hg4⟩ := places_put HMT3.out (by omega) HT.out (c := b.N.length + 1) (by omega)
        all_goals have HF := Lib.hid (left_rel HAD.out HC.out hm2 HQ1.out HQ3.out hm4 hg4)
        all_goals clear hm4 hg4 c0 c1 c2 c3 c4 c7 x1 z3 zf HQ1 HQ3
        all_goals generalize hw3 : World.setCell w2 ⟨bb, 4, none⟩ (.slice A2 (b.N.length + 1) k2) = w3 at *
        all_goals clear hw3
        all_goals have y2 := HB3.out.cell 2
        all_goals have y4 := HB3.out.cell 4
        all_goals have x3 := HX3.out.cell 1
        all_goals simp at y2 y4 x3
        all_goals have hput2 := hput
        all_goals push_cast at hput2
        all_goals go_region
        all_goals go_end0
        all_goals refine ⟨HF.out.1.below, ?_⟩
        all_goals rw [HE.out]
        all_goals exact ⟨rfl, _, _, _, _, HF.out.1, HCW.out.drew.next HF.out.2.1, Newer.refl _ _, HNW.out _ HF.out.2.2⟩
end Go.Proofs.YtnpjhndgdlihjaaDoor
