/- slices.Equal, of rows of names. Whether a row of names is among those that have been built. The builder: a right side; what stands while its symbols are taken. The builder: a right side, the walk. The builder: what is declared. -/
import Derived.Test.YtnpjhndgdlihjaaDoorZg
import Derived.BigQuiet
import Derived.Shelf.Abstract
namespace Go.Proofs.YtnpjhndgdlihjaaDoor
open Go.RowKit Go.Maps
set_option linter.unusedVariables false
/-- The two lists are alike up to k. -/
def AlikeTo (a b : List Nme) (k : Nat) : Prop := ∀ j x y, j < k → a[j]? = some x → b[j]? = some y → x = y
theorem AlikeTo.next {a b : List Nme} {k : Nat} {x y : Nme} (h : AlikeTo a b k) (hx : a[k]? = some x) (hy : b[k]? = some y) (he : x = y) : AlikeTo a b (k + 1) := by
  intro j x' y' hj h1 h2
  by_cases e : j = k
  · subst e
    rw [hx] at h1; rw [hy] at h2; cases h1; cases h2; exact he
  · exact h j x' y' (by omega) h1 h2
theorem AlikeTo.all {a b : List Nme} (hl : a.length = b.length) (h : AlikeTo a b a.length) : (a == b) = true := by
  rw [beq_iff_eq]
  apply List.ext_getElem?
  intro j
  by_cases hj : j < a.length
  · rw [List.getElem?_eq_getElem hj, List.getElem?_eq_getElem (by omega)]
    rw [h j _ _ hj (List.getElem?_eq_getElem hj) (List.getElem?_eq_getElem (by omega))]
  · rw [List.getElem?_eq_none (by omega), List.getElem?_eq_none (by omega)]
theorem alike_no {a b : List Nme} {k : Nat} {x y : Nme} (hx : a[k]? = some x) (hy : b[k]? = some y) (hn : ¬ x = y) : (a == b) = false := by
  rw [beq_eq_false_iff_ne]
  rintro rfl
  rw [hx] at hy
  cases hy
  exact hn rfl
theorem str_inj {a b : List UInt8} (h : str a = str b) : a = b := by
  have := congrArg (fun x : ByteArray => x.data.toList) h
  simpa [str] using this
theorem bytes_eq {a b : ByteArray} (h : a.toList = b.toList) : a = b := by
  rw [ByteArray.toList_eq, ByteArray.toList_eq] at h
  exact ByteArray.ext (Array.ext' h)
set_option maxRecDepth 100000 in
set_option maxHeartbeats 1600000 in
theorem equalN_any {w : World} {B1 B2 : Nat} {u v : Value} {a b : List Nme} (ha : w.ownsRow B1 9 1 u a.length (a.map Nv)) (hb : w.ownsRow B2 9 1 v b.length (b.map Nv)) : Calls Tryd.prog 86 #[u, v] w fun e w' => e = .returned (.bool (a == b)) ∧ ∃ q, w' = w.drewN q := by
  obtain ⟨A, c, hu⟩ := own_shape ha
  obtain ⟨A2, c2, hv⟩ := own_shape hb
  have HCA := Lib.hid (fun (h : 0 < a.length) => row_cell ha h)
  have HCB := Lib.hid (fun (h : 0 < b.length) => row_cell hb h)
  have hal : a.length ≤ 9223372036854775807 := by
    rcases own_form ha with ⟨_, h0⟩ | ⟨_, c3, _, _, _, h1, h2, _⟩
    · omega
    · unfold maxLen at h2; omega
  subst hu
  subst hv
  clear ha hb
  by_cases hl : a.length = b.length
  · rw [← hl]
    have HL := Lib.hid hl
    rw [← hl] at HCB
    clear hl
    go_enter Tryd.func86, Tryd.ntmps86
    go_wp2
    go_loopw [5, 13] (fun _ i wr => ∃ k : Nat, k ≤ a.length ∧ i = .int .i64 k ∧ Hid (AlikeTo a b k) ∧ Hid (∃ q, wr = w.drewN q)) (fun _ i _ => a.length - (intOf i).toNat)
    case atStart => exact ⟨0, Nat.zero_le _, rfl, Lib.hid (fun j x y hj => absurd hj (Nat.not_lt_zero _)), Lib.hid ⟨0, rfl⟩⟩
    case round =>
      obtain ⟨k, hk, rfl, HE, HD⟩ := hrel
      by_cases hlt : k < a.length
      · have hx := List.getElem?_eq_getElem hlt
        have hy := List.getElem?_eq_getElem (show k < b.length by have := HL.out; omega)
        generalize a[k] = x at hx
        generalize b[k]'(by have := HL.out; omega) = y at hy
        obtain ⟨g1, d1, e1, hcell1⟩ := HCA.out (by omega)
        obtain ⟨g2, d2, e2, hcell2⟩ := HCB.out (by omega)
        cases e1
        cases e2
        have HX := Lib.hid hx
        have HY := Lib.hid hy
        have e1 : wr.cell? ⟨g1, k, none⟩ = some (.string (str x)) := by obtain ⟨q, rfl⟩ := HD.out; exact hcell1 k _ (by rw [List.getElem?_map, hx]; rfl)
        have e2 : wr.cell? ⟨g2, k, none⟩ = some (.string (str y)) := by obtain ⟨q, rfl⟩ := HD.out; exact hcell2 k _ (by rw [List.getElem?_map, hy]; rfl)
        clear hx hy hcell1 hcell2
        by_cases hxy : x = y
        · have HN := Lib.hid (HE.out.next HX.out HY.out hxy)
          have hb : ((str x).toList == (str y).toList) = true := by subst hxy; exact beq_self_eq_true _
          generalize str x = sx at *
          generalize str y = sy at *
          clear hxy
          go_wp2
          go_quiet (fail)
          have HDD : Hid (∃ q, wr.drewN nq = w.drewN q) := Lib.hid (by
            obtain ⟨q, hq⟩ := HD.out
            exact ⟨q + nq, by rw [hq, World.drewN_drewN]⟩)
          go_wp2
          go_roundw
          case rel => exact ⟨k + 1, by omega, by go_num, HN, HDD⟩
          case measure => simp [intOf]; omega
        · have HN := Lib.hid (alike_no HX.out HY.out hxy)
          have hb : ((str x).toList == (str y).toList) = false := beq_eq_false_iff_ne.2 (fun h => hxy (str_inj (bytes_eq h)))
          generalize str x = sx at *
          generalize str y = sy at *
          clear hxy
          go_wp2
          go_quiet (fail)
          go_wp2
          go_ret
          obtain ⟨q, rfl⟩ := HD.out
          exact ⟨ret_bool HN.out.symm, _, World.drewN_drewN _ _ _⟩
      · obtain rfl : k = a.length := by omega
        have HN := Lib.hid (HE.out.all HL.out)
        go_wp2
        go_ret
        exact ⟨ret_bool HN.out.symm, HD.out⟩
  · have q1 : ((a.length : Int) != (b.length : Int)) = true := bne_iff_ne.2 (by omega)
    have HN : Hid ((a == b) = false) := Lib.hid (by rw [beq_eq_false_iff_ne]; rintro rfl; exact hl rfl)
    clear hl
    generalize a.length = n1 at *
    generalize b.length = n2 at *
    go_enter Tryd.func86, Tryd.ntmps86
    go_wp2
    go_ret
    exact ⟨ret_bool HN.out.symm, 0, rfl⟩
end Go.Proofs.YtnpjhndgdlihjaaDoor

namespace Go.Proofs.YtnpjhndgdlihjaaDoor
open Go.RowKit Go.Maps
set_option linter.unusedVariables false
theorem sideq_any {w : World} {B1 B2 : Nat} {p : Addr} {u v : Value} {a b : List Nme} (ha : w.ownsRow B1 9 1 u a.length (a.map Nv)) (hb : w.ownsRow B2 9 1 v b.length (b.map Nv)) (hp : w.cell? p = some u) : Calls Tryd.prog 85 #[v, .pointer (some p)] w fun e w' => e = .returned (.bool (a == b)) ∧ ∃ q, w' = w.drewN q := by
  have HE := Lib.hid (equalN_any ha hb)
  clear ha hb
  go_enter Tryd.func85, Tryd.ntmps85
  go_wp2_with (go_at_call 86; refine HE.out.mono ?_; intro e w' hx; obtain ⟨rfl, hq⟩ := hx)
  go_ret
  exact ⟨rfl, hq⟩
theorem none_so {α : Type} {p : α → Bool} {l : List α} {k : Nat} {x : α} (hx : l[k]? = some x) (hp : p x = false) (hA : ∀ j y, j < k → l[j]? = some y → p y = false) : ∀ j y, j < k + 1 → l[j]? = some y → p y = false := by
  intro j y hj hy
  by_cases e : j = k
  · subst e
    rw [hx] at hy
    cases hy
    exact hp
  · exact hA j y (by omega) hy
set_option maxRecDepth 100000 in
set_option maxHeartbeats 2000000 in
theorem idxN_any {w : World} {B : Nat} {v : Value} {l : List GN} (H : w.ownsRow B 27 1 v l.length (l.map GN.v)) (p : List Nme → Bool) (g : Nat) (lb : Array Value) (eg : ∀ args y, (callFunc g args).run Tryd.prog y = .ok (.enter g args) y)
    (hp : ∀ x ∈ l, ∀ y, Below w.heap.size w y → Calls Tryd.prog g (#[x.v] ++ lb) y (fun e w' => e = .returned (.bool (p x.l)) ∧ Below y.heap.size y w')) :
    Calls Tryd.prog 96 #[v, .func (.func g) #[] lb] w fun e w' => (∃ i : Int, e = .returned (.int .i64 i) ∧ ((∃ x ∈ l, p x.l = true) ∧ 0 ≤ i ∨ (∀ x ∈ l, p x.l = false) ∧ i = -1)) ∧ Below w.heap.size w w' := by
  obtain ⟨A, c, rfl⟩ := own_shape H
  have hal : l.length ≤ 9223372036854775807 := by
    rcases own_form H with ⟨_, h0⟩ | ⟨_, c3, _, _, _, h1, h2, _⟩
    · omega
    · unfold maxLen at h2; omega
  have HC := Lib.hid (fun (h : 0 < l.length) => row_cell H h)
  have HP := Lib.hid hp
  clear H hp
  go_enter Tryd.func96, Tryd.ntmps96
  go_wp2
  go_loopw [5, 8] (fun _ i wr => ∃ k : Nat, k ≤ l.length ∧ i = .int .i64 k ∧ Hid (∀ j y, j < k → l[j]? = some y → p y.l = false) ∧ Hid (Below w.heap.size w wr)) (fun _ i _ => l.length - (intOf i).toNat)
  case atStart => exact ⟨0, Nat.zero_le _, rfl, Lib.hid (fun j y hj => absurd hj (Nat.not_lt_zero _)), Lib.hid (Below.refl _ w)⟩
  case round =>
    obtain ⟨k, hk, rfl, HA, HB⟩ := hrel
    by_cases hlt : k < l.length
    · have hx := List.getElem?_eq_getElem hlt
      generalize l[k] = x at hx
      have hm := List.mem_of_getElem? hx
      obtain ⟨b, c2, e1, hcell⟩ := HC.out (by omega)
      cases e1
      have hcx := hcell k x.v (by rw [List.getElem?_map, hx]; rfl)
      have hcw := (HB.out.cell (p := ⟨b, k, none⟩) (World.block_lt_of_cell? w _ hcx)).trans hcx
      have HCALL := Lib.hid (HP.out x hm wr HB.out)
      have HX := Lib.hid hx
      have HM := Lib.hid hm
      clear hx hcell hm hcx HC
      cases hq : p x.l with
      | true =>
        rw [hq] at HCALL
        have HQ := Lib.hid hq
        clear hq
        go_wp2_with (go_at_fn g; refine HCALL.out.mono ?_; rintro e w' ⟨rfl, hb'⟩; have HB' := Lib.hid (HB.out.trans (hb'.mono HB.out.size)); clear hb')
        go_ret
        exact ⟨⟨_, rfl, .inl ⟨⟨x, HM.out, HQ.out⟩, by omega⟩⟩, HB'.out⟩
      | false =>
        rw [hq] at HCALL
        have HN := Lib.hid (none_so (p := fun y : GN => p y.l) HX.out hq HA.out)
        clear hq
        go_wp2_with (go_at_fn g; refine HCALL.out.mono ?_; rintro e w' ⟨rfl, hb'⟩; have HB' := Lib.hid (HB.out.trans (hb'.mono HB.out.size)); clear hb')
        go_roundw
        case rel => exact ⟨k + 1, by omega, by go_num, HN, HB'⟩
        case measure => simp [intOf]; omega
    · obtain rfl : k = l.length := by omega
      have HI : Hid (∀ x ∈ l, p x.l = false) := Lib.hid (fun x hx => by
        obtain ⟨j, hj⟩ := List.mem_iff_getElem?.1 hx
        exact HA.out j x (List.getElem?_eq_some_iff.1 hj).1 hj)
      go_wp2
      go_ret
      exact ⟨⟨_, rfl, .inr ⟨HI.out, rfl⟩⟩, HB.out⟩
theorem conN_any {w : World} {B : Nat} {v : Value} {l : List GN} (H : w.ownsRow B 27 1 v l.length (l.map GN.v)) (p : List Nme → Bool) (g : Nat) (lb : Array Value) (eg : ∀ args y, (callFunc g args).run Tryd.prog y = .ok (.enter g args) y)
    (hp : ∀ x ∈ l, ∀ y, Below w.heap.size w y → Calls Tryd.prog g (#[x.v] ++ lb) y (fun e w' => e = .returned (.bool (p x.l)) ∧ Below y.heap.size y w')) :
    Calls Tryd.prog 84 #[v, .func (.func g) #[] lb] w fun e w' => e = .returned (.bool ((l.map GN.l).any p)) ∧ Below w.heap.size w w' := by
  have HI := Lib.hid (idxN_any H p g lb eg hp)
  obtain ⟨A, c, rfl⟩ := own_shape H
  clear H hp eg
  generalize l.length = n at *
  have HYES : Hid ((∃ x ∈ l, p x.l = true) → (l.map GN.l).any p = true) := Lib.hid (fun ⟨x, h1, h2⟩ => by rw [List.any_eq_true]; exact ⟨x.l, List.mem_map_of_mem h1, h2⟩)
  have HNO : Hid ((∀ x ∈ l, p x.l = false) → (l.map GN.l).any p = false) := Lib.hid (fun h => by rw [List.any_eq_false]; intro y hy; obtain ⟨x, hx, rfl⟩ := List.mem_map.1 hy; rw [h x hx]; simp)
  go_enter Tryd.func84, Tryd.ntmps84
  go_wp2_with (go_at_call 96; refine HI.out.mono ?_; intro e w' hx; obtain ⟨⟨i, rfl, hi⟩, hb⟩ := hx; have HIX := Lib.hid hi; have HB := Lib.hid hb; clear hi hb)
  go_ret
  refine ⟨ret_bool ?_, HB.out⟩
  rcases HIX.out with ⟨h1, h2⟩ | ⟨h1, rfl⟩
  · rw [HYES.out h1]; simpa using h2
  · rw [HNO.out h1]; rfl
end Go.Proofs.YtnpjhndgdlihjaaDoor

namespace Go.Proofs.YtnpjhndgdlihjaaDoor
open Go.RowKit Go.Maps
set_option linter.unusedVariables false
/-- Nothing that the builder has built has turned. -/
theorem BAt.past {X : Nat → Prop} {w0 w w' : World} {bb tm nm rb : Nat} {tv nv gv : Value} {b : Bd} {gs : List GN} {DT DN : DataW Unit} (h : BAt w0 w bb tm nm rb tv nv gv b gs DT DN) (hc : Chg X w w') (h0 : ∀ k, k < w0.heap.size → ¬ X k)
    (hb : ¬ X bb) (hm : ¬ X tm) (hn : ¬ X nm) (ht : ∀ g, tv.ownBlock = some g → ¬ X g) (hv : ∀ g, nv.ownBlock = some g → ¬ X g) (hg : ∀ g, gv.ownBlock = some g → ¬ X g) (hq : ∀ q ∈ gs, ∀ g, q.v.ownBlock = some g → ¬ X g) : BAt w0 w' bb tm nm rb tv nv gv b gs DT DN where
  below := h.below.trans (hc.below h.below.size h0)
  blk := hc.blk h.blk hb
  ft := hc.own h.ft ht
  fn := hc.own h.fn hv
  fg := hc.own h.fg hg
  names := h.names
  rows q hqq := hc.own (h.rows q hqq) (hq q hqq)
  tn := h.tn
  tr := h.tr
  nr := h.nr
  mt := map_chg h.mt hc hm
  mn := map_chg h.mn hc hn
  pt := h.pt
  pn := h.pn
  b0 := h.b0
  b1 := h.b1
  lt := h.lt
  ln := h.ln
  lr := h.lr
/-- The blocks that a right side may turn. -/
def MineG (bb tm nm : Nat) (tv nv gv : Value) (k : Nat) : Prop := Mine bb tm nm tv nv k ∨ gv.ownBlock = some k
theorem Newer.mine {w : World} {bb tm nm : Nat} {tv nv tv' nv' : Value} (h1 : Newer w tv tv') (h2 : Newer w nv nv') : ∀ i, i < w.heap.size → Mine bb tm nm tv' nv' i → Mine bb tm nm tv nv i := by
  intro i hi h
  rcases h with h | h | h | h | h
  · exact .inl h
  · exact .inr (.inl h)
  · exact .inr (.inr (.inl h))
  · rcases h1 i h with h | h
    · exact .inr (.inr (.inr (.inl h)))
    · omega
  · rcases h2 i h with h | h
    · exact .inr (.inr (.inr (.inr h)))
    · omega
theorem Newer.next {w w1 : World} {u v x : Value} (h1 : Newer w u v) (h2 : Newer w1 v x) (hs : w.heap.size ≤ w1.heap.size) : Newer w u x := by
  intro k hk
  rcases h2 k hk with h | h
  · exact h1 k h
  · exact .inr (Nat.le_trans hs h)
/-- What stands while a right side's symbols are taken; done: those that have been. -/
structure SymsAt (w0 w : World) (bb tm nm rb : Nat) (tv0 nv0 gv : Value) (gs : List GN) (xb sb : Nat) (sv : Value) (p : Nat) (left : Nme) (done : List Nme) (b : Bd) (tv nv xv : Value) (DT DN : DataW Unit) (wr : World) : Prop where
  at_ : BAt w0 wr bb tm nm rb tv nv gv b gs DT DN
  box : Blk wr xb 27 #[xv]
  sbox : Blk wr sb 116 #[sv, .int .i64 p]
  own : wr.ownsRow w.heap.size 9 1 xv (done.length + 1) ((left :: done).map Nv)
  xt : ∀ k, xv.ownBlock = some k → ¬ tv.ownBlock = some k
  xn : ∀ k, xv.ownBlock = some k → ¬ nv.ownBlock = some k
  chg : Chg (Mine bb tm nm tv0 nv0) w wr
  nt : Newer w tv0 tv
  nn : Newer w nv0 nv
  hx : w.heap.size ≤ xb
  hs : w.heap.size ≤ sb
  h0 : w0.heap.size ≤ w.heap.size
  hg : ∀ k, gv.ownBlock = some k → k < w.heap.size
  hq : ∀ q ∈ gs, ∀ k, q.v.ownBlock = some k → k < w.heap.size
theorem mine_no {w0 w : World} {bb tm nm rb g : Nat} {tv nv gv : Value} {b : Bd} {gs : List GN} {DT DN : DataW Unit} {t : TypeId} {cs : Array Value} (h : BAt w0 w bb tm nm rb tv nv gv b gs DT DN) (hb : Blk w g t cs) (h1 : t ≠ 88) (h2 : t ≠ 9) : ¬ Mine bb tm nm tv nv g := by
  rintro (rfl | rfl | rfl | hh | hh)
  · exact Blk.ne_ hb h.blk h1 rfl
  · exact map_blk h.mt hb rfl
  · exact map_blk h.mn hb rfl
  · exact row_blk h.ft hb (Ne.symm h2) hh
  · exact row_blk h.fn hb (Ne.symm h2) hh
theorem mineG_no {w0 w : World} {bb tm nm rb g : Nat} {tv nv gv : Value} {b : Bd} {gs : List GN} {DT DN : DataW Unit} {t : TypeId} {cs : Array Value} (h : BAt w0 w bb tm nm rb tv nv gv b gs DT DN) (hb : Blk w g t cs) (h1 : t ≠ 88) (h2 : t ≠ 9) (h3 : t ≠ 27) : ¬ MineG bb tm nm tv nv gv g := by
  rintro (hh | hh)
  · exact mine_no h hb h1 h2 hh
  · exact row_blk h.fg hb (Ne.symm h3) hh
namespace SymsAt
variable {w0 w wr : World} {bb tm nm rb : Nat} {tv0 nv0 gv : Value} {gs : List GN} {xb sb : Nat} {sv : Value} {p : Nat} {left : Nme} {done : List Nme} {b : Bd} {tv nv xv : Value} {DT DN : DataW Unit}
theorem later (h : SymsAt w0 w bb tm nm rb tv0 nv0 gv gs xb sb sv p left done b tv nv xv DT DN wr) {w' : World} (hb : Below wr.heap.size wr w') : SymsAt w0 w bb tm nm rb tv0 nv0 gv gs xb sb sv p left done b tv nv xv DT DN w' := by
  have hc : Chg (fun _ => False) wr w' := .of_below hb
  exact ⟨h.at_.chg hc (fun _ _ => id), hc.blk h.box id, hc.blk h.sbox id, hc.own h.own (fun _ _ => id), h.xt, h.xn, h.chg.next (.of_below hb), h.nt, h.nn, h.hx, h.hs, h.h0, h.hg, h.hq⟩
theorem alloc (h : SymsAt w0 w bb tm nm rb tv0 nv0 gv gs xb sb sv p left done b tv nv xv DT DN wr) (o : Obj) : SymsAt w0 w bb tm nm rb tv0 nv0 gv gs xb sb sv p left done b tv nv xv DT DN (wr.alloc o) := h.later (below_alloc wr o)
theorem drew (h : SymsAt w0 w bb tm nm rb tv0 nv0 gv gs xb sb sv p left done b tv nv xv DT DN wr) : SymsAt w0 w bb tm nm rb tv0 nv0 gv gs xb sb sv p left done b tv nv xv DT DN wr.drew := h.later (drew_below wr)
/-- A symbol has been taken. -/
theorem sym (h : SymsAt w0 w bb tm nm rb tv0 nv0 gv gs xb sb sv p left done b tv nv xv DT DN wr) {w2 : World} {b' : Bd} {tv' nv' : Value} {DT' DN' : DataW Unit} (ha : BAt w0 w2 bb tm nm rb tv' nv' gv b' gs DT' DN') (hc : Chg (Mine bb tm nm tv nv) wr w2) (ht : Newer wr tv tv') (hn : Newer wr nv nv') :
    SymsAt w0 w bb tm nm rb tv0 nv0 gv gs xb sb sv p left done b' tv' nv' xv DT' DN' w2 := by
  have hno : ∀ k, xv.ownBlock = some k → ¬ Mine bb tm nm tv nv k := by
    rintro k hk (rfl | rfl | rfl | hh | hh)
    · exact row_blk h.own h.at_.blk (by decide) hk
    · exact map_apart h.at_.mt h.own hk
    · exact map_apart h.at_.mn h.own hk
    · exact h.xt k hk hh
    · exact h.xn k hk hh
  have hsz := h.chg.size
  refine ⟨ha, hc.blk h.box (mine_no h.at_ h.box (by decide) (by decide)), hc.blk h.sbox (mine_no h.at_ h.sbox (by decide) (by decide)), hc.own h.own hno, ?_, ?_, h.chg.trans hc (fun i hi => h.nt.mine h.nn i hi), h.nt.next ht hsz, h.nn.next hn hsz, h.hx, h.hs, h.h0, h.hg, h.hq⟩
  · intro k hk hh
    rcases ht k hh with e | e
    · exact h.xt k hk e
    · have := (own_ge h.own k hk).2; omega
  · intro k hk hh
    rcases hn k hh with e | e
    · exact h.xn k hk e
    · have := (own_ge h.own k hk).2; omega
/-- A name has been appended. -/
theorem app (h : SymsAt w0 w bb tm nm rb tv0 nv0 gv gs xb sb sv p left done b tv nv xv DT DN wr) {w2 : World} {o : Obj} {A2 : Option Addr} {c2 : Nat} {s : Nme}
    (ho : w2.ownsRow w.heap.size 9 1 (.slice A2 (done.length + 1 + 1) c2) (done.length + 1 + 1) ((left :: done).map Nv ++ [Nv s]))
    (hg : (wr.alloc o).grownBy w2 xv.ownBlock ∧ ((Value.slice A2 (done.length + 1 + 1) c2).ownBlock = xv.ownBlock ∨ (Value.slice A2 (done.length + 1 + 1) c2).ownBlock = some (wr.alloc o).heap.size)) :
    SymsAt w0 w bb tm nm rb tv0 nv0 gv gs xb sb sv p left (done ++ [s]) b tv nv (.slice A2 (done.length + 1 + 1) c2) DT DN (w2.setCell ⟨xb, 0, none⟩ (.slice A2 (done.length + 1 + 1) c2)) := by
  have hX : Chg (fun k => xv.ownBlock = some k) wr w2 := ((Chg.refl _ wr).alloc o).next (.of_grown hg.1)
  have hY : Chg (fun k => xv.ownBlock = some k ∨ k = xb) wr (w2.setCell ⟨xb, 0, none⟩ (.slice A2 (done.length + 1 + 1) c2)) := (hX.mono (fun i hi => .inl hi)).set (p := ⟨xb, 0, none⟩) (.inr (.inr rfl)) _
  have hge : ∀ k, xv.ownBlock = some k → w.heap.size ≤ k ∧ k < wr.heap.size := fun k hk => own_ge h.own k hk
  have hxb := h.box.lt
  have hw0 := h.h0
  have hx := h.hx
  have e1 : ¬ xv.ownBlock = some xb := row_blk h.own h.box (by decide)
  have e2 : ¬ (xv.ownBlock = some sb ∨ sb = xb) := by
    rintro (e | rfl)
    · exact row_blk h.own h.sbox (by decide) e
    · exact Blk.ne_ h.sbox h.box (by decide) rfl
  have hnew : ∀ k, (Value.slice A2 (done.length + 1 + 1) c2).ownBlock = some k → xv.ownBlock = some k ∨ wr.heap.size ≤ k := by
    intro k hk
    rcases hg.2 with e | e
    · exact .inl (e ▸ hk)
    · rw [e] at hk; cases hk; exact .inr (by simp)
  refine ⟨h.at_.past hY ?_ ?_ ?_ ?_ ?_ ?_ ?_ ?_, ?_, hY.blk h.sbox e2, ?_, ?_, ?_, (h.chg.trans (hY.mono (Y := fun k => w.heap.size ≤ k) ?_) (fun i hi hh => by omega)), h.nt, h.nn, h.hx, h.hs, h.h0, h.hg, h.hq⟩
  · rintro k hk (hh | hh)
    · have := (hge k hh).1; omega
    · omega
  · rintro (hh | hh)
    · exact row_blk h.own h.at_.blk (by decide) hh
    · subst hh; exact Blk.ne_ h.box h.at_.blk (by decide) rfl
  · rintro (hh | hh)
    · exact map_apart h.at_.mt h.own hh
    · exact map_blk h.at_.mt h.box hh
  · rintro (hh | hh)
    · exact map_apart h.at_.mn h.own hh
    · exact map_blk h.at_.mn h.box hh
  · rintro g hgg (hh | hh)
    · exact h.xt g hh hgg
    · subst hh; exact row_blk h.at_.ft h.box (by decide) hgg
  · rintro g hgg (hh | hh)
    · exact h.xn g hh hgg
    · subst hh; exact row_blk h.at_.fn h.box (by decide) hgg
  · rintro g hgg (hh | hh)
    · have := h.hg g hgg; have := (hge g hh).1; omega
    · have := h.hg g hgg; omega
  · rintro q hq g hgg (hh | hh)
    · have := h.hq q hq g hgg; have := (hge g hh).1; omega
    · have := h.hq q hq g hgg; omega
  · simpa using (hX.blk h.box e1).set_ 0 (.slice A2 (done.length + 1 + 1) c2)
  · rw [show (done ++ [s]).length + 1 = done.length + 1 + 1 by simp, show (left :: (done ++ [s])).map Nv = (left :: done).map Nv ++ [Nv s] by simp]
    refine own_far ho ?_ _
    intro e
    rcases hnew _ e with e | e
    · exact e1 e
    · simp at e; omega
  · intro k hk hh
    rcases hnew k hk with e | e
    · exact h.xt k e hh
    · have := (own_ge h.at_.ft k hh).2; omega
  · intro k hk hh
    rcases hnew k hk with e | e
    · exact h.xn k e hh
    · have := (own_ge h.at_.fn k hh).2; omega
  · rintro i (hh | hh)
    · exact (hge i hh).1
    · omega
end SymsAt
/-- A rule by names has been appended. -/
theorem gn_rel {w0 w w2 : World} {bb tm nm rb : Nat} {tv nv gv xv : Value} {b : Bd} {gs : List GN} {DT DN : DataW Unit} {x : List Nme} {A2 : Option Addr} {c2 : Nat} {o : Obj}
    (h : BAt w0 w bb tm nm rb tv nv gv b gs DT DN) (hx : w.ownsRow w0.heap.size 9 1 xv x.length (x.map Nv)) (hxt : ∀ k, xv.ownBlock = some k → ¬ tv.ownBlock = some k) (hxn : ∀ k, xv.ownBlock = some k → ¬ nv.ownBlock = some k) (hlt : b.R.length < 300)
    (ho : w2.ownsRow w0.heap.size 27 1 (.slice A2 (gs.length + 1) c2) (gs.length + 1) (gs.map GN.v ++ [xv]))
    (hg : (w.alloc o).grownBy w2 gv.ownBlock ∧ ((Value.slice A2 (gs.length + 1) c2).ownBlock = gv.ownBlock ∨ (Value.slice A2 (gs.length + 1) c2).ownBlock = some (w.alloc o).heap.size)) :
    BAt w0 (w2.setCell ⟨bb, 7, none⟩ (.slice A2 (gs.length + 1) c2)) bb tm nm rb tv nv (.slice A2 (gs.length + 1) c2) { b with R := b.R ++ [x] } (gs ++ [⟨xv, x⟩]) DT DN ∧ Chg (fun k => gv.ownBlock = some k ∨ k = bb) w (w2.setCell ⟨bb, 7, none⟩ (.slice A2 (gs.length + 1) c2)) := by
  have hX : Chg (fun k => gv.ownBlock = some k) w w2 := ((Chg.refl _ w).alloc o).next (.of_grown hg.1)
  have hY : Chg (fun k => gv.ownBlock = some k ∨ k = bb) w (w2.setCell ⟨bb, 7, none⟩ (.slice A2 (gs.length + 1) c2)) := (hX.mono (fun i hi => .inl hi)).set (p := ⟨bb, 7, none⟩) (.inr (.inr rfl)) _
  have e1 : ¬ gv.ownBlock = some bb := row_blk h.fg h.blk (by decide)
  have hrow : ∀ {n : Nat} {v : Value} {xs : List Value}, w.ownsRow w0.heap.size 9 1 v n xs → (w2.setCell ⟨bb, 7, none⟩ (.slice A2 (gs.length + 1) c2)).ownsRow w0.heap.size 9 1 v n xs := by
    intro n v xs hr
    refine hY.own hr ?_
    rintro k hk (hh | rfl)
    · exact own_apart hr h.fg (by decide) k hk hh
    · exact row_blk hr h.blk (by decide) hk
  have hbb := h.blk.lt
  refine ⟨⟨?_, ?_, hrow h.ft, hrow h.fn, ?_, by rw [List.map_append, h.names]; rfl, ?_, h.tn, ?_, ?_, map_chg h.mt hY ?_, map_chg h.mn hY ?_, h.pt, h.pn, h.b0, h.b1, h.lt, h.ln, by simp; omega⟩, hY⟩
  · refine h.below.trans (hY.below h.below.size ?_)
    rintro k hk (hh | hh)
    · have := (own_ge h.fg k hh).1; omega
    · have := h.b0.1; omega
  · simpa using (hX.blk h.blk e1).set_ 7 (.slice A2 (gs.length + 1) c2)
  · rw [show (gs ++ [(⟨xv, x⟩ : GN)]).length = gs.length + 1 by simp, List.map_append]
    refine own_far ho ?_ _
    intro e
    rcases hg.2 with e2 | e2
    · exact e1 (e2 ▸ e)
    · rw [e2] at e; injection e with e; simp at e; omega
  · intro q hq
    rcases List.mem_append.1 hq with hq | hq
    · exact hrow (h.rows q hq)
    · rw [List.mem_singleton.1 hq]; exact hrow hx
  · intro q hq k hk hk2
    rcases List.mem_append.1 hq with hq | hq
    · exact h.tr q hq k hk hk2
    · rw [List.mem_singleton.1 hq] at hk2; exact hxt k hk2 hk
  · intro q hq k hk hk2
    rcases List.mem_append.1 hq with hq | hq
    · exact h.nr q hq k hk hk2
    · rw [List.mem_singleton.1 hq] at hk2; exact hxn k hk2 hk
  · rintro (hh | hh)
    · exact map_apart h.mt h.fg hh
    · exact map_blk h.mt h.blk hh
  · rintro (hh | hh)
    · exact map_apart h.mn h.fg hh
    · exact map_blk h.mn h.blk hh
end Go.Proofs.YtnpjhndgdlihjaaDoor

namespace Go.Proofs.YtnpjhndgdlihjaaDoor
open Go.RowKit Go.Maps
set_option linter.unusedVariables false
theorem own_row {w : World} {B g n : Nat} {e : TypeId} {cs : Array Value} (h : Blk w g e cs) (hB : B ≤ g) (hn : cs.size = n) (hm : n ≤ maxLen) : w.ownsRow B e 1 (.slice (some ⟨g, 0, none⟩) n n) n cs.toList := by
  refine ⟨by simp [hn], .inr ⟨g, n, cs, rfl, hB, h, Nat.le_refl _, hm, by simp [hn], ?_⟩⟩
  rw [List.take_of_length_le (by simp [hn])]
theorem ElStrs : El Tryd.prog 86 27 1 24 := El.of (z := .slice none 0 0) Tryd.underlying86 (by kernel_rfl) rfl (by decide)
/-- What a right side comes to. -/
def SEnd (w0 w : World) (bb tm nm rb : Nat) (tv nv gv : Value) (r : Except Flt Bd) (e : Ending) (w' : World) : Prop :=
  Below w0.heap.size w0 w' ∧ match r with
  | .ok b => e = .returned (.tuple #[]) ∧ ∃ tv' nv' gv' gs' DT DN, BAt w0 w' bb tm nm rb tv' nv' gv' b gs' DT DN ∧ Chg (MineG bb tm nm tv nv gv) w w' ∧ Newer w tv tv' ∧ Newer w nv nv' ∧ Newer w gv gv'
  | .error f => Gives f e
theorem tok_cells {w : World} {B : Nat} {g : Nat} {c : Nat} {l : List Tk} {k : Nat} {t : Tk} (h : w.ownsRow B 60 3 (.slice (some ⟨g, 0, none⟩) l.length c) l.length (l.flatMap Tk.cells)) (ht : l[k]? = some t) :
    w.cell? ⟨g, k * 3, none⟩ = some (.int .i64 t.k) ∧ w.cell? ⟨g, k * 3 + 1, none⟩ = some (.string (str t.s)) ∧ w.cell? ⟨g, k * 3 + 2, none⟩ = some (.int .i64 t.p) := by
  obtain ⟨hk, hx⟩ := List.getElem?_eq_some_iff.1 ht
  have hg : ∀ j, j < 3 → (l.flatMap Tk.cells)[k * 3 + j]? = (Tk.cells t)[j]? := fun j hj => by rw [fm_get Tk.cells 3 Tk.cells_len l k j hk hj, hx]
  have e0 := own_cell h (k * 3) (by omega)
  have e1 := own_cell h (k * 3 + 1) (by omega)
  have e2 := own_cell h (k * 3 + 2) (by omega)
  rw [e0, e1, e2, hg 1 (by omega), hg 2 (by omega)]
  have := hg 0 (by omega)
  rw [Nat.add_zero] at this
  rw [this]
  exact ⟨rfl, rfl, rfl⟩
theorem row_some {w : World} {B n : Nat} {e : TypeId} {s : Nat} {v : Value} {xs : List Value} (h : w.ownsRow B e s v n xs) (hn : 0 < n) : ∃ g c, v = .slice (some ⟨g, 0, none⟩) n c := by
  rcases own_form h with ⟨rfl, h0⟩ | ⟨g, c, rfl, _⟩
  · omega
  · exact ⟨g, c, rfl⟩
set_option maxRecDepth 100000 in
set_option maxHeartbeats 4000000 in
theorem bside_any {w0 w : World} {bb tm nm rb : Nat} {tv nv gv : Value} {b : Bd} {gs : List GN} {DT DN : DataW Unit} (h : BAt w0 w bb tm nm rb tv nv gv b gs DT DN) {B mb : Nat} {tb : Option Nat} {l : List Tk} {x : Txt} {dv kv sv rv : Value} {rs : List GRu} {D : DataW Unit} (hr : Rules w0 B rb mb tb l x dv kv sv rv rs D) (hrl : rs.map GRu.r = x.rules)
    (left : Nme) (q : GS) (hq : GoodS w0 B q) (hsh : ∀ t ∈ q.s.l, t.s.length ≤ 8192) (hll : q.s.l.length ≤ 100000) :
    Calls Tryd.prog 56 #[.pointer (some ⟨bb, 0, none⟩), .string (str left), .agg #[q.v, .int .i64 q.s.p]] w (SEnd w0 w bb tm nm rb tv nv gv (sideB (leftOf x) b left q.s)) := by
  obtain ⟨c0, c1, c2, c3, c4, c7, hbb⟩ := h.cells
  have hgl : gs.length = b.R.length := by rw [← h.names, List.length_map]
  have hrow : w0.ownsRow B 60 3 q.v q.s.l.length (q.s.l.flatMap Tk.cells) := hq
  obtain ⟨As, cs, hqv⟩ := own_shape hrow
  obtain ⟨Ag, cg, rfl⟩ := own_shape h.fg
  by_cases h300 : 300 ≤ b.R.length
  · have q1 : (300 : Int) ≤ (gs.length : Int) := by omega
    have HE : Hid (sideB (leftOf x) b left q.s = .error (7, q.s.p)) := Lib.hid (by simp [sideB, h300])
    have HA := Lib.hid (h.alloc (.cells #[q.v, .int .i64 q.s.p] 116))
    rw [hqv] at HA ⊢
    clear h hr hrl hq hsh hrow hgl h300
    generalize gs.length = n at *
    generalize q.s.l.length = n2 at *
    go_enter Tryd.func56, Tryd.ntmps56
    go_wp2_with (go_at_call 81; refine (fail_any _ _ _).mono ?_; rintro e w' ⟨rfl, hw'⟩; subst hw')
    refine ⟨rfl, HA.out.below, ?_⟩
    rw [HE.out]
    exact Gives.of rfl rfl
  · have q1 : ¬ (300 : Int) ≤ (gs.length : Int) := by omega
    have hlt3 : b.R.length < 300 := by omega
    have HE0 : Hid (∀ b', symsB (leftOf x) b 0 q.s.l = .ok b' → b'.R = b.R → sideB (leftOf x) b left q.s = if b.R.contains (left :: q.s.l.map Tk.s) then .error (8, q.s.p) else .ok { b' with R := b'.R ++ [left :: q.s.l.map Tk.s] }) := Lib.hid (fun b' h1 h2 => by unfold sideB; rw [if_neg h300, h1]; simp only; rw [h2])
    have HEE : Hid (∀ f, symsB (leftOf x) b 0 q.s.l = .error f → sideB (leftOf x) b left q.s = .error f) := Lib.hid (fun f h1 => by unfold sideB; rw [if_neg h300, h1])
    have hw0 := h.below.size
    -- what stands at the loop's start
    have hst0 : SymsAt w0 w bb tm nm rb tv nv (.slice Ag gs.length cg) gs (w.heap.size + 1 + 1) w.heap.size q.v q.s.p left [] b tv nv (.slice (some ⟨w.heap.size + 1, 0, none⟩) 1 1) DT DN (((w.alloc (.cells #[q.v, .int .i64 q.s.p] 116)).alloc (.cells #[.string (str left)] 9)).alloc (.cells #[.slice (some ⟨w.heap.size + 1, 0, none⟩) 1 1] 27)) := by
      have k1 := Blk.new w 116 #[q.v, .int .i64 q.s.p]
      have k2 := Blk.new (w.alloc (.cells #[q.v, .int .i64 q.s.p] 116)) 9 #[.string (str left)]
      have k3 := Blk.new ((w.alloc (.cells #[q.v, .int .i64 q.s.p] 116)).alloc (.cells #[.string (str left)] 9)) 27 #[.slice (some ⟨w.heap.size + 1, 0, none⟩) 1 1]
      rw [World.size_alloc] at k2
      rw [World.size_alloc, World.size_alloc] at k3
      refine ⟨((h.alloc _).alloc _).alloc _, k3, (k1.alloc _).alloc _, ?_, ?_, ?_, (((Chg.refl _ w).alloc _).alloc _).alloc _, Newer.refl _ _, Newer.refl _ _, by omega, Nat.le_refl _, hw0, fun k hk => (own_ge h.fg k hk).2, fun q' hq' k hk => (own_ge (h.rows q' hq') k hk).2⟩
      · exact own_row (k2.alloc _) (by omega) rfl (by unfold maxLen; omega)
      · rintro k hk hh
        cases hk
        have h2 := (own_ge h.ft _ hh).2
        simp at h2
        omega
      · rintro k hk hh
        cases hk
        have h2 := (own_ge h.fn _ hh).2
        simp at h2
        omega
    have HST := Lib.hid hst0
    have HH := Lib.hid h
    have HR := Lib.hid hr
    have HRL := Lib.hid hrl
    have HROW := Lib.hid hrow
    have HSH := Lib.hid hsh
    have HL : Hid (∀ k t, q.s.l[k]? = some t → ∃ g c, q.v = .slice (some ⟨g, 0, none⟩) q.s.l.length c ∧ ∀ w', Below w0.heap.size w0 w' → w'.cell? ⟨g, k * 3, none⟩ = some (.int .i64 t.k) ∧ w'.cell? ⟨g, k * 3 + 1, none⟩ = some (.string (str t.s)) ∧ w'.cell? ⟨g, k * 3 + 2, none⟩ = some (.int .i64 t.p)) := Lib.hid (fun k t ht => by
      obtain ⟨hk, _⟩ := List.getElem?_eq_some_iff.1 ht
      obtain ⟨g, c, hv⟩ := row_some hrow (by omega)
      refine ⟨g, c, hv, fun w' hw' => ?_⟩
      have h2 := (Chg.of_below (X := fun _ => False) hw').own hrow (fun _ _ => id)
      rw [hv] at h2
      exact tok_cells h2 ht)
    clear h hr hrl hq hsh hrow hst0 hgl
    have HQV := Lib.hid hqv
    rw [hqv] at HST ⊢
    clear hqv c0 c1 c2 c3 c4
    generalize hnl : q.s.l.length = nl at *
    have HNL := Lib.hid hnl
    clear hnl
    have hgm : gs.length ≤ 300 := by omega
    have hmf : ∀ (fn : Fn) (first cap : Array Value) (w : World), (Instr.makeFunc fn first cap).run Tryd.prog w = .ok (.func fn first cap) w := fun _ _ _ _ => rfl
    go_enter Tryd.func56, Tryd.ntmps56
    go_wp2
    generalize hwS : (((w.alloc (.cells #[.slice As nl cs, .int .i64 q.s.p] 116)).alloc (.cells #[.string (str left)] 9)).alloc (.cells #[.slice (some ⟨w.heap.size + 1, 0, none⟩) 1 1] 27)) = wS at *
    generalize hxb : w.heap.size + 1 + 1 = xb at *
    clear hwS c7
    go_loopw [23] (fun i wr => ∃ (k : Nat) (done : List Nme) (b' : Bd) (tv' nv' xv : Value) (DT' DN' : DataW Unit), k ≤ nl ∧ i = .int .i64 k ∧ done.length = k ∧ Hid (SymsAt w0 w bb tm nm rb tv nv (.slice Ag gs.length cg) gs xb w.heap.size (.slice As nl cs) q.s.p left done b' tv' nv' xv DT' DN' wr) ∧ Hid (done = (q.s.l.take k).map Tk.s) ∧ Hid (symsB (leftOf x) b 0 q.s.l = symsB (leftOf x) b' k (q.s.l.drop k)) ∧ Hid (b'.R = b.R)) (fun i _ => nl - (intOf i).toNat)
    case atStart => exact ⟨0, [], b, tv, nv, _, DT, DN, Nat.zero_le _, rfl, rfl, HST, Lib.hid rfl, Lib.hid rfl, Lib.hid rfl⟩
    case round =>
      obtain ⟨_, done, b', tv', nv', xv, DT', DN', hk, rfl, rfl, HS, HD, HY, HBR⟩ := hrel
      by_cases hlt : done.length < nl
      · obtain ⟨t, ht⟩ : ∃ t, q.s.l[done.length]? = some t := ⟨_, List.getElem?_eq_getElem (by rw [HNL.out]; exact hlt)⟩
        obtain ⟨g, c, hgv, hcell⟩ := HL.out done.length t ht
        obtain ⟨e0, e1, e2⟩ := hcell wr HS.out.at_.below
        rw [HQV.out] at hgv
        cases hgv
        have hdrop : q.s.l.drop done.length = t :: q.s.l.drop (done.length + 1) := by
          obtain ⟨hk', e⟩ := List.getElem?_eq_some_iff.1 ht
          rw [List.drop_eq_getElem_cons hk', e]
        have HDN : Hid (done ++ [t.s] = (q.s.l.take (done.length + 1)).map Tk.s) := Lib.hid (by
          obtain ⟨hk', e⟩ := List.getElem?_eq_some_iff.1 ht
          have h1 := HD.out
          rw [List.take_succ_eq_append_getElem hk', e, List.map_append, ← h1]
          rfl)
        have hts := HSH.out t (List.mem_of_getElem? ht)
        have HS1 := Lib.hid (HS.out.alloc (.cells #[.int .i64 t.k, .string (str t.s), .int .i64 t.p] 60))
        have HSYM := Lib.hid (symbol_any HS1.out.at_ HR.out HRL.out t hts done.length (done.length : Int) rfl)
        have HBX := Lib.hid (Blk.new wr 60 #[.int .i64 t.k, .string (str t.s), .int .i64 t.p])
        have HYY : Hid (∀ r, symbolB (leftOf x) b' t done.length = r → symsB (leftOf x) b 0 q.s.l = match r with | .error e => .error e | .ok b2 => symsB (leftOf x) b2 (done.length + 1) (q.s.l.drop (done.length + 1))) := Lib.hid (fun r hr => by rw [HY.out, hdrop, symsB, hr]; cases r <;> rfl)
        clear ht hcell hdrop
        obtain ⟨Ax, cx, hxv⟩ := own_shape HS.out.own
        subst hxv
        cases hsy : symbolB (leftOf x) b' t done.length with
        | error f =>
          have HE := Lib.hid (HEE.out f (HYY.out _ hsy))
          rw [hsy] at HSYM
          clear hsy
          go_wp2_with (go_at_call 83; refine HSYM.out.mono ?_; intro e w2 hx; obtain ⟨hb2, hx⟩ := hx; have hx : e = _ := hx; subst hx)
          refine ⟨rfl, hb2, ?_⟩
          rw [HE.out]
          exact Gives.of rfl rfl
        | ok b2 =>
          have HY2 := Lib.hid (HYY.out _ hsy)
          have HB2R : Hid (b2.R = b.R) := Lib.hid (by
            have h1 := HBR.out
            unfold symbolB at hsy
            split at hsy
            · cases hsy
            split at hsy
            · injection hsy with hsy; rw [← hsy]; exact h1
            split at hsy
            · split at hsy
              · cases hsy
              · injection hsy with hsy; rw [← hsy]; exact h1
            split at hsy
            · injection hsy with hsy; rw [← hsy]; exact h1
            · cases hsy)
          rw [hsy] at HSYM
          clear hsy
          have hw0r := HS.out.chg.size
          go_wp2_with (first
            | (go_at_call 83; refine HSYM.out.mono ?_; intro e w2 hx; obtain ⟨hb2, rfl, tv2, nv2, DT2, DN2, z1, z2, z3, z4⟩ := hx
               have HS2 := Lib.hid (HS1.out.sym z1 z2 z3 z4)
               have HX2 := Lib.hid (z2.blk HBX.out (mine_no HS1.out.at_ HBX.out (by decide) (by decide)))
               have x1 := HX2.out.cell 1
               have y0 := HS2.out.box.cell 0
               have y1 := HS2.out.box.frozen 0
               have hsz2 := z2.size
               simp at x1 y0 hsz2
               clear hb2 z1 z2 z3 z4)
            | (at_builtin; refine wpList_app ElStrR (.tmp 32) (.tmp 35) rfl rfl (base := w.heap.size) (n := done.length + 1) (m := 1) (N := done.length + 1 + 1) (xs := (left :: done).map Nv) (news := [Nv t.s]) rfl rfl (HS2.out.own.alloc _) (src_str w2 _) rfl (by unfold maxLen; omega) (by omega) (by simp; omega) ?_
               intro A3 c3 w3 r1 r2 r3
               have HF := Lib.hid (HS2.out.app r1 r3)
               have hk3 := r2.blk (HS2.out.box.alloc _) (.inr (by decide))
               have z0 := hk3.cell 0
               have zf := hk3.frozen 0
               simp at z0
               clear r1 r2 r3 hk3))
          go_roundw
          case rel => exact ⟨done.length + 1, done ++ [t.s], b2, tv2, nv2, _, DT2, DN2, by omega, by go_num, by simp, HF, HDN, HY2, HB2R⟩
          case measure => simp [intOf]; omega
      · obtain rfl : nl = done.length := by omega
        have HX : Hid (done = q.s.l.map Tk.s) := Lib.hid (by
          have h1 := HD.out
          rw [List.take_of_length_le (by have := HNL.out; omega)] at h1
          exact h1)
        have HSY : Hid (symsB (leftOf x) b 0 q.s.l = .ok b') := Lib.hid (by
          have h1 := HY.out
          rw [List.drop_of_length_le (by have := HNL.out; omega)] at h1
          exact h1)
        have HCON := Lib.hid (conN_any HS.out.at_.fg (fun l => (left :: done) == l) 85 #[.pointer (some ⟨xb, 0, none⟩)] (fun _ _ => by kernel_rfl) (fun u hu y hy => by
          have h1 := HS.out.later hy
          refine (sideq_any (p := ⟨xb, 0, none⟩) (a := left :: done) h1.own (h1.at_.rows u hu) (h1.box.cell 0)).mono ?_
          rintro e w' ⟨h2, n, rfl⟩
          exact ⟨h2, ⟨rfl, rfl, rfl, Nat.le_refl _, fun _ _ => rfl⟩⟩))
        have HCN : Hid (b.R.contains (left :: q.s.l.map Tk.s) = (gs.map GN.l).any fun l => (left :: done) == l) := Lib.hid (by
          rw [HS.out.at_.names, HBR.out, ← HX.out]
          exact List.contains_eq_any_beq)
        have HOK := Lib.hid (HE0.out b' HSY.out HBR.out)
        have hR3 : b'.R.length < 300 := by rw [HBR.out]; exact hlt3
        obtain ⟨Ax, cx, hxv⟩ := own_shape HS.out.own
        subst hxv
        obtain ⟨c0, c1, c2, c3, c4, c7, hbb2⟩ := HS.out.at_.cells
        clear hlt hbb h300
        cases hcc : (gs.map GN.l).any fun l => (left :: done) == l with
        | true =>
          rw [hcc] at HCON HCN
          clear hcc
          have HE : Hid (sideB (leftOf x) b left q.s = .error (8, q.s.p)) := Lib.hid (by rw [HOK.out, HCN.out]; rfl)
          go_wp2_with (first
            | (go_at_call 84; refine HCON.out.mono ?_; rintro e w3 ⟨rfl, hb3⟩
               have HS3 := Lib.hid (HS.out.later hb3)
               have y1 := HS3.out.sbox.cell 1
               simp at y1
               clear hb3)
            | (go_at_call 81; refine (fail_any _ _ _).mono ?_; rintro e w' ⟨rfl, hw'⟩; subst hw'))
          refine ⟨rfl, HS3.out.at_.below, ?_⟩
          rw [HE.out]
          exact Gives.of rfl rfl
        | false =>
          rw [hcc] at HCON HCN
          clear hcc
          have HE : Hid (sideB (leftOf x) b left q.s = .ok { b' with R := b'.R ++ [left :: done] }) := Lib.hid (by rw [HOK.out, HCN.out, ← HX.out]; rfl)
          go_wp2_with (go_at_call 84; refine HCON.out.mono ?_; rintro e w3 ⟨rfl, hb3⟩
                       have HS3 := Lib.hid (HS.out.later hb3)
                       clear hb3)
          clear c0 c1 c2 c3 c4 c7 hbb2
          obtain ⟨c0, c1, c2, c3, c4, c7, hbb2⟩ := HS3.out.at_.cells
          have y0 := HS3.out.box.cell 0
          simp at y0
          have hxl := HS3.out.box.lt
          have HSD := Lib.hid HS3.out.drew
          have hww := HS3.out.chg.size
          have hgl2 := gs.length
          go_region_law (go_loud (refine step_app ElStrs (.tmp 51) (.tmp 53) ?_ ?_ (base := w0.heap.size) (n := gs.length) (m := 1) (N := gs.length + 1) (v := .slice Ag gs.length cg) (src := .slice (some ⟨w3.heap.size, 0, none⟩) 1 1) (xs := gs.map GN.v) (news := [.slice Ax (done.length + 1) cx]) ?_ ?_ ?_ ?_ ?_ ?_ ?_ ?_ ?_
                                  · rfl
                                  · rfl
                                  · rfl
                                  · rfl
                                  · exact HSD.out.at_.fg.alloc _
                                  · exact SrcOK.blk (c := 1) (Blk.new w3.drew 27 #[.slice Ax (done.length + 1) cx]) rfl (by simp [Value.oneCell'])
                                  · rfl
                                  · unfold maxLen; omega
                                  · omega
                                  · simp; omega
                                  intro A4 c4' w4 q1 q2 q3
                                  have HF := Lib.hid (gn_rel (x := left :: done) HSD.out.at_ (own_mono HSD.out.own hw0) HSD.out.xt HSD.out.xn hR3 q1 q3)
                                  have HNG : Hid (Newer w (.slice Ag gs.length cg) (.slice A4 (gs.length + 1) c4')) := Lib.hid (fun k hk => by
                                    rcases q3.2 with e | e
                                    · exact .inl (e ▸ hk)
                                    · rw [e] at hk; cases hk; exact .inr (by simp; omega))
                                  have hX : Chg (fun k => (Value.slice Ag gs.length cg).ownBlock = some k) w3.drew w4 := ((Chg.refl _ w3.drew).alloc (.cells #[.slice Ax (done.length + 1) cx] 27)).next (.of_grown q3.1)
                                  have hb2 := hX.blk HSD.out.at_.blk (row_blk HSD.out.at_.fg HSD.out.at_.blk (by decide))
                                  have z7 := hb2.cell 7
                                  have zf := hb2.frozen 7
                                  simp at z7
                                  clear q1 q2 q3 hX hb2))
          all_goals go_wp2
          all_goals go_end0
          all_goals refine ⟨HF.out.1.below, ?_⟩
          all_goals rw [HE.out]
          all_goals refine ⟨rfl, _, _, _, _, _, _, HF.out.1, ?_, HSD.out.nt, HSD.out.nn, HNG.out⟩
          all_goals exact (HSD.out.chg.mono (fun _ h => .inl h)).next (HF.out.2.mono (fun i hi => hi.elim .inr (fun h => .inl (.inl h))))
end Go.Proofs.YtnpjhndgdlihjaaDoor

namespace Go.Proofs.YtnpjhndgdlihjaaDoor
open Go.RowKit Go.Maps
set_option linter.unusedVariables false
/-- What has been declared, of what has been built. -/
def withT (b : Bd) : Except Flt (List Nme) → Except Flt Bd
  | .ok T => .ok { b with T := T }
  | .error f => .error f
theorem term_decl {b : Bd} {t : Tk} (hc : t.s ∉ b.T) : termB b t = match declT b.T t with | .error e => .error e | .ok T => .ok { b with T := T } := by
  unfold termB declT
  rw [if_neg (show ¬ b.T.contains t.s = true by simpa using hc)]
  by_cases h : 120 ≤ b.T.length
  · rw [if_pos h, if_pos h]
  · rw [if_neg h, if_neg h]
theorem mark_some {x : Txt} {m : Nat} {st : Tk} (h : markT x = some (m, st)) : (∃ r, x.marks = m :: r) ∧ ∃ r, x.starts = st :: r := by
  unfold markT at h
  split at h
  · rename_i h1 h2
    injection h with h
    injection h with e1 e2
    subst e1
    subst e2
    exact ⟨⟨_, h1⟩, ⟨_, h2⟩⟩
  · cases h
theorem mark_none {x : Txt} (hs : x.marks.length = x.starts.length) (h : markT x = none) : x.starts.length = 0 := by
  unfold markT at h
  split at h
  · cases h
  · rename_i hn
    cases hm : x.marks with
    | nil => rw [hm] at hs; simpa using hs.symm
    | cons a r =>
      cases ht : x.starts with
      | nil => rfl
      | cons s q => exact absurd ht (fun e => hn a r s q hm e)
/-- One terminal too many: nothing has turned. -/
theorem term_fail {w0 w : World} {bb tm nm rb : Nat} {tv nv gv : Value} {b : Bd} {gs : List GN} {DT DN : DataW Unit} (h : BAt w0 w bb tm nm rb tv nv gv b gs DT DN) (t : Tk) (hm : 120 ≤ b.T.length) :
    Calls Tryd.prog 95 #[.pointer (some ⟨bb, 0, none⟩), .agg #[.int .i64 t.k, .string (str t.s), .int .i64 t.p]] w fun e w' => Gives (7, t.p) e ∧ Below w.heap.size w w' := by
  obtain ⟨A, c, rfl⟩ := own_shape h.ft
  have HB := Lib.hid (below_alloc w (.cells #[.int .i64 t.k, .string (str t.s), .int .i64 t.p] 60))
  obtain ⟨c0, c1, c2, c3, c4, c7, hbb⟩ := h.cells
  have q1 : (120 : Int) ≤ (b.T.length : Int) := by omega
  clear h hm
  generalize b.T.length = n at *
  go_enter Tryd.func95, Tryd.ntmps95
  go_wp2_with (go_at_call 81; refine (fail_any _ _ _).mono ?_; rintro e w' ⟨rfl, hw'⟩; subst hw')
  exact ⟨rfl, Gives.of rfl rfl, HB.out⟩
/-- What all that is declared comes to. -/
def DEnd (w0 w : World) (bb tm nm rb : Nat) (tv nv gv : Value) (gs : List GN) (r : Except Flt Bd) (e : Ending) (w' : World) : Prop :=
  ∃ b' tv' nv' DT DN, BAt w0 w' bb tm nm rb tv' nv' gv b' gs DT DN ∧ Chg (Mine bb tm nm tv nv) w w' ∧ match r with
  | .ok b => e = .returned (.tuple #[]) ∧ b' = b
  | .error f => Gives f e
set_option maxRecDepth 100000 in
set_option maxHeartbeats 6000000 in
theorem declare_any {w0 w : World} {bb tm nm rb : Nat} {tv nv gv : Value} {b : Bd} {gs : List GN} {DT DN : DataW Unit} (h : BAt w0 w bb tm nm rb tv nv gv b gs DT DN) {B mb : Nat} {tb : Option Nat} {l : List Tk} {x : Txt} {dv kv sv rv : Value} {rs : List GRu} {D : DataW Unit} (hr : Rules w0 B rb mb tb l x dv kv sv rv rs D) (hrl : rs.map GRu.r = x.rules)
    (hsame : x.marks.length = x.starts.length) (hsd : ∀ t ∈ x.decl, t.s.length ≤ 8192) (hss : ∀ t ∈ x.starts, t.s.length ≤ 8192) :
    Calls Tryd.prog 82 #[.pointer (some ⟨bb, 0, none⟩)] w (DEnd w0 w bb tm nm rb tv nv gv gs (withT b (declL (leftOf x) (markT x) x.decl b.T))) := by
  obtain ⟨c0, c1, c2, c3, c4, c7, hbb⟩ := h.cells
  obtain ⟨k1, k2, k3, _, _, _⟩ := (hr.later h.below).heads.stand.cells
  have HCE : Hid (∀ w', Below w0.heap.size w0 w' → w'.cell? ⟨rb, 2, none⟩ = some kv ∧ w'.cell? ⟨rb, 3, none⟩ = some sv) := Lib.hid (fun w' hb => by
    obtain ⟨_, a2, a3, _, _, _⟩ := (hr.later hb).heads.stand.cells
    exact ⟨a2, a3⟩)
  obtain ⟨As, cs, hsv⟩ := own_shape hr.heads.starts
  obtain ⟨Ad, cd, hdv⟩ := own_shape hr.heads.decl
  have HL : Hid (∀ k t, x.decl[k]? = some t → ∃ g c, dv = .slice (some ⟨g, 0, none⟩) x.decl.length c ∧ ∀ w', Below w0.heap.size w0 w' → w'.cell? ⟨g, k * 3, none⟩ = some (.int .i64 t.k) ∧ w'.cell? ⟨g, k * 3 + 1, none⟩ = some (.string (str t.s)) ∧ w'.cell? ⟨g, k * 3 + 2, none⟩ = some (.int .i64 t.p)) := Lib.hid (fun k t ht => by
    obtain ⟨hk, _⟩ := List.getElem?_eq_some_iff.1 ht
    obtain ⟨g, c, hv⟩ := row_some hr.heads.decl (by omega)
    refine ⟨g, c, hv, fun w' hw' => ?_⟩
    have h2 := (Chg.of_below (X := fun _ => False) hw').own hr.heads.decl (fun _ _ => id)
    rw [hv] at h2
    exact tok_cells h2 ht)
  have HM : Hid (∀ m st, markT x = some (m, st) → ∃ g c, kv = .slice (some ⟨g, 0, none⟩) x.marks.length c ∧ 0 < x.marks.length ∧ ∀ w', Below w0.heap.size w0 w' → w'.cell? ⟨g, 0, none⟩ = some (.int .i64 m)) := Lib.hid (fun m st hm => by
    obtain ⟨⟨r, e1⟩, r2, e2⟩ := mark_some hm
    have hlt : 0 < x.marks.length := by rw [e1]; simp
    obtain ⟨g, c, hv⟩ := row_some hr.heads.marks hlt
    refine ⟨g, c, hv, hlt, fun w' hw' => ?_⟩
    have h2 := (Chg.of_below (X := fun _ => False) hw').own hr.heads.marks (fun _ _ => id)
    rw [hv] at h2
    have := own_cell h2 0 (by omega)
    rw [this, e1]
    rfl)
  have HST : Hid (∀ m st, markT x = some (m, st) → ∀ w', Below w0.heap.size w0 w' → w'.cell? ⟨bb, 0, none⟩ = some (.pointer (some ⟨rb, 0, none⟩)) → Calls Tryd.prog 94 #[.pointer (some ⟨bb, 0, none⟩)] w' (Unit_ w' (startT (leftOf x) st))) := Lib.hid (fun m st hm w' hw' hc => by
    obtain ⟨_, r2, e2⟩ := mark_some hm
    exact start_any (hr.later hw') hc hrl e2 (hss st (by rw [e2]; simp)))
  have HOPT : Hid ((markT x = none ∧ x.starts.length = 0) ∨ (markT x ≠ none ∧ 0 < x.starts.length)) := Lib.hid (by
    cases hm : markT x with
    | none => exact .inl ⟨rfl, mark_none hsame hm⟩
    | some p =>
      obtain ⟨_, r2, e2⟩ := mark_some (m := p.1) (st := p.2) hm
      exact .inr ⟨by simp, by rw [e2]; simp⟩)
  have HDL : Hid (∀ t ∈ x.decl, t.s.length ≤ 8192) := Lib.hid hsd
  have hnd : x.decl.length ≤ 100000 := by have := hr.heads.ld; omega
  have hns : x.starts.length ≤ 100000 := by have := hr.heads.ls; omega
  have hnk : x.marks.length ≤ 100000 := by have := hr.heads.lm; omega
  have HH := Lib.hid h
  have HSV := Lib.hid hsv
  have HDV := Lib.hid hdv
  clear h hr hrl hsame hsd hss c1 c2 c3 c4 c7
  subst hsv
  subst hdv
  clear HSV HDV
  generalize hnd0 : x.decl.length = nd at *
  generalize hns0 : x.starts.length = ns at *
  generalize hnk0 : x.marks.length = nk at *
  have HND := Lib.hid hnd0
  clear hnd0 hns0 hnk0
  go_enter Tryd.func82, Tryd.ntmps82
  go_wp2
  go_loopw [2, 20] (fun st i wr => ∃ (k : Nat) (opt : Option (Nat × Tk)) (n' : Nat) (A' : Option Addr) (c' : Nat) (b' : Bd) (tv' nv' : Value) (DT' DN' : DataW Unit), k ≤ nd ∧ i = .int .i64 k ∧ st = .slice A' n' c' ∧ n' ≤ 100000 ∧ Hid ((opt = none ∧ n' = 0) ∨ (opt = markT x ∧ opt ≠ none ∧ 0 < n')) ∧ Hid (BAt w0 wr bb tm nm rb tv' nv' gv b' gs DT' DN') ∧ Hid (Chg (Mine bb tm nm tv nv) w wr ∧ Newer w tv tv' ∧ Newer w nv nv') ∧ Hid (declL (leftOf x) (markT x) x.decl b.T = declL (leftOf x) opt (x.decl.drop k) b'.T) ∧ Hid (b'.N = b.N ∧ b'.R = b.R)) (fun _ i _ => nd - (intOf i).toNat)
  case atStart => exact ⟨0, markT x, ns, _, _, b, tv, nv, DT, DN, Nat.zero_le _, rfl, rfl, hns, Lib.hid (HOPT.out.imp id (fun h => ⟨rfl, h.1, h.2⟩)), HH, Lib.hid ⟨Chg.refl _ _, Newer.refl _ _, Newer.refl _ _⟩, Lib.hid rfl, Lib.hid ⟨rfl, rfl⟩⟩
  case round =>
    obtain ⟨k, opt, n', A', c', b', tv', nv', DT', DN', hk, rfl, rfl, hn', HO, HA, HC, HY, HBR⟩ := hrel
    clear c0 k1 k2 k3 hbb
    obtain ⟨c0, c1, c2, c3, c4, c7, hbb⟩ := HA.out.cells
    by_cases hlt : k < nd
    · obtain ⟨t, ht⟩ : ∃ t, x.decl[k]? = some t := ⟨_, List.getElem?_eq_getElem (by rw [HND.out]; exact hlt)⟩
      obtain ⟨g, c, hgv, hcell⟩ := HL.out k t ht
      obtain ⟨e0, e1, e2⟩ := hcell wr HA.out.below
      cases hgv
      have hts := HDL.out t (List.mem_of_getElem? ht)
      have hdrop : x.decl.drop k = t :: x.decl.drop (k + 1) := by
        obtain ⟨hk', e⟩ := List.getElem?_eq_some_iff.1 ht
        rw [List.drop_eq_getElem_cons hk', e]
      have HY1 : Hid (declL (leftOf x) (markT x) x.decl b.T = declL (leftOf x) opt (t :: x.decl.drop (k + 1)) b'.T) := Lib.hid (by rw [HY.out, hdrop])
      clear ht hcell hdrop
      have HX1 := Lib.hid (Blk.new wr 60 #[.int .i64 t.k, .string (str t.s), .int .i64 t.p])
      have HA1 := Lib.hid (HA.out.alloc (.cells #[.int .i64 t.k, .string (str t.s), .int .i64 t.p] 60))
      have HC1 := Lib.hid (HC.out.1.alloc (.cells #[.int .i64 t.k, .string (str t.s), .int .i64 t.p] 60))
      have hxw : wr.heap.size < (wr.alloc (.cells #[.int .i64 t.k, .string (str t.s), .int .i64 t.p] 60)).heap.size := by simp
      generalize hw1 : (wr.alloc (.cells #[.int .i64 t.k, .string (str t.s), .int .i64 t.p] 60)) = w1 at *
      have HW1 := Lib.hid hw1
      clear c0 c1 c2 c3 c4 c7 hbb
      obtain ⟨c0, c1, c2, c3, c4, c7, hbb⟩ := HA1.out.cells
      obtain ⟨k2, k3⟩ := HCE.out w1 HA1.out.below
      have x0 := HX1.out.cell 0
      have x1 := HX1.out.cell 1
      have x2 := HX1.out.cell 2
      simp at x0 x1 x2
      rcases HO.out with ⟨ho, hn0⟩ | ⟨ho, ho2, hn0⟩
      · subst hn0
        go_wp2
        go_region
        go_wp2
        obtain ⟨opt2, n2, A2, c2', hA2, hn2, HO2, HY2⟩ : ∃ (opt2 : Option (Nat × Tk)) (n2 : Nat) (A2 : Option Addr) (c2' : Nat), Value.slice A' 0 c' = .slice A2 n2 c2' ∧ n2 ≤ 100000 ∧ Hid ((opt2 = none ∧ n2 = 0) ∨ (opt2 = markT x ∧ opt2 ≠ none ∧ 0 < n2)) ∧ Hid (∀ r, declT b'.T t = r → declL (leftOf x) (markT x) x.decl b.T = match r with | .error e => .error e | .ok T' => declL (leftOf x) opt2 (x.decl.drop (k + 1)) T') :=
          ⟨none, 0, A', c', rfl, by omega, Lib.hid (.inl ⟨rfl, rfl⟩), Lib.hid (fun r hr => by rw [HY1.out, ho, declL, hr]; cases r <;> rfl)⟩
        rw [hA2]
        clear hA2
        have HA2 := Lib.hid HA1.out.drew
        have HX2 := Lib.hid (((Chg.refl (fun _ => False) w1).drew).blk HX1.out id)
        have HC2 := Lib.hid HC1.out.drew
        clear c0 c1 c2 c3 c4 c7 hbb x0 x1 x2 k2 k3 e0 e1 e2
        generalize w1.drew = wz at *
        have HE8 : Hid (∀ r, declT b'.T t = r → ∀ f, r = .error f → withT b (declL (leftOf x) (markT x) x.decl b.T) = .error f) := Lib.hid (fun r h1 f h2 => by rw [HY2.out _ h1, h2]; rfl)
        clear HA HY HY1 HA1 HX1 HC1 HW1 HO hxw
        obtain ⟨c0, c1, c2, c3, c4, c7, hbb⟩ := HA2.out.cells
        have x0 := HX2.out.cell 0
        have x1 := HX2.out.cell 1
        have x2 := HX2.out.cell 2
        simp at x0 x1 x2
        have hlook := places_look HA2.out.drew.mt HA2.out.pt hts
        have hzsz := HX2.out.lt
        generalize wr.heap.size = xb at *
        by_cases hc : t.s ∈ b'.T
        · have HE := Lib.hid (HE8.out (.error (8, t.p)) (by unfold declT; rw [if_pos (by simpa using hc)]) (8, t.p) rfl)
          rw [if_pos hc] at hlook
          have hn1 : b'.T.idxOf t.s + 1 ≠ 0 := by omega
          generalize b'.T.idxOf t.s + 1 = n1 at *
          have q2 : (0 : Int) < (n1 : Int) := by
            rcases Nat.eq_zero_or_pos n1 with e | e
            · exact absurd hn1 (by omega)
            · omega
          clear hc hts
          go_region
          go_wp2_with (go_at_call 81; refine (fail_any _ _ _).mono ?_; rintro e w' ⟨rfl, hw'⟩; subst hw')
          refine ⟨rfl, _, _, _, _, _, HA2.out.drew, HC2.out.drew, ?_⟩
          rw [HE.out]
          exact Gives.of rfl rfl
        · rw [if_neg hc, show ((0 : Nat) : Int) = 0 from rfl] at hlook
          have HTM := Lib.hid (bterm_any HA2.out.drew t hts hc)
          have hte := term_decl hc
          cases htd : declT b'.T t with
          | error f =>
            obtain ⟨hf, h120⟩ : f = (7, t.p) ∧ 120 ≤ b'.T.length := by
              unfold declT at htd
              rw [if_neg (by simpa using hc)] at htd
              split at htd
              · rename_i h
                injection htd with htd
                exact ⟨htd.symm, h⟩
              · cases htd
            subst hf
            have HTF := Lib.hid (term_fail HA2.out.drew t h120)
            have HE := Lib.hid (HE8.out _ htd _ rfl)
            clear hte htd hc hts HTM h120
            go_region
            go_wp2_with (go_at_call 95; refine HTF.out.mono ?_; intro e w2 hx; obtain ⟨hx, hb2⟩ := hx; have hx : e = _ := hx; subst hx)
            refine ⟨rfl, _, _, _, _, _, HA2.out.drew.chg (.of_below (X := fun _ => False) hb2) (fun _ _ => id), HC2.out.drew.next (.of_below hb2), ?_⟩
            rw [HE.out]
            exact Gives.of rfl rfl
          | ok T2 =>
            rw [htd] at hte
            rw [hte] at HTM
            have HY3 := Lib.hid (HY2.out _ htd)
            clear hte htd hc hts
            go_region
            go_wp2_with (go_at_call 95; refine HTM.out.mono ?_; intro e w2 hx; obtain ⟨hb2, rfl, tv2, nv2, DT2, DN2, z1, z2, z3, z4⟩ := hx
                         have HZ1 := Lib.hid z1
                         have HZ2 : Hid (Chg (Mine bb tm nm tv nv) w w2 ∧ Newer w tv tv2 ∧ Newer w nv nv2) := Lib.hid ⟨HC2.out.drew.trans z2 (fun i hi => HC.out.2.1.mine HC.out.2.2 i hi), HC.out.2.1.next z3 HC2.out.drew.size, HC.out.2.2.next z4 HC2.out.drew.size⟩
                         clear hb2 z1 z2 z3 z4)
            go_roundw
            case rel => exact ⟨k + 1, opt2, n2, A2, c2', _, tv2, nv2, DT2, DN2, by omega, by go_num, rfl, hn2, HO2, HZ1, HZ2, HY3, HBR⟩
            case measure => simp [intOf]; omega
      · obtain ⟨m, st, hm⟩ : ∃ m st, markT x = some (m, st) := by
          cases hm : markT x with
          | none => exact absurd (ho.trans hm) ho2
          | some p => exact ⟨p.1, p.2, rfl⟩
        obtain ⟨g2, cc, hkv, hkl, hcm⟩ := HM.out m st hm
        have m0 := hcm w1 HA1.out.below
        cases hkv
        have HU := Lib.hid (HST.out m st hm w1.drew HA1.out.drew.below HA1.out.drew.cells.1)
        have hn1' : (0 : Int) < (n' : Int) := by omega
        have hk1' : (0 : Int) < (nk : Int) := by omega
        have HMK := Lib.hid hm
        have HO1 := Lib.hid ho
        clear hm ho ho2 hcm
        by_cases hmp : m < t.p
        · have q1 : (m : Int) < (t.p : Int) := by omega
          cases hs : startT (leftOf x) st with
          | error f =>
            rw [hs] at HU
            have HE : Hid (withT b (declL (leftOf x) (markT x) x.decl b.T) = .error f) := Lib.hid (by rw [HY1.out, HO1.out, HMK.out, declL, if_pos hmp, hs]; rfl)
            clear hs hmp
            go_wp2
            go_region
            go_wp2_with (go_at_call 94; refine HU.out.mono ?_; intro e w2 hx; obtain ⟨hb2, hx⟩ := hx; have hx : e = _ := hx; subst hx)
            refine ⟨rfl, _, _, _, _, _, HA1.out.drew.chg (.of_below (X := fun _ => False) hb2) (fun _ _ => id), HC1.out.drew.next (.of_below hb2), ?_⟩
            rw [HE.out]
            exact Gives.of rfl rfl
          | ok uu =>
            rw [hs] at HU
            have HYs : Hid (∀ r, declT b'.T t = r → declL (leftOf x) (markT x) x.decl b.T = match r with | .error e => .error e | .ok T' => declL (leftOf x) none (x.decl.drop (k + 1)) T') := Lib.hid (fun r hr => by rw [HY1.out, HO1.out, HMK.out, declL, if_pos hmp, hs]; simp only; rw [hr]; cases r <;> rfl)
            clear hs hmp
            go_wp2
            go_region
            go_wp2_with (go_at_call 94; refine HU.out.mono ?_; intro e wz hx; obtain ⟨hb2, rfl⟩ := hx; have HBZ := Lib.hid hb2; clear hb2)
            obtain ⟨opt2, n2, A2, c2', hA2, hn2, HO2, HY2⟩ : ∃ (opt2 : Option (Nat × Tk)) (n2 : Nat) (A2 : Option Addr) (c2' : Nat), Value.slice none 0 0 = .slice A2 n2 c2' ∧ n2 ≤ 100000 ∧ Hid ((opt2 = none ∧ n2 = 0) ∨ (opt2 = markT x ∧ opt2 ≠ none ∧ 0 < n2)) ∧ Hid (∀ r, declT b'.T t = r → declL (leftOf x) (markT x) x.decl b.T = match r with | .error e => .error e | .ok T' => declL (leftOf x) opt2 (x.decl.drop (k + 1)) T') :=
              ⟨none, 0, none, 0, rfl, by omega, Lib.hid (.inl ⟨rfl, rfl⟩), HYs⟩
            rw [hA2]
            clear hA2
            have HA2 := Lib.hid (HA1.out.drew.chg (.of_below (X := fun _ => False) HBZ.out) (fun _ _ => id))
            have HX2 := Lib.hid (((Chg.refl (fun _ => False) w1).drew.next (.of_below HBZ.out)).blk HX1.out id)
            have HC2 := Lib.hid (HC1.out.drew.next (.of_below HBZ.out))
            clear c0 c1 c2 c3 c4 c7 hbb x0 x1 x2 k2 k3 e0 e1 e2 HU HBZ
            have HE8 : Hid (∀ r, declT b'.T t = r → ∀ f, r = .error f → withT b (declL (leftOf x) (markT x) x.decl b.T) = .error f) := Lib.hid (fun r h1 f h2 => by rw [HY2.out _ h1, h2]; rfl)
            clear HA HY HY1 HA1 HX1 HC1 HW1 HO hxw
            obtain ⟨c0, c1, c2, c3, c4, c7, hbb⟩ := HA2.out.cells
            have x0 := HX2.out.cell 0
            have x1 := HX2.out.cell 1
            have x2 := HX2.out.cell 2
            simp at x0 x1 x2
            have hlook := places_look HA2.out.drew.mt HA2.out.pt hts
            have hzsz := HX2.out.lt
            generalize wr.heap.size = xb at *
            by_cases hc : t.s ∈ b'.T
            · have HE := Lib.hid (HE8.out (.error (8, t.p)) (by unfold declT; rw [if_pos (by simpa using hc)]) (8, t.p) rfl)
              rw [if_pos hc] at hlook
              have hn1 : b'.T.idxOf t.s + 1 ≠ 0 := by omega
              generalize b'.T.idxOf t.s + 1 = n1 at *
              have q2 : (0 : Int) < (n1 : Int) := by
                rcases Nat.eq_zero_or_pos n1 with e | e
                · exact absurd hn1 (by omega)
                · omega
              clear hc hts
              go_region
              go_wp2_with (go_at_call 81; refine (fail_any _ _ _).mono ?_; rintro e w' ⟨rfl, hw'⟩; subst hw')
              refine ⟨rfl, _, _, _, _, _, HA2.out.drew, HC2.out.drew, ?_⟩
              rw [HE.out]
              exact Gives.of rfl rfl
            · rw [if_neg hc, show ((0 : Nat) : Int) = 0 from rfl] at hlook
              have HTM := Lib.hid (bterm_any HA2.out.drew t hts hc)
              have hte := term_decl hc
              cases htd : declT b'.T t with
              | error f =>
                obtain ⟨hf, h120⟩ : f = (7, t.p) ∧ 120 ≤ b'.T.length := by
                  unfold declT at htd
                  rw [if_neg (by simpa using hc)] at htd
                  split at htd
                  · rename_i h
                    injection htd with htd
                    exact ⟨htd.symm, h⟩
                  · cases htd
                subst hf
                have HTF := Lib.hid (term_fail HA2.out.drew t h120)
                have HE := Lib.hid (HE8.out _ htd _ rfl)
                clear hte htd hc hts HTM h120
                go_region
                go_wp2_with (go_at_call 95; refine HTF.out.mono ?_; intro e w2 hx; obtain ⟨hx, hb2⟩ := hx; have hx : e = _ := hx; subst hx)
                refine ⟨rfl, _, _, _, _, _, HA2.out.drew.chg (.of_below (X := fun _ => False) hb2) (fun _ _ => id), HC2.out.drew.next (.of_below hb2), ?_⟩
                rw [HE.out]
                exact Gives.of rfl rfl
              | ok T2 =>
                rw [htd] at hte
                rw [hte] at HTM
                have HY3 := Lib.hid (HY2.out _ htd)
                clear hte htd hc hts
                go_region
                go_wp2_with (go_at_call 95; refine HTM.out.mono ?_; intro e w2 hx; obtain ⟨hb2, rfl, tv2, nv2, DT2, DN2, z1, z2, z3, z4⟩ := hx
                             have HZ1 := Lib.hid z1
                             have HZ2 : Hid (Chg (Mine bb tm nm tv nv) w w2 ∧ Newer w tv tv2 ∧ Newer w nv nv2) := Lib.hid ⟨HC2.out.drew.trans z2 (fun i hi => HC.out.2.1.mine HC.out.2.2 i hi), HC.out.2.1.next z3 HC2.out.drew.size, HC.out.2.2.next z4 HC2.out.drew.size⟩
                             clear hb2 z1 z2 z3 z4)
                go_roundw
                case rel => exact ⟨k + 1, opt2, n2, A2, c2', _, tv2, nv2, DT2, DN2, by omega, by go_num, rfl, hn2, HO2, HZ1, HZ2, HY3, HBR⟩
                case measure => simp [intOf]; omega
        · have q1 : ¬ (m : Int) < (t.p : Int) := by omega
          go_wp2
          go_region
          go_wp2
          obtain ⟨opt2, n2, A2, c2', hA2, hn2, HO2, HY2⟩ : ∃ (opt2 : Option (Nat × Tk)) (n2 : Nat) (A2 : Option Addr) (c2' : Nat), Value.slice A' n' c' = .slice A2 n2 c2' ∧ n2 ≤ 100000 ∧ Hid ((opt2 = none ∧ n2 = 0) ∨ (opt2 = markT x ∧ opt2 ≠ none ∧ 0 < n2)) ∧ Hid (∀ r, declT b'.T t = r → declL (leftOf x) (markT x) x.decl b.T = match r with | .error e => .error e | .ok T' => declL (leftOf x) opt2 (x.decl.drop (k + 1)) T') :=
            ⟨opt, n', A', c', rfl, by omega, Lib.hid (.inr ⟨HO1.out, by rw [HO1.out, HMK.out]; simp, hn0⟩), Lib.hid (fun r hr => by rw [HY1.out, HO1.out, HMK.out, declL, if_neg hmp, hr]; cases r <;> rfl)⟩
          rw [hA2]
          clear hA2 hmp
          have HA2 := Lib.hid HA1.out.drew
          have HX2 := Lib.hid (((Chg.refl (fun _ => False) w1).drew).blk HX1.out id)
          have HC2 := Lib.hid HC1.out.drew
          clear c0 c1 c2 c3 c4 c7 hbb x0 x1 x2 k2 k3 e0 e1 e2 HU
          generalize w1.drew = wz at *
          have HE8 : Hid (∀ r, declT b'.T t = r → ∀ f, r = .error f → withT b (declL (leftOf x) (markT x) x.decl b.T) = .error f) := Lib.hid (fun r h1 f h2 => by rw [HY2.out _ h1, h2]; rfl)
          clear HA HY HY1 HA1 HX1 HC1 HW1 HO hxw
          obtain ⟨c0, c1, c2, c3, c4, c7, hbb⟩ := HA2.out.cells
          have x0 := HX2.out.cell 0
          have x1 := HX2.out.cell 1
          have x2 := HX2.out.cell 2
          simp at x0 x1 x2
          have hlook := places_look HA2.out.drew.mt HA2.out.pt hts
          have hzsz := HX2.out.lt
          generalize wr.heap.size = xb at *
          by_cases hc : t.s ∈ b'.T
          · have HE := Lib.hid (HE8.out (.error (8, t.p)) (by unfold declT; rw [if_pos (by simpa using hc)]) (8, t.p) rfl)
            rw [if_pos hc] at hlook
            have hn1 : b'.T.idxOf t.s + 1 ≠ 0 := by omega
            generalize b'.T.idxOf t.s + 1 = n1 at *
            have q2 : (0 : Int) < (n1 : Int) := by
              rcases Nat.eq_zero_or_pos n1 with e | e
              · exact absurd hn1 (by omega)
              · omega
            clear hc hts
            go_region
            go_wp2_with (go_at_call 81; refine (fail_any _ _ _).mono ?_; rintro e w' ⟨rfl, hw'⟩; subst hw')
            refine ⟨rfl, _, _, _, _, _, HA2.out.drew, HC2.out.drew, ?_⟩
            rw [HE.out]
            exact Gives.of rfl rfl
          · rw [if_neg hc, show ((0 : Nat) : Int) = 0 from rfl] at hlook
            have HTM := Lib.hid (bterm_any HA2.out.drew t hts hc)
            have hte := term_decl hc
            cases htd : declT b'.T t with
            | error f =>
              obtain ⟨hf, h120⟩ : f = (7, t.p) ∧ 120 ≤ b'.T.length := by
                unfold declT at htd
                rw [if_neg (by simpa using hc)] at htd
                split at htd
                · rename_i h
                  injection htd with htd
                  exact ⟨htd.symm, h⟩
                · cases htd
              subst hf
              have HTF := Lib.hid (term_fail HA2.out.drew t h120)
              have HE := Lib.hid (HE8.out _ htd _ rfl)
              clear hte htd hc hts HTM h120
              go_region
              go_wp2_with (go_at_call 95; refine HTF.out.mono ?_; intro e w2 hx; obtain ⟨hx, hb2⟩ := hx; have hx : e = _ := hx; subst hx)
              refine ⟨rfl, _, _, _, _, _, HA2.out.drew.chg (.of_below (X := fun _ => False) hb2) (fun _ _ => id), HC2.out.drew.next (.of_below hb2), ?_⟩
              rw [HE.out]
              exact Gives.of rfl rfl
            | ok T2 =>
              rw [htd] at hte
              rw [hte] at HTM
              have HY3 := Lib.hid (HY2.out _ htd)
              clear hte htd hc hts
              go_region
              go_wp2_with (go_at_call 95; refine HTM.out.mono ?_; intro e w2 hx; obtain ⟨hb2, rfl, tv2, nv2, DT2, DN2, z1, z2, z3, z4⟩ := hx
                           have HZ1 := Lib.hid z1
                           have HZ2 : Hid (Chg (Mine bb tm nm tv nv) w w2 ∧ Newer w tv tv2 ∧ Newer w nv nv2) := Lib.hid ⟨HC2.out.drew.trans z2 (fun i hi => HC.out.2.1.mine HC.out.2.2 i hi), HC.out.2.1.next z3 HC2.out.drew.size, HC.out.2.2.next z4 HC2.out.drew.size⟩
                           clear hb2 z1 z2 z3 z4)
              go_roundw
              case rel => exact ⟨k + 1, opt2, n2, A2, c2', _, tv2, nv2, DT2, DN2, by omega, by go_num, rfl, hn2, HO2, HZ1, HZ2, HY3, HBR⟩
              case measure => simp [intOf]; omega
    · obtain rfl : k = nd := by omega
      have HYE : Hid (declL (leftOf x) (markT x) x.decl b.T = declL (leftOf x) opt [] b'.T) := Lib.hid (by
        have h1 := HY.out
        rw [List.drop_of_length_le (by have := HND.out; omega)] at h1
        exact h1)
      have HBB : Hid ({ b with T := b'.T } = b') := Lib.hid (by obtain ⟨h1, h2⟩ := HBR.out; cases b'; simp at h1 h2; rw [← h1, ← h2])
      rcases HO.out with ⟨ho, hn0⟩ | ⟨ho, ho2, hn0⟩
      · subst hn0
        have HE : Hid (withT b (declL (leftOf x) (markT x) x.decl b.T) = .ok b') := Lib.hid (by rw [HYE.out, ho]; exact congrArg Except.ok HBB.out)
        clear ho
        go_wp2
        go_end0
        refine ⟨_, _, _, _, _, HA.out, HC.out.1, ?_⟩
        rw [HE.out]
        exact ⟨rfl, rfl⟩
      · obtain ⟨m, st, hm⟩ : ∃ m st, markT x = some (m, st) := by
          cases hm : markT x with
          | none => exact absurd (ho.trans hm) ho2
          | some p => exact ⟨p.1, p.2, rfl⟩
        have HU := Lib.hid (HST.out m st hm wr HA.out.below HA.out.cells.1)
        have hn1' : (0 : Int) < (n' : Int) := by omega
        cases hs : startT (leftOf x) st with
        | error f =>
          rw [hs] at HU
          have HE : Hid (withT b (declL (leftOf x) (markT x) x.decl b.T) = .error f) := Lib.hid (by rw [HYE.out, ho, hm, declL, hs]; rfl)
          clear hs ho ho2 hm
          go_wp2_with (go_at_call 94; refine HU.out.mono ?_; intro e w2 hx; obtain ⟨hb2, hx⟩ := hx; have hx : e = _ := hx; subst hx)
          refine ⟨rfl, _, _, _, _, _, HA.out.chg (.of_below (X := fun _ => False) hb2) (fun _ _ => id), HC.out.1.next (.of_below hb2), ?_⟩
          rw [HE.out]
          exact Gives.of rfl rfl
        | ok uu =>
          rw [hs] at HU
          have HE : Hid (withT b (declL (leftOf x) (markT x) x.decl b.T) = .ok b') := Lib.hid (by rw [HYE.out, ho, hm, declL, hs]; exact congrArg Except.ok HBB.out)
          clear hs ho ho2 hm
          go_wp2_with (go_at_call 94; refine HU.out.mono ?_; intro e w2 hx; obtain ⟨hb2, rfl⟩ := hx; have HBZ := Lib.hid hb2; clear hb2)
          go_end0
          have HA2 := HA.out.chg (.of_below (X := fun _ => False) HBZ.out) (fun _ _ => id)
          refine ⟨_, _, _, _, _, HA2, HC.out.1.next (.of_below HBZ.out), ?_⟩
          rw [HE.out]
          exact ⟨rfl, rfl⟩
end Go.Proofs.YtnpjhndgdlihjaaDoor
