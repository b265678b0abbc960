/- A row that is being built in a box, beside an iterator. All nodes of a node, handed to a closure; the first ones of them. PRINTED by gen9.py out of H7. -/
import Derived.Test.YtpjcmhlgdgadjaaKc
namespace Go.Proofs.Ytpjcmhlgdgadjaa
open Go.RowKit
set_option linter.unusedVariables false
/-- A row that is being built in a box; neither box nor row are the iterator's. -/
def OutBox (T m tb : Nat) (w : World) (bx n : Nat) (xs : List Value) (A : Nat → Prop) (wr : World) : Prop :=
  w.heap.size ≤ bx ∧ ¬ A bx ∧ ∃ o, Blk wr bx tb #[o] ∧ OutAt T m w n xs o wr ∧ ∀ b, o.ownBlock = some b → ¬ A b
theorem OutAt.form {T m n : Nat} {w wr : World} {xs : List Value} {o : Value} (h : OutAt T m w n xs o wr) : (∃ A c, o = .slice A n c) ∧ wr.ownsRow w.heap.size T m o n xs := by
  obtain ⟨A, c, rfl, h1, h2⟩ := h
  exact ⟨⟨A, c, rfl⟩, h1⟩
theorem own_lt {w : World} {base : Nat} {e : TypeId} {size n : Nat} {v : Value} {xs : List Value} (h : w.ownsRow base e size v n xs) {b : Nat} (hb : v.ownBlock = some b) : base ≤ b ∧ b < w.heap.size := by
  rcases own_form h with ⟨rfl, _⟩ | ⟨b', c', rfl, h3, h4, _⟩
  · cases hb
  · simp only [Value.ownBlock, Option.some.injEq] at hb
    subst hb
    exact ⟨h3, h4⟩
theorem OutBox.shy {T m tb bx n B : Nat} {w W W' : World} {xs : List Value} {A A' : Nat → Prop} (h : OutBox T m tb w bx n xs A W) (hB : w.heap.size ≤ B) (hc : Chg (fun b => B ≤ b ∧ A b) W W') (hA : ∀ b, A' b → A b ∨ W.heap.size ≤ b) : OutBox T m tb w bx n xs A' W' := by
  obtain ⟨h1, h2, o, h3, h4, h5⟩ := h
  obtain ⟨Ao, c, rfl, h6, h7⟩ := h4
  refine ⟨h1, fun h => (hA _ h).elim h2 (by have := h3.lt; omega), _, hc.blk h3 (fun h => h2 h.2), ⟨Ao, c, rfl, hc.own h6 (fun g hg h => h5 g hg h.2), h7.trans (hc.below h7.size (fun k hk h => by omega))⟩, fun b hb h => (hA _ h).elim (h5 b hb) (by have := (own_lt h6 hb).2; omega)⟩
theorem Chg.of_grown {w w' : World} {row : Option Nat} (h : w.grownBy w' row) : Chg (fun b => row = some b) w w' := ⟨h.os, h.tape, h.output, h.size, fun k hk hx => h.block k hk (fun e => hx e.symm)⟩
/-- What has been appended goes into the box. -/
theorem OutBox.put {T m tb bx n N : Nat} {w W W1 W2 W3 : World} {xs ys : List Value} {A : Nat → Prop} {A2 : Option Addr} {c2 : Nat} {v : Value} (hbx : w.heap.size ≤ bx) (hA : ¬ A bx) (hb : Blk W bx tb #[v]) (hv : ∀ b, v.ownBlock = some b → ¬ A b) (hlt : ∀ b, A b → b < W.heap.size) (ho : W.ownsRow w.heap.size T m v n xs)
    (hw : Below w.heap.size w W) (h1 : Chg (fun _ => False) W W1) (r2 : W1.grownBy W2 v.ownBlock) (r3 : (Value.slice A2 N c2).ownBlock = v.ownBlock ∨ (Value.slice A2 N c2).ownBlock = some W1.heap.size) (h3 : Chg (fun b => (Value.slice A2 N c2).ownBlock = some b) W2 W3) (r1 : W3.ownsRow w.heap.size T m (.slice A2 N c2) N ys) (hT : T ≠ tb) :
    OutBox T m tb w bx N ys A (W3.setCell ⟨bx, 0, none⟩ (.slice A2 N c2)) ∧ Chg (fun b => w.heap.size ≤ b ∧ ¬ A b) W (W3.setCell ⟨bx, 0, none⟩ (.slice A2 N c2)) := by
  have hgx : v.ownBlock ≠ some bx := own_blk_ne ho hb hT
  have hz1 := h1.size
  have hblt := hb.lt
  have hb2 : Blk W2 bx tb #[v] := by
    refine (Chg.of_grown r2).blk (h1.blk hb id) hgx
  have hgx2 : (Value.slice A2 N c2).ownBlock ≠ some bx := by
    rcases r3 with r3 | r3 <;> rw [r3]
    · exact hgx
    · intro h
      have := Option.some.inj h
      omega
  have hb3 : Blk W3 bx tb #[v] := h3.blk hb2 hgx2
  have hX : ∀ b, v.ownBlock = some b → w.heap.size ≤ b ∧ ¬ A b := fun b h => ⟨(own_lt ho h).1, hv b h⟩
  have hX2 : ∀ b, (Value.slice A2 N c2).ownBlock = some b → w.heap.size ≤ b ∧ ¬ A b := fun b h => by
    rcases r3 with r3 | r3
    · exact hX b (by rw [← r3]; exact h)
    · rw [r3] at h
      have := Option.some.inj h
      have hs := hw.size
      exact ⟨by omega, fun hA' => by have := hlt b hA'; omega⟩
  have hc3 : Chg (fun b => w.heap.size ≤ b ∧ ¬ A b) W W3 := (h1.mono (fun _ => False.elim)).next (((Chg.of_grown r2).mono hX).next (h3.mono hX2))
  have hc4 : Chg (fun b => w.heap.size ≤ b ∧ ¬ A b) W (W3.setCell ⟨bx, 0, none⟩ (.slice A2 N c2)) := hc3.set (p := ⟨bx, 0, none⟩) (.inr ⟨hbx, hA⟩) _
  refine ⟨⟨hbx, hA, _, by simpa using hb3.set_ 0 (.slice A2 N c2), ⟨A2, c2, rfl, own_far r1 (p := ⟨bx, 0, none⟩) hgx2 _, hw.trans (hc4.below hw.size (fun k hk h => by omega))⟩, fun b hb => (hX2 b hb).2⟩, hc4⟩
theorem same_of_chg {A : Nat → Prop} {B : Nat} {W W' : World} (h : Chg (fun b => B ≤ b ∧ ¬ A b) W W') (hlt : ∀ b, A b → b < W.heap.size) : Same A W W' := fun b hb => h.block b (hlt b hb) (fun h => h.2 hb)
theorem Chg.setRow {X : Nat → Prop} {a w : World} (h : Chg X a w) {b : Nat} (hX : X b) (j : Nat) (u : Value) : Chg X a (w.setCell ⟨b, j, none⟩ u) := h.set (p := ⟨b, j, none⟩) (.inr hX) u
/-- Ten cells are written behind. -/
theorem own_ten {w : World} {base : Nat} {e : TypeId} {n b c : Nat} {xs : List Value} {z0 z1 z2 z3 z4 z5 z6 z7 z8 z9 : Value} (u0 u1 u2 u3 u4 u5 u6 u7 u8 u9 : Value) (hn : xs.length = n * 10) (h : w.ownsRow base e 10 (.slice (some ⟨b, 0, none⟩) (n + 1) c) (n + 1) (xs ++ [z0, z1, z2, z3, z4, z5, z6, z7, z8, z9])) :
    ((((((((((w.setCell ⟨b, n * 10, none⟩ u0).setCell ⟨b, n * 10 + 1, none⟩ u1).setCell ⟨b, n * 10 + 2, none⟩ u2).setCell ⟨b, n * 10 + 3, none⟩ u3).setCell ⟨b, n * 10 + 4, none⟩ u4).setCell ⟨b, n * 10 + 5, none⟩ u5).setCell ⟨b, n * 10 + 6, none⟩ u6).setCell ⟨b, n * 10 + 7, none⟩ u7).setCell ⟨b, n * 10 + 8, none⟩ u8).setCell ⟨b, n * 10 + 9, none⟩ u9).ownsRow base e 10 (.slice (some ⟨b, 0, none⟩) (n + 1) c) (n + 1) (xs ++ [u0, u1, u2, u3, u4, u5, u6, u7, u8, u9]) := by
  have := own_set (own_set (own_set (own_set (own_set (own_set (own_set (own_set (own_set (own_set h (n * 10) (by omega) u0) (n * 10 + 1) (by omega) u1) (n * 10 + 2) (by omega) u2) (n * 10 + 3) (by omega) u3) (n * 10 + 4) (by omega) u4) (n * 10 + 5) (by omega) u5) (n * 10 + 6) (by omega) u6) (n * 10 + 7) (by omega) u7) (n * 10 + 8) (by omega) u8) (n * 10 + 9) (by omega) u9
  have e : ∀ (l : List Value) (j : Nat) (u : Value), (xs ++ l).set (n * 10 + j) u = xs ++ l.set j u := fun l j u => by
    rw [List.set_append_right _ _ (by omega), show n * 10 + j - xs.length = j by omega]
  have e0 : ∀ (l : List Value) (u : Value), (xs ++ l).set (n * 10) u = xs ++ l.set 0 u := fun l u => e l 0 u
  rw [e0] at this
  simpa only [e, List.set_cons_zero, List.set_cons_succ] using this
theorem chg_ten (w : World) (b n : Nat) (u0 u1 u2 u3 u4 u5 u6 u7 u8 u9 : Value) : Chg (· = b) w ((((((((((w.setCell ⟨b, n * 10, none⟩ u0).setCell ⟨b, n * 10 + 1, none⟩ u1).setCell ⟨b, n * 10 + 2, none⟩ u2).setCell ⟨b, n * 10 + 3, none⟩ u3).setCell ⟨b, n * 10 + 4, none⟩ u4).setCell ⟨b, n * 10 + 5, none⟩ u5).setCell ⟨b, n * 10 + 6, none⟩ u6).setCell ⟨b, n * 10 + 7, none⟩ u7).setCell ⟨b, n * 10 + 8, none⟩ u8).setCell ⟨b, n * 10 + 9, none⟩ u9) :=
  ((((((((((Chg.refl (· = b) w).setRow (b := b) rfl _ _).setRow (b := b) rfl _ _).setRow (b := b) rfl _ _).setRow (b := b) rfl _ _).setRow (b := b) rfl _ _).setRow (b := b) rfl _ _).setRow (b := b) rfl _ _).setRow (b := b) rfl _ _).setRow (b := b) rfl _ _).setRow (b := b) rfl _ _
theorem zero_src (w : World) : SrcOK (w.alloc (.cells #[.int .i64 0, .string ⟨#[]⟩, .bool false, .bool false, .slice none 0 0, .slice none 0 0, .slice none 0 0, .slice none 0 0, .slice none 0 0, .slice none 0 0] 28)) (.slice (some ⟨w.heap.size, 0, none⟩) 1 1) 1 10 [.int .i64 0, .string ⟨#[]⟩, .bool false, .bool false, .slice none 0 0, .slice none 0 0, .slice none 0 0, .slice none 0 0, .slice none 0 0, .slice none 0 0] :=
  SrcOK.blk (c := 1) (cs := [.int .i64 0, .string ⟨#[]⟩, .bool false, .bool false, .slice none 0 0, .slice none 0 0, .slice none 0 0, .slice none 0 0, .slice none 0 0, .slice none 0 0]) (Blk.new w 28 _) rfl (fun x hx => by simp at hx; rcases hx with rfl | rfl | rfl | rfl <;> rfl)
theorem set_past {w : World} {bx g : Nat} (h : g ≠ bx) {u v : Value} {i j : Nat} : (w.setCell ⟨bx, j, none⟩ v).setCell ⟨g, i, none⟩ u = (w.setCell ⟨g, i, none⟩ u).setCell ⟨bx, j, none⟩ v := by
  unfold World.setCell
  congr 1
  apply Array.ext
  · simp
  · intro k h1 h2
    simp only [Array.getElem_modify]
    by_cases hg : g = k <;> by_cases hb : bx = k <;> simp [hg, hb] <;> omega
theorem own_some {w : World} {base : Nat} {e : TypeId} {size n c : Nat} {A : Option Addr} {xs : List Value} (h : w.ownsRow base e size (.slice A (n + 1) c) (n + 1) xs) : ∃ g, A = some ⟨g, 0, none⟩ ∧ base ≤ g ∧ g < w.heap.size := by
  rcases own_form h with ⟨_, h0⟩ | ⟨b, c', e, h1, h2, _⟩
  · omega
  · cases e
    exact ⟨b, rfl, h1, h2⟩
theorem own_nth {xs : List Value} {n : Nat} (h : xs.length = n * 10) {l : List Value} {j : Nat} : (xs ++ l)[n * 10 + j]? = l[j]? := by
  rw [List.getElem?_append_right (by omega), show n * 10 + j - xs.length = j by omega]
theorem own_nth0 {xs : List Value} {n : Nat} (h : xs.length = n * 10) {l : List Value} : (xs ++ l)[n * 10]? = l[0]? := own_nth (j := 0) h
set_option maxRecDepth 100000 in
set_option maxHeartbeats 3200000 in
theorem nodes1_any {w W w0 : World} {bx b2 n : Nat} {xs : List Value} {A Ad : Nat → Prop} {most : Int} {t : Tr} (hO : OutBox 28 10 26 w bx n xs A W) (hlt : ∀ b, A b → b < W.heap.size) (hm : Blk W b2 3 #[.int .i64 most]) (hn : n + 1 ≤ 1048576) (ht : Lies Ad w0 .node t) :
    Calls Try.prog 31 #[.agg t.cs.toArray, .pointer (some ⟨bx, 0, none⟩), .pointer (some ⟨b2, 0, none⟩)] W fun e W' => e = .returned (.bool (decide (((n + 1 : Nat) : Int) < most))) ∧ OutBox 28 10 26 w bx (n + 1) (xs ++ t.cs) A W' ∧ Chg (fun b => w.heap.size ≤ b ∧ ¬ A b) W W' ∧ Blk W' b2 3 #[.int .i64 most] := by
  obtain ⟨zk, zs, z1, z2, zoa, zon, zoc, zaa, zan, zac, zwa, zwn, zwc, zra, zrn, zrc, zma, zmn, zmc, zka, zkn, zkc, hcs⟩ := ht.node10
  rw [hcs]
  clear ht hcs
  obtain ⟨hbx, hAb, o, hblk, hout, hoA⟩ := hO
  obtain ⟨Ao, oc, rfl, ho, hbw⟩ := hout
  have hws := hbw.size
  have y0 := (hblk.alloc (.cells #[.int .i64 zk, .string zs, .bool z1, .bool z2, .slice zoa zon zoc, .slice zaa zan zac, .slice zwa zwn zwc, .slice zra zrn zrc, .slice zma zmn zmc, .slice zka zkn zkc] 28)).cell 0
  have y1 := (hblk.alloc (.cells #[.int .i64 zk, .string zs, .bool z1, .bool z2, .slice zoa zon zoc, .slice zaa zan zac, .slice zwa zwn zwc, .slice zra zrn zrc, .slice zma zmn zmc, .slice zka zkn zkc] 28)).frozen 0
  simp at y0
  have hblt := hblk.lt
  have HO := Lib.hid ho
  have HB := Lib.hid hbw
  have HBLK := Lib.hid hblk
  have HM := Lib.hid hm
  have HOA := Lib.hid hoA
  have HLT := Lib.hid hlt
  have HO2 : Hid (∀ y : World, y.heap = ((W.alloc (.cells #[.int .i64 zk, .string zs, .bool z1, .bool z2, .slice zoa zon zoc, .slice zaa zan zac, .slice zwa zwn zwc, .slice zra zrn zrc, .slice zma zmn zmc, .slice zka zkn zkc] 28)).alloc (.cells #[.int .i64 0, .string ⟨#[]⟩, .bool false, .bool false, .slice none 0 0, .slice none 0 0, .slice none 0 0, .slice none 0 0, .slice none 0 0, .slice none 0 0] 28)).heap → y.ownsRow w.heap.size 28 10 (.slice Ao n oc) n xs) := Lib.hid (fun y hy => by
    have h1 := (ho.alloc (.cells #[.int .i64 zk, .string zs, .bool z1, .bool z2, .slice zoa zon zoc, .slice zaa zan zac, .slice zwa zwn zwc, .slice zra zrn zrc, .slice zma zmn zmc, .slice zka zkn zkc] 28)).alloc (.cells #[.int .i64 0, .string ⟨#[]⟩, .bool false, .bool false, .slice none 0 0, .slice none 0 0, .slice none 0 0, .slice none 0 0, .slice none 0 0, .slice none 0 0] 28)
    unfold World.ownsRow at h1 ⊢
    rwa [hy])
  have HZ2 : Hid (∀ y : World, y.heap = ((W.alloc (.cells #[.int .i64 zk, .string zs, .bool z1, .bool z2, .slice zoa zon zoc, .slice zaa zan zac, .slice zwa zwn zwc, .slice zra zrn zrc, .slice zma zmn zmc, .slice zka zkn zkc] 28)).alloc (.cells #[.int .i64 0, .string ⟨#[]⟩, .bool false, .bool false, .slice none 0 0, .slice none 0 0, .slice none 0 0, .slice none 0 0, .slice none 0 0, .slice none 0 0] 28)).heap → SrcOK y (.slice (some ⟨W.heap.size + 1, 0, none⟩) 1 1) 1 10 [.int .i64 0, .string ⟨#[]⟩, .bool false, .bool false, .slice none 0 0, .slice none 0 0, .slice none 0 0, .slice none 0 0, .slice none 0 0, .slice none 0 0]) := Lib.hid (fun y hy => by
    have h1 := zero_src (W.alloc (.cells #[.int .i64 zk, .string zs, .bool z1, .bool z2, .slice zoa zon zoc, .slice zaa zan zac, .slice zwa zwn zwc, .slice zra zrn zrc, .slice zma zmn zmc, .slice zka zkn zkc] 28))
    rw [World.size_alloc] at h1
    unfold SrcOK World.cell? at h1 ⊢
    rwa [hy])
  clear ho hbw hblk hm hoA hlt
  go_enter Try.func31, Try.ntmps31
  have hnn : (n : Int) < (n : Int) + 1 := by omega
  go_wp2_with fail
  go_region_law (first
    | (refine step_app ElNode (.tmp 5) (.tmp 8) ?_ ?_ (base := w.heap.size) (n := n) (m := 1) (N := n + 1) (v := .slice Ao n oc) (src := .slice (some ⟨W.heap.size + 1, 0, none⟩) 1 1) (xs := xs) (news := [.int .i64 0, .string ⟨#[]⟩, .bool false, .bool false, .slice none 0 0, .slice none 0 0, .slice none 0 0, .slice none 0 0, .slice none 0 0, .slice none 0 0]) ?_ ?_ ?_ ?_ ?_ ?_ ?_ ?_ ?_
       · rfl
       · rfl
       · rfl
       · rfl
       · exact HO2.out _ rfl
       · exact HZ2.out _ rfl
       · rfl
       · unfold maxLen; omega
       · omega
       · simp; omega
       intro A2 c2 w2 q1 q2 q3
       obtain ⟨g, rfl, hg0, hg1⟩ := own_some q1
       have k0 := own_cell q1 (n * 10) (by omega)
       have k1 := own_cell q1 (n * 10 + 1) (by omega)
       have k2 := own_cell q1 (n * 10 + 2) (by omega)
       have k3 := own_cell q1 (n * 10 + 3) (by omega)
       have k4 := own_cell q1 (n * 10 + 4) (by omega)
       have k5 := own_cell q1 (n * 10 + 5) (by omega)
       have k6 := own_cell q1 (n * 10 + 6) (by omega)
       have k7 := own_cell q1 (n * 10 + 7) (by omega)
       have k8 := own_cell q1 (n * 10 + 8) (by omega)
       have k9 := own_cell q1 (n * 10 + 9) (by omega)
       rw [own_nth0 HO.out.1] at k0
       rw [own_nth HO.out.1] at k1 k2 k3 k4 k5 k6 k7 k8 k9
       simp only [List.getElem?_cons_zero, List.getElem?_cons_succ] at k0 k1 k2 k3 k4 k5 k6 k7 k8 k9
       have f0 := own_frozen q1 (n * 10)
       have f1 := own_frozen q1 (n * 10 + 1)
       have f2 := own_frozen q1 (n * 10 + 2)
       have f3 := own_frozen q1 (n * 10 + 3)
       have f4 := own_frozen q1 (n * 10 + 4)
       have f5 := own_frozen q1 (n * 10 + 5)
       have f6 := own_frozen q1 (n * 10 + 6)
       have f7 := own_frozen q1 (n * 10 + 7)
       have f8 := own_frozen q1 (n * 10 + 8)
       have f9 := own_frozen q1 (n * 10 + 9)
       have hbx2 := q2.blk (g := bx) (t := 26) (cs := #[.slice Ao n oc]) ((HBLK.out.alloc _).alloc _) (.inr (by decide))
       have hgb := own_blk_ne q1 hbx2 (by decide)
       have hgb' : g ≠ bx := fun h => hgb (by rw [h]; rfl)
       have j0 := hbx2.cell 0
       have j1 := hbx2.frozen 0
       simp at j0
       have HQ1 := Lib.hid q1
       have HQ2 := Lib.hid q2
       have HQ3 := Lib.hid q3
       clear q1 q2 q3 hbx2 hgb))
  all_goals
    try simp only [set_past hgb']
    have hr := own_ten (.int .i64 zk) (.string zs) (.bool z1) (.bool z2) (.slice zoa zon zoc) (.slice zaa zan zac) (.slice zwa zwn zwc) (.slice zra zrn zrc) (.slice zma zmn zmc) (.slice zka zkn zkc) HO.out.1 HQ1.out
    have hc3 := (chg_ten w2 g n (.int .i64 zk) (.string zs) (.bool z1) (.bool z2) (.slice zoa zon zoc) (.slice zaa zan zac) (.slice zwa zwn zwc) (.slice zra zrn zrc) (.slice zma zmn zmc) (.slice zka zkn zkc)).mono (Y := fun b => (Value.slice (some ⟨g, 0, none⟩) (n + 1) c2).ownBlock = some b) (fun b hb => by rw [hb]; rfl)
    have hm2 : Blk w2 b2 3 #[.int .i64 most] := HQ2.out.blk ((HM.out.alloc _).alloc _) (.inr (by decide))
    have hbx2 : Blk w2 bx 26 #[.slice Ao n oc] := HQ2.out.blk ((HBLK.out.alloc _).alloc _) (.inr (by decide))
    have hmg : g ≠ b2 := fun h => own_blk_ne HQ1.out hm2 (by decide) (by rw [h]; rfl)
    have hmb : b2 ≠ bx := hm2.ne_ hbx2 (by decide)
    have hm3 := hc3.blk hm2 (fun h => hmg (by simpa [Value.ownBlock] using h))
    have hp := OutBox.put hbx hAb HBLK.out HOA.out HLT.out HO.out HB.out (by repeat (first | exact Chg.refl _ _ | refine Chg.alloc ?_ _ | refine Chg.drew ?_)) HQ3.out.1 HQ3.out.2 hc3 hr (by decide)
    have hm4 := hm3.far (p := ⟨bx, 0, none⟩) hmb (.slice (some ⟨g, 0, none⟩) (n + 1) c2)
    generalize ((((((((((w2.setCell ⟨g, n * 10, none⟩ (.int .i64 zk)).setCell ⟨g, n * 10 + 1, none⟩ (.string zs)).setCell ⟨g, n * 10 + 2, none⟩ (.bool z1)).setCell ⟨g, n * 10 + 3, none⟩ (.bool z2)).setCell ⟨g, n * 10 + 4, none⟩ (.slice zoa zon zoc)).setCell ⟨g, n * 10 + 5, none⟩ (.slice zaa zan zac)).setCell ⟨g, n * 10 + 6, none⟩ (.slice zwa zwn zwc)).setCell ⟨g, n * 10 + 7, none⟩ (.slice zra zrn zrc)).setCell ⟨g, n * 10 + 8, none⟩ (.slice zma zmn zmc)).setCell ⟨g, n * 10 + 9, none⟩ (.slice zka zkn zkc)).setCell ⟨bx, 0, none⟩ (.slice (some ⟨g, 0, none⟩) (n + 1) c2) = w4 at *
    obtain ⟨-, -, o4, hb4, ⟨A4, c4, rfl, -, -⟩, -⟩ := hp.1
    have s0 := hb4.cell 0
    have s1 := hm4.cell 0
    simp at s0 s1
    have HP := Lib.hid hp
    have HM4 := Lib.hid hm4
    clear hp hm4 hb4 hm3 hc3 hr hm2 hbx2 hmg hmb HQ1 HQ2 HQ3 k0 k1 k2 k3 k4 k5 k6 k7 k8 k9 f0 f1 f2 f3 f4 f5 f6 f7 f8 f9 j0 j1 y0 y1 HO2 HZ2
    go_wp2
    go_ret
    exact ⟨by simp, HP.out.1, HP.out.2, HM4.out⟩
end Go.Proofs.Ytpjcmhlgdgadjaa

namespace Go.Proofs.Ytpjcmhlgdgadjaa
open Go.RowKit
set_option linter.unusedVariables false
attribute [local go_sem] Oper.semAt_some
set_option maxRecDepth 100000 in
set_option maxHeartbeats 3200000 in
theorem all1_clo {F : Nat} {p1 p2 : Value} (eg : ∀ args y, (callFunc F args).run Try.prog y = .ok (.enter F args) y) {t : Tr} (hsz : t.sz ≤ 1048576) {A : Nat → Prop} {W : World} {bx : Nat} (hAW : ∀ b, A b → b < W.heap.size) (hbx : A bx) (hlW : Lies A W .node t) (hbW : Blk W bx 28 t.cs.toArray)
    {J : List Tr → (Nat → Prop) → World → Prop} {Jx : Unit → (Nat → Prop) → World → Prop} (hJ : Shy W.heap.size J) (hJx : Shy W.heap.size Jx)
    (hY : ∀ pre x A' W1, J pre A' W1 → pre ++ [x] <+: all t → (∀ b, A b → A' b) → (∀ b, A' b → b < W1.heap.size) → Calls Try.prog F #[.agg x.cs.toArray, p1, p2] W1 fun e W' =>
      W1.heap.size ≤ W'.heap.size ∧ Same A' W1 W' ∧ ((e = .returned (.bool true) ∧ J (pre ++ [x]) A' W') ∨ (e = .returned (.bool false) ∧ Jx () A' W')))
    (h0 : J [] A W) :
    Calls Try.prog 46 #[.func (.func F) #[] #[p1, p2], .pointer (some ⟨bx, 0, none⟩)] W fun e W' => (∃ v, e = .returned v) ∧ ∃ A' : Nat → Prop, (∀ b, A b → A' b) ∧ (∀ b, A' b → b < W'.heap.size) ∧ (J (all t) A' W' ∨ Jx () A' W') := by
    refine (callsIn_wide (n := 0)).1 ?_
    have HBW := Lib.hid hbW
    obtain ⟨zk, zs, z1, z2, zoa, zon, zoc, zaa, zan, zac, zwa, zwn, zwc, zra, zrn, zrc, zma, zmn, zmc, zka, zkn, zkc, hcs⟩ := hlW.node10
    obtain ⟨W1, hW1⟩ : ∃ W1, W.alloc (.cells #[.func (.func F) #[] #[p1, p2]] 34) = W1 := ⟨_, rfl⟩
    have hb1 : Below W.heap.size W W1 := by rw [← hW1]; exact below_alloc _ _
    have hs1 : W1.heap.size = W.heap.size + 1 := by rw [← hW1]; simp
    have hyb1 : Blk W1 W.heap.size 34 #[.func (.func F) #[] #[p1, p2]] := by rw [← hW1]; exact Blk.new _ _ _
    have hx1 : Blk W1 bx 28 t.cs.toArray := hbW.below hb1 (hAW bx hbx)
    have hR := hY [] t (Grow A W W1) W1 (hJ.grow h0 hb1) ⟨allL (below t), by rw [all_eq]; rfl⟩ (fun b hb => .inl hb) (grow_lt hAW hb1.size)
    have HY := Lib.hid hY
    have HJ := Lib.hid hJ
    have HJX := Lib.hid hJx
    have HAW := Lib.hid hAW
    have HL := Lib.hid hlW
    have HB1 := Lib.hid hb1
    have HYB := Lib.hid hyb1
    have HX1 := Lib.hid hx1
    have c0 := hyb1.cell 0
    have hx2 := hx1
    rw [hcs] at hx2 hR
    have d0 := hx2.cell 0
    have d1 := hx2.cell 1
    have d2 := hx2.cell 2
    have d3 := hx2.cell 3
    have d4 := hx2.cell 4
    have d5 := hx2.cell 5
    have d6 := hx2.cell 6
    have d7 := hx2.cell 7
    have d8 := hx2.cell 8
    have d9 := hx2.cell 9
    simp at c0 d0 d1 d2 d3 d4 d5 d6 d7 d8 d9
    have HCS := Lib.hid hcs
    clear hY hJ hJx hAW hlW hb1 hyb1 hx1 hx2 hcs hbW h0
    refine callsIn_of_wp_marks Try.func46 rfl trivial ?_ rfl
    simp only [Try.ntmps46, List.size_toArray, List.length_cons, List.length_nil, Nat.reduceAdd, Nat.reduceSub, Array.replicate_succ, Array.replicate_zero, List.push_toArray, List.append_toArray, List.nil_append, List.cons_append]
    gi_wp2
    refine ⟨trivial, rfl, (callsIn_wide.2 hR).mono ?_⟩
    clear hR
    rintro e W2 ⟨hs2, hsame2, (⟨rfl, hJ2⟩ | ⟨rfl, hJ2⟩)⟩
    case inr =>
      gi_wp2
      exact ⟨_, results_none rfl _ _ _, ⟨_, rfl⟩, _, fun b hb => .inl hb, fun b hb => Nat.lt_of_lt_of_le (grow_lt HAW.out HB1.out.size b hb) hs2, .inr hJ2⟩
    have hx2 : Blk W2 bx 28 t.cs.toArray := (hsame2 bx (.inl hbx)).trans HX1.out
    have hyb2 : Blk W2 W.heap.size 34 #[.func (.func F) #[] #[p1, p2]] := (hsame2 W.heap.size (.inr ⟨Nat.le_refl _, by omega⟩)).trans HYB.out
    have hl2 : Lies (Grow A W W1) W2 .node t := HL.out.keep (fun _ => .inl) (Nat.le_trans HB1.out.size hs2) (fun b hb => (hsame2 b (.inl hb)).trans (HB1.out.block b (HAW.out b hb)))
    have hlt2 : ∀ b, Grow A W W1 b → b < W2.heap.size := fun b hb => Nat.lt_of_lt_of_le (grow_lt HAW.out HB1.out.size b hb) hs2
    have hx2' := hx2
    rw [HCS.out] at hx2'
    have d0 := hx2'.cell 0
    have d1 := hx2'.cell 1
    have d2 := hx2'.cell 2
    have d3 := hx2'.cell 3
    have d4 := hx2'.cell 4
    have d5 := hx2'.cell 5
    have d6 := hx2'.cell 6
    have d7 := hx2'.cell 7
    have d8 := hx2'.cell 8
    have d9 := hx2'.cell 9
    simp at d0 d1 d2 d3 d4 d5 d6 d7 d8 d9
    have hbl := below_any (w := W2) hl2
    rw [HCS.out] at hbl
    obtain ⟨W3, hW3⟩ : ∃ W3, W2.alloc (.cells t.cs.toArray 28) = W3 := ⟨_, rfl⟩
    have hb3 : Below W2.heap.size W2 W3 := by rw [← hW3]; exact below_alloc _ _
    have hx3 : Blk W3 W2.heap.size 28 t.cs.toArray := by rw [← hW3]; exact Blk.new _ _ _
    have hs3 : W3.heap.size = W2.heap.size + 1 := by rw [← hW3]; simp
    have hW3' := hW3
    rw [HCS.out] at hW3'
    have HBL := Lib.hid hbl
    have HW3 := Lib.hid hW3'
    have hl3 := hl2.grow (It.refl hlt2) hb3
    have hlt3 : ∀ b, Grow (Grow A W W1) W2 W3 b → b < W3.heap.size := grow_lt hlt2 hb3.size
    have hseq := below1_seq hsz hlt3 (.inr ⟨Nat.le_refl _, by omega⟩) hl3 hx3
    have hJ3 := HJ.out.grow hJ2 hb3
    have HYB3 := Lib.hid (hyb2.below hb3 (by have := hyb2.lt; omega))
    have hsup3 : ∀ b, A b → Grow (Grow A W W1) W2 W3 b := fun b hb => .inl (.inl hb)
    have hyin : Grow (Grow A W W1) W2 W3 W.heap.size := .inl (.inr ⟨Nat.le_refl _, by omega⟩)
    generalize Grow (Grow A W W1) W2 W3 = A3 at *
    have hWW3 : W.heap.size < W3.heap.size := by omega
    have HL3 := Lib.hid hl3
    have HLT3 := Lib.hid hlt3
    have HSEQ := Lib.hid hseq
    have HJ3 := Lib.hid hJ3
    have HSUP3 := Lib.hid hsup3
    clear hx2 hyb2 hl2 hlt2 hx2' hbl hW3 hb3 hx3 hW3' hl3 hlt3 hseq hJ3 hsup3 hJ2 hsame2 HX1 HYB HL HB1 c0
    gi_wp2_with (refine ⟨trivial, rfl, ?_⟩; gi_at_call 32; refine (callsIn_wide.2 HBL.out).mono ?_; rintro e w1 ⟨rfl, rfl⟩; rw [HW3.out])
    clear HBL HW3 d0 d1 d2 d3 d4 d5 d6 d7 d8 d9
    refine range_top (gf := 47) (lb := #[.pointer (some ⟨W2.heap.size, 0, none⟩)]) rfl (fun _ _ => by kernel_rfl) HSEQ.out HLT3.out (fun _ => rfl)
      (fun pre A' W' => J (t :: pre.flatMap all) A' W' ∧ Same A3 W3 W' ∧ W3.heap.size ≤ W'.heap.size) (fun c A' W' => c = .ret ∧ Jx () A' W') ?hI ?hIx ?h0 ?hround ?hdone ?hstop
    case hI =>
      rintro s A1 A2 U U' ⟨h1, h2, h3⟩ hc hA'
      exact ⟨HJ.out _ _ _ _ _ h1 (hc.mono fun i hi => ⟨by omega, hi.2⟩) hA', h2.trans (fun b hb => hc.block b (Nat.lt_of_lt_of_le (HLT3.out b hb) h3) (fun h => by have := HLT3.out b hb; omega)), Nat.le_trans h3 hc.size⟩
    case hIx =>
      rintro c s A1 A2 U U' ⟨h1, h2⟩ hc hA'
      exact ⟨h1, HJX.out _ _ _ _ _ h2 (hc.mono fun i hi => ⟨by omega, hi.2⟩) hA'⟩
    case h0 => exact ⟨HJ3.out, fun _ _ => rfl, Nat.le_refl _⟩
    case hround =>
      rintro l1 pre k A5 W5 hpre hl1 hl1W hAl hsup hlt ⟨hj, hsame, hsz5⟩
      have hkb : k ∈ below t := hpre.subset (by simp)
      have hlk3 := below_lies HL3.out k hkb
      have hks2 : k.sz ≤ 1048576 := by have h1 := szL_mem hkb; have h2 := sz_below t; omega
      obtain ⟨yk, ys, y1, y2, yoa, yon, yoc, yaa, yan, yac, ywa, ywn, ywc, yra, yrn, yrc, yma, ymn, ymc, yka, ykn, ykc, hkc⟩ := hlk3.node10
      obtain ⟨W6, hW6⟩ : ∃ W6, W5.alloc (.cells k.cs.toArray 28) = W6 := ⟨_, rfl⟩
      have hb6 : Below W5.heap.size W5 W6 := by rw [← hW6]; exact below_alloc _ _
      have hx6 : Blk W6 W5.heap.size 28 k.cs.toArray := by rw [← hW6]; exact Blk.new _ _ _
      have hs6 : W6.heap.size = W5.heap.size + 1 := by rw [← hW6]; simp
      have hj6 := HJ.out.grow hj hb6
      have HW6 := Lib.hid hW6
      have HB6 := Lib.hid hb6
      have HX6 := Lib.hid hx6
      have HJ6 := Lib.hid hj6
      have HLT := Lib.hid hlt
      have HSUP := Lib.hid hsup
      have HSM := Lib.hid hsame
      have HPRE := Lib.hid hpre
      have HLK3 := Lib.hid hlk3
      have HKC := Lib.hid hkc
      rw [hkc] at hW6
      simp only [enc1, hkc]
      clear hb6 hx6 hj6 hlt hsup hsame hpre hkc hlk3 hj hkb
      simp
      gi_wp2
      refine ⟨by omega, fun b hb => HB6.out.block b (HLT.out b hb), fun W7 hc7 hs7 r hr => ?_⟩
      have hx7 : Blk W7 W5.heap.size 28 k.cs.toArray := hc7.blk HX6.out (by omega)
      have hj7 := HJ.out.step HJ6.out (hc7.mono (fun b hb => by subst hb; exact ⟨by omega, .inl hAl⟩))
      have hlt7 : ∀ b, Grow A5 W5 W6 b → b < W7.heap.size := fun b hb => by have := grow_lt HLT.out HB6.out.size b hb; omega
      obtain ⟨W8, hW8⟩ : ∃ W8, W7.alloc (.cells k.cs.toArray 28) = W8 := ⟨_, rfl⟩
      have hb8 : Below W7.heap.size W7 W8 := by rw [← hW8]; exact below_alloc _ _
      have hx8 : Blk W8 W7.heap.size 28 k.cs.toArray := by rw [← hW8]; exact Blk.new _ _ _
      have hs8 : W8.heap.size = W7.heap.size + 1 := by rw [← hW8]; simp
      have hj8 := HJ.out.grow hj7 hb8
      have hlt8 := grow_lt hlt7 hb8.size
      have hm8 : Grow (Grow A5 W5 W6) W7 W8 W7.heap.size := .inr ⟨Nat.le_refl _, by omega⟩
      have hsup8 : ∀ b, A5 b → Grow (Grow A5 W5 W6) W7 W8 b := fun b hb => .inl (.inl hb)
      have hr8 : W8.heap[l1]? = some (.loop r) := (hb8.block l1 (by omega)).trans hr
      have hsame8 : Same A3 W3 W8 := fun b hb => by
        have h3 := HLT3.out b hb
        exact (hb8.block b (by omega)).trans ((hc7.block b (by omega) (by omega)).trans ((HB6.out.block b (by omega)).trans (HSM.out b hb)))
      have hsm58 : Same A5 W7 W8 := fun b hb => hb8.block b (by have := HLT.out b hb; omega)
      have hlk8 : Lies (Grow (Grow A5 W5 W6) W7 W8) W8 .node k := HLK3.out.keep (fun b hb => hsup8 b (HSUP.out b hb)) (by omega) hsame8
      have hseq8 := all1_seq _ k (Nat.le_refl _) hks2 _ W8 W7.heap.size hlt8 hm8 hlk8 hx8
      have hfn := all_fn (w := W7) HLK3.out
      rw [hW8] at hfn
      generalize Grow (Grow A5 W5 W6) W7 W8 = A8 at *
      have d0 := hx7
      rw [HKC.out] at d0 hfn
      have c0 := d0.cell 0
      have c1 := d0.cell 1
      have c2 := d0.cell 2
      have c3 := d0.cell 3
      have c4 := d0.cell 4
      have c5 := d0.cell 5
      have c6 := d0.cell 6
      have c7 := d0.cell 7
      have c8 := d0.cell 8
      have c9 := d0.cell 9
      simp at c0 c1 c2 c3 c4 c5 c6 c7 c8 c9
      have HFN := Lib.hid hfn
      have HSEQ8 := Lib.hid hseq8
      have HLT8 := Lib.hid hlt8
      have HSUP8 := Lib.hid hsup8
      have HS8 := Lib.hid hsame8
      have HS58 := Lib.hid hsm58
      have HR8 := Lib.hid hr8
      have HJ8 := Lib.hid hj8
      clear hfn hseq8 hlt8 hsup8 hsame8 hsm58 hj8 hlk8 hx7 hj7 hlt7 hb8 hx8 hm8 d0 HJ6 HX6 hW8 hc7 hr HW6 HB6 HLK3 hks2 hr8
      gi_wp2_with (refine ⟨trivial, rfl, ?_⟩; gi_at_call 30; refine CallsIn.inRound l1 ((callsIn_wide.2 HFN.out).mono ?_); rintro e w1 ⟨rfl, hw1⟩; rw [hw1]; clear hw1)
      clear c0 c1 c2 c3 c4 c5 c6 c7 c8 c9 HFN
      refine range_in (l₀ := l1) (r₀ := r) HR8.out (gf := 46) (lb := #[.pointer (some ⟨W7.heap.size, 0, none⟩)]) rfl (fun _ _ => by kernel_rfl) HSEQ8.out HLT8.out (fun _ => rfl)
        (fun pre2 A' W' => J (t :: pre.flatMap all ++ pre2) A' W' ∧ Same A3 W3 W' ∧ Same A5 W7 W' ∧ W8.heap.size ≤ W'.heap.size) (fun c A' W' => c = .ret ∧ Jx () A' W' ∧ Same A5 W7 W' ∧ W8.heap.size ≤ W'.heap.size) ?iI ?iIx ?i0 ?iround ?idone ?istop
      case iI =>
        rintro s A1 A2 U U' ⟨h1, h2, h3, h4⟩ hc hA'
        refine ⟨HJ.out _ _ _ _ _ h1 (hc.mono fun i hi => ⟨by omega, hi.2⟩) hA', h2.trans (fun b hb => ?_), h3.trans (fun b hb => ?_), Nat.le_trans h4 hc.size⟩
        · have := HLT3.out b hb
          exact hc.block b (by omega) (fun h => by omega)
        · have := HLT.out b hb
          exact hc.block b (by omega) (fun h => by omega)
      case iIx =>
        rintro c s A1 A2 U U' ⟨h1, h2, h3, h4⟩ hc hA'
        refine ⟨h1, HJX.out _ _ _ _ _ h2 (hc.mono fun i hi => ⟨by omega, hi.2⟩) hA', h3.trans (fun b hb => ?_), Nat.le_trans h4 hc.size⟩
        have := HLT.out b hb
        exact hc.block b (by omega) (fun h => by omega)
      case i0 => exact ⟨by simpa using HJ8.out, HS8.out, HS58.out, Nat.le_refl _⟩
      case idone =>
        rintro A9 W9 hsup9 hlt9 ⟨h1, h2, h3, h4⟩
        gi_wp2
        refine ⟨by omega, h3, ?_, h2, by omega⟩
        have := HJ.out.less h1 (A' := A5) (fun b hb => hsup9 b (HSUP8.out b hb))
        simpa [List.flatMap_append] using this
      case istop =>
        rintro c A9 W9 hsup9 hlt9 ⟨rfl, h1, h3, h4⟩
        gi_wp2
        exact ⟨by omega, h3, rfl, HJX.out.less h1 (fun b hb => hsup9 b (HSUP8.out b hb))⟩
      case iround =>
        rintro l2 pre2 x A9 W9 hpre2 hl2 hl2W hAl2 hsup9 hlt9 ⟨h1, h2, h3, h4⟩
        have hxa : x ∈ all k := hpre2.subset (by simp)
        have hkl : Lies A3 W3 .node k := by
          have hkb : k ∈ below t := HPRE.out.subset (by simp)
          exact below_lies HL3.out k hkb
        have hlx : Lies A3 W3 .node x := all_lies _ [k] (Nat.le_refl _) (by simpa using hkl) x hxa
        obtain ⟨xk, xs, x1, x2, xoa, xon, xoc, xaa, xan, xac, xwa, xwn, xwc, xra, xrn, xrc, xma, xmn, xmc, xka, xkn, xkc, hxc⟩ := hlx.node10
        obtain ⟨Wa, hWa⟩ : ∃ Wa, W9.alloc (.cells x.cs.toArray 28) = Wa := ⟨_, rfl⟩
        have hba : Below W9.heap.size W9 Wa := by rw [← hWa]; exact below_alloc _ _
        have hxa' : Blk Wa W9.heap.size 28 x.cs.toArray := by rw [← hWa]; exact Blk.new _ _ _
        have hsa : Wa.heap.size = W9.heap.size + 1 := by rw [← hWa]; simp
        have hja := HJ.out.grow h1 hba
        rw [hxc] at hWa
        have HBA := Lib.hid hba
        have HXA := Lib.hid hxa'
        have HJA := Lib.hid hja
        have HXC := Lib.hid hxc
        have H2 := Lib.hid h2
        have H3 := Lib.hid h3
        have HLT9 := Lib.hid hlt9
        have HSUP9 := Lib.hid hsup9
        have HPRE2 := Lib.hid hpre2
        have hpx : t :: pre.flatMap all ++ pre2 ++ [x] <+: all t := by
          obtain ⟨q, hq⟩ := HPRE.out
          obtain ⟨q2, hq2⟩ := HPRE2.out
          refine ⟨q2 ++ q.flatMap all, ?_⟩
          rw [all_eq, allL_flat, ← hq, List.flatMap_append, List.flatMap_append, List.flatMap_cons, List.flatMap_nil, List.append_nil, ← hq2]
          simp [List.append_assoc]
        have HPX := Lib.hid hpx
        simp only [enc1, hxc]
        clear hxa hkl hlx hba hxa' hja hxc h1 h2 h3 hlt9 hsup9 hpre2 hpx
        simp
        gi_wp2
        refine ⟨by omega, fun b hb => HBA.out.block b (HLT9.out b hb), fun Wb hcb hsb rb hrb => ?_⟩
        have hxb : Blk Wb W9.heap.size 28 x.cs.toArray := hcb.blk HXA.out (by omega)
        have hjb := HJ.out.step HJA.out (hcb.mono (fun b hb => by subst hb; exact ⟨by omega, .inl hAl2⟩))
        have hsupb : ∀ b, A b → Grow A9 W9 Wa b := fun b hb => .inl (HSUP9.out b (HSUP8.out b (HSUP.out b (HSUP3.out b hb))))
        have hltb : ∀ b, Grow A9 W9 Wa b → b < Wb.heap.size := fun b hb => by have := grow_lt HLT9.out HBA.out.size b hb; omega
        have hs3b : Same A3 W3 Wb := fun b hb => by
          have h3 := HLT3.out b hb
          exact (hcb.block b (by omega) (by omega)).trans ((HBA.out.block b (by omega)).trans (H2.out b hb))
        have hs5b : Same A5 W7 Wb := fun b hb => by
          have h3 := HLT.out b hb
          exact (hcb.block b (by omega) (by omega)).trans ((HBA.out.block b (by omega)).trans (H3.out b hb))
        have hyb : Blk Wb W.heap.size 34 #[.func (.func F) #[] #[p1, p2]] := (hs3b _ hyin).trans HYB3.out
        have hR := HY.out _ x _ Wb hjb HPX.out hsupb hltb
        have d0 := hxb
        rw [HXC.out] at d0
        rw [HXC.out] at hR
        have c0 := d0.cell 0
        have c1 := d0.cell 1
        have c2 := d0.cell 2
        have c3 := d0.cell 3
        have c4 := d0.cell 4
        have c5 := d0.cell 5
        have c6 := d0.cell 6
        have c7 := d0.cell 7
        have c8 := d0.cell 8
        have c9 := d0.cell 9
        have yb0 := hyb.cell 0
        simp at c0 c1 c2 c3 c4 c5 c6 c7 c8 c9 yb0
        have HS3B := Lib.hid hs3b
        have HS5B := Lib.hid hs5b
        have hsup3b : ∀ b, A3 b → Grow A9 W9 Wa b := fun b hb => .inl (HSUP9.out b (HSUP8.out b (HSUP.out b hb)))
        have hsup5b : ∀ b, A5 b → Grow A9 W9 Wa b := fun b hb => .inl (HSUP9.out b (HSUP8.out b hb))
        have HSUP3B := Lib.hid hsup3b
        have HSUP5B := Lib.hid hsup5b
        clear hxb hjb hsupb hltb hs3b hs5b hyb d0 hsup3b hsup5b hcb hrb
        gi_wp2
        refine ⟨trivial, rfl, CallsIn.inRound l2 ((callsIn_wide.2 hR).mono ?_)⟩
        clear hR c0 c1 c2 c3 c4 c5 c6 c7 c8 c9 yb0
        rintro e Wc ⟨hsc, hsmc, (⟨rfl, hJc⟩ | ⟨rfl, hJc⟩)⟩
        · gi_wp2
          refine ⟨hsc, fun b hb => hsmc b (.inl hb), ?_, HS3B.out.trans (fun b hb => hsmc b (HSUP3B.out b hb)), HS5B.out.trans (fun b hb => hsmc b (HSUP5B.out b hb)), by omega⟩
          have := HJ.out.less hJc (A' := A9) (fun b hb => .inl hb)
          simpa using this
        · gi_wp2
          exact ⟨hsc, fun b hb => hsmc b (.inl hb), rfl, HJX.out.less hJc (fun b hb => .inl hb), HS5B.out.trans (fun b hb => hsmc b (HSUP5B.out b hb)), by omega⟩
    case hdone =>
      rintro D A5 W5 hD hAD hsup hlt ⟨hj, hsame, hsz5⟩ hK
      have hDlt := (Array.getElem?_eq_some_iff.1 hK).1
      gi_wp2
      refine ⟨by simp, .inl ⟨_, _, rfl, run_takeDeferred hK, ?_⟩⟩
      exact ⟨_, results_none rfl _ _ _, ⟨_, rfl⟩, A5, fun b hb => hsup b (HSUP3.out b hb), fun b hb => by simpa using hlt b hb, .inl (by
        rw [all_eq, allL_flat]
        exact HJ.out.step hj ((Chg.refl _ _).put (.inr ⟨by omega, hAD⟩) _))⟩
    case hstop =>
      rintro D c A5 W5 hD hAD hsup hlt ⟨rfl, hj⟩ hK
      gi_wp2
      refine ⟨by simp, .inl ⟨_, _, rfl, run_takeDeferred hK, ?_⟩⟩
      exact ⟨_, results_none rfl _ _ _, ⟨_, rfl⟩, A5, fun b hb => hsup b (HSUP3.out b hb), fun b hb => by simpa using hlt b hb, .inr (HJX.out.step (s := ()) hj ((Chg.refl _ _).put (.inr ⟨by omega, hAD⟩) _))⟩
end Go.Proofs.Ytpjcmhlgdgadjaa
