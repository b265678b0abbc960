/- A loop over all nodes that builds a row; a word's text, if it is plain. What simple commands call. PRINTED by gen13.py. -/
import Derived.Test.YtpjcmhlgdgadjaaKe
namespace Go.Proofs.Ytpjcmhlgdgadjaa
open Go.RowKit
set_option linter.unusedVariables false
/-- Between two rounds: what is built of the nodes that came. -/
def LoopI (T tb : Nat) (w : World) (bx : Nat) (g : Tr → List Value) (A : Nat → Prop) (W : World) (pre : List Tr) (A' : Nat → Prop) (W' : World) : Prop :=
  OutBox T 1 tb w bx (pre.flatMap g).length (pre.flatMap g) A' W' ∧ Same A w W' ∧ W.heap.size ≤ W'.heap.size
theorem LoopI.shy {T tb bx : Nat} {w W U U' : World} {g : Tr → List Value} {A A1 A2 : Nat → Prop} {pre : List Tr} {B : Nat} (hA : ∀ b, A b → b < w.heap.size) (hw : w.heap.size ≤ W.heap.size) (hB : w.heap.size ≤ B) (h : LoopI T tb w bx g A W pre A1 U) (hc : Chg (fun b => B ≤ b ∧ A1 b) U U') (hA' : ∀ b, A2 b → A1 b ∨ U.heap.size ≤ b) : LoopI T tb w bx g A W pre A2 U' := by
  obtain ⟨h1, h2, h3⟩ := h
  exact ⟨h1.shy hB hc hA', h2.trans (fun b hb => hc.block b (by have := hA b hb; omega) (fun h => by have := hA b hb; omega)), Nat.le_trans h3 hc.size⟩
/-- A round is over. -/
theorem LoopI.next {T tb bx N : Nat} {w W W7 W' : World} {g : Tr → List Value} {A A5 : Nat → Prop} {pre : List Tr} {x : Tr} {ys : List Value} (hA : ∀ b, A b → b < w.heap.size) (hlt : ∀ b, A5 b → b < W7.heap.size) (h7 : Same A w W7) (hw : w.heap.size ≤ W7.heap.size) (hW : W.heap.size ≤ W7.heap.size)
    (hc : Chg (fun b => w.heap.size ≤ b ∧ ¬ A5 b) W7 W') (ho : OutBox T 1 tb w bx N ys A5 W') (hy : ys = pre.flatMap g ++ g x) (hN : N = (pre.flatMap g).length + (g x).length) :
    W7.heap.size ≤ W'.heap.size ∧ Same A5 W7 W' ∧ LoopI T tb w bx g A W (pre ++ [x]) A5 W' := by
  subst hy
  subst hN
  have e : (pre ++ [x]).flatMap g = pre.flatMap g ++ g x := by simp
  refine ⟨hc.size, same_of_chg hc hlt, ?_, h7.trans (fun b hb => hc.block b (by have := hA b hb; omega) (fun h => by have := hA b hb; omega)), Nat.le_trans hW hc.size⟩
  rw [e, List.length_append]
  exact ho
theorem OutBox.keep {T m tb bx n : Nat} {w W W' : World} {xs : List Value} {A : Nat → Prop} (h : OutBox T m tb w bx n xs A W) (hc : Chg (fun _ => False) W W') : OutBox T m tb w bx n xs A W' :=
  h.shy (Nat.le_refl _) (hc.mono (fun _ => False.elim)) (fun _ => .inl)
theorem OutBox.fin2 {T m tb bx n : Nat} {w W : World} {xs : List Value} {A : Nat → Prop} (h : OutBox T m tb w bx n xs A W) {D : Nat} (hD : w.heap.size ≤ D) (hAD : A D) (o' : Obj) : ∃ o, W.cell? ⟨bx, 0, none⟩ = some o ∧ OutAt T m w n xs o (W.putObj D o') := by
  have h2 := h.fin hD hAD o'
  have hDb : D ≠ bx := fun e => h.2.1 (e ▸ hAD)
  obtain ⟨-, -, o, hbo, hoo, -⟩ := h
  obtain ⟨-, -, o2, hbo2, hoo2, -⟩ := h2
  have ho2 : o2 = o := by
    have := hbo2
    unfold Blk at this
    rw [World.putObj_heap_other (fun h => hDb h.symm), show W.heap[bx]? = some (.cells #[o] tb (0, 0)) from hbo] at this
    simpa using this.symm
  have b0 := hbo.cell 0
  simp at b0
  exact ⟨o, b0, by rw [← ho2]; exact hoo2⟩
def plainV (t : Tr) : Value := .tuple #[.string ((plainOf t).getD ⟨#[]⟩), .bool (plainOf t).isSome]
theorem part_k {A : Nat → Prop} {w : World} {p : Tr} (h : Lies A w .part p) : p.cs[0]? = some (.int .i64 (p.k 0)) ∧ p.cs[1]? = some (.string (p.s 1)) ∧ (p.s 1).size ≤ 1048576 := by
  obtain ⟨pk, ps, po, pa, pc, na, nc, kids, ns, rfl, q1, q2, h3, h4, h5, h6⟩ := h.part
  exact ⟨rfl, rfl, q1⟩
theorem plain_any {A : Nat → Prop} {w : World} {t : Tr} (hA : ∀ b, A b → b < w.heap.size) (h : Lies A w .word t) : Calls Try.prog 33 #[.agg t.cs.toArray] w fun e w' => e = .returned (plainV t) ∧ Below w.heap.size w w' := by
  obtain ⟨pa, pc, ps, rfl, hr, hk⟩ := h.word
  simp only [Tr.cs]
  have e0 : (Tr.mk [.slice pa ps.length pc] [ps]).r 0 = ps := rfl
  unfold plainV plainOf
  rw [e0]
  clear e0
  match ps, hr, hk with
  | [], hr, hk =>
    clear hr hk
    go_enter Try.func33, Try.ntmps33
    go_wp2
    go_ret2
    exact ⟨rfl, below_alloc _ _⟩
  | [p], hr, hk =>
    have hp := hk p (by simp)
    obtain ⟨b, off, rfl, hAb, hb0, hcell⟩ := cells_at hr (k := 0) (x := p) rfl
    obtain ⟨k0, k1, k2⟩ := part_k hp
    have c0 := hcell 0 (by omega)
    have c1 := hcell 1 (by omega)
    rw [k0] at c0
    rw [k1] at c1
    simp only [Nat.zero_mul, Nat.add_zero] at c0 c1
    clear hr hk hp hcell k0 k1
    by_cases hk1 : p.k 0 = 1
    · have hq : (p.k 0 == 1) = true := by simp [hk1]
      simp only [if_pos hk1]
      generalize p.k 0 = pk at *
      subst hk1
      go_enter Try.func33, Try.ntmps33
      go_wp2
      go_ret2
      exact ⟨rfl, below_alloc _ _⟩
    · have hq : (p.k 0 == 1) = false := by simpa using hk1
      simp only [if_neg hk1]
      generalize p.k 0 = pk at *
      go_enter Try.func33, Try.ntmps33
      go_wp2
      go_ret2
      exact ⟨rfl, below_alloc _ _⟩
  | p :: q :: r, hr, hk =>
    have hl := hr.len
    have hn : ((p :: q :: r).length : Int) ≠ 1 := by simp; omega
    have hn2 : (((p :: q :: r).length : Int) == 1) = false := by simpa using hn
    generalize (p :: q :: r).length = n at *
    clear hr hk
    go_enter Try.func33, Try.ntmps33
    go_wp2
    go_ret2
    exact ⟨rfl, below_alloc _ _⟩
end Go.Proofs.Ytpjcmhlgdgadjaa

namespace Go.Proofs.Ytpjcmhlgdgadjaa
open Go.RowKit
set_option linter.unusedVariables false
attribute [local go_sem] Oper.semAt_some
def callV (x : Tr) : List Value := (callOf x).map Value.string
theorem calls_sz (t : Tr) : ((all t).flatMap callV).length ≤ t.sz := Nat.le_trans (flat_len1 (fun x => by unfold callV; rw [List.length_map]; exact callOf_len x) _) (all_sz t)
/-- A node, as far as a loop's body looks at it. -/
theorem callV_open {A : Nat → Prop} {w : World} {t : Tr} (h : Lies A w .node t) : ∃ (k : Int) (s : ByteArray) (b1 b2 : Bool) (oa : Option Addr) (os oc : Nat) (aa : Option Addr) (gs ac : Nat) (wa : Option Addr) (ws : List Tr) (wc : Nat) (ra : Option Addr) (rs rc : Nat) (ma : Option Addr) (ms mc : Nat) (ka : Option Addr) (ks kc : Nat),
    t.cs = [.int .i64 k, .string s, .bool b1, .bool b2, .slice oa os oc, .slice aa gs ac, .slice wa ws.length wc, .slice ra rs rc, .slice ma ms mc, .slice ka ks kc] ∧
    (callV t = if k = 4 then (match ws with | w :: _ => (plainOf w).toList.map Value.string | [] => []) else []) ∧ (RowAt A w 1 (.slice wa ws.length wc) ws ∧ ∀ x ∈ ws, Lies A w .word x) := by
  obtain ⟨k, s, b1, b2, oa, oc, aa, ac, wa, wc, ra, rc, ma, mc, ka, kc, os, gs, ws, rs, ms, ks, rfl, q1, h4, h5, h6, h7, h8, h9, k4, k5, k6, k7, k8, k9⟩ := h.node
  refine ⟨k, s, b1, b2, oa, os.length, oc, aa, gs.length, ac, wa, ws, wc, ra, rs.length, rc, ma, ms.length, mc, ka, ks.length, kc, rfl, ?_, h6, k6⟩
  unfold callV callOf
  have e6 : (Tr.mk [.int .i64 k, .string s, .bool b1, .bool b2, .slice oa os.length oc, .slice aa gs.length ac, .slice wa ws.length wc, .slice ra rs.length rc, .slice ma ms.length mc, .slice ka ks.length kc] [[], [], [], [], os, gs, ws, rs, ms, ks]).r 6 = ws := rfl
  have e0 : (Tr.mk [.int .i64 k, .string s, .bool b1, .bool b2, .slice oa os.length oc, .slice aa gs.length ac, .slice wa ws.length wc, .slice ra rs.length rc, .slice ma ms.length mc, .slice ka ks.length kc] [[], [], [], [], os, gs, ws, rs, ms, ks]).k 0 = k := rfl
  rw [e6, e0]
  split
  · cases ws <;> rfl
  · rfl
set_option maxRecDepth 100000 in
set_option maxHeartbeats 3200000 in
theorem fcalls_any {A : Nat → Prop} {w : World} {t : Tr} (hsz : t.sz ≤ 1048576) (hA : ∀ b, A b → b < w.heap.size) (hl : Lies A w .node t) :
    Calls Try.prog 10 #[.agg t.cs.toArray] w fun e w' => ∃ o, e = .returned o ∧ OutAt 9 1 w ((all t).flatMap callV).length ((all t).flatMap callV) o w' := by
  obtain ⟨W0, hW0⟩ : ∃ W0, (w.alloc (.cells t.cs.toArray 28)).alloc (.cells #[.slice none 0 0] 32) = W0 := ⟨_, rfl⟩
  obtain ⟨W, hW⟩ : ∃ W, W0.alloc (.cells t.cs.toArray 28) = W := ⟨_, rfl⟩
  have hb0 : Below w.heap.size w W0 := by rw [← hW0]; exact (below_alloc w _).alloc (by simp) _
  have hs0 : W0.heap.size = w.heap.size + 2 := by rw [← hW0]; simp
  have hs : W.heap.size = w.heap.size + 3 := by rw [← hW]; simp [hs0]
  have hbW : Below W0.heap.size W0 W := by rw [← hW]; exact below_alloc _ _
  have hx0 : Blk W0 w.heap.size 28 t.cs.toArray := by rw [← hW0]; exact (Blk.new w 28 _).alloc _
  have ho0 : Blk W0 (w.heap.size + 1) 32 #[.slice none 0 0] := by
    rw [← hW0]
    have := Blk.new (w.alloc (.cells t.cs.toArray 28)) 32 #[.slice none 0 0]
    rwa [World.size_alloc] at this
  have hxW : Blk W W0.heap.size 28 t.cs.toArray := by rw [← hW]; exact Blk.new _ _ _
  have hbw : Below w.heap.size w W := hb0.trans (hbW.mono hb0.size)
  have hlW : Lies (fun b => A b ∨ b = W0.heap.size) W .node t := hl.keep (fun _ => .inl) hbw.size (fun b hb => hbw.block b (hA b hb))
  have hfn := all_fn (w := W0) hl
  rw [hW] at hfn
  have hlen : ((all t).flatMap callV).length ≤ t.sz := calls_sz t
  have hltA : ∀ b, (A b ∨ b = W0.heap.size) → b < W.heap.size := fun b hb => hb.elim (fun h => by have := hA b h; omega) (fun h => by omega)
  have hseq := all1_seq _ t (Nat.le_refl _) hsz (fun b => A b ∨ b = W0.heap.size) W W0.heap.size hltA (.inr rfl) hlW hxW
  have hall : ∀ x ∈ all t, Lies A w .node x := all_lies _ [t] (Nat.le_refl _) (by simpa using hl)
  have hsm : Same A w W := fun b hb => hbw.block b (hA b hb)
  have hb1 : LoopI 9 32 w (w.heap.size + 1) callV A W [] (fun b => A b ∨ b = W0.heap.size) W := by
    refine ⟨⟨by omega, ?_, .slice none 0 0, ho0.below hbW (by omega), ⟨none, 0, rfl, ⟨by simp, .inl ⟨rfl, rfl⟩⟩, hbw⟩, fun b hb => by cases hb⟩, hsm, Nat.le_refl _⟩
    rintro (h | h)
    · have := hA _ h; omega
    · omega
  obtain ⟨zk, zs, z1, z2, zoa, zon, zoc, zaa, zan, zac, zwa, zwn, zwc, zra, zrn, zrc, zma, zmn, zmc, zka, zkn, zkc, hcs⟩ := hl.node10
  rw [hs0] at hseq hfn hb1
  rw [hcs] at hfn hW0 hx0
  have HSEQ := Lib.hid hseq
  have HFN := Lib.hid hfn
  have HALL := Lib.hid hall
  have HB1 := Lib.hid hb1
  have HA := Lib.hid hA
  have c0 := hx0.cell 0
  have c1 := hx0.cell 1
  have c2 := hx0.cell 2
  have c3 := hx0.cell 3
  have c4 := hx0.cell 4
  have c5 := hx0.cell 5
  have c6 := hx0.cell 6
  have c7 := hx0.cell 7
  have c8 := hx0.cell 8
  have c9 := hx0.cell 9
  simp at c0 c1 c2 c3 c4 c5 c6 c7 c8 c9
  rw [hcs]
  rw [hs0] at hltA
  have HLT := Lib.hid hltA
  have hEl := ElStr
  clear hseq hfn hall hsm hb1 hA hltA hb0 hbW hx0 ho0 hxW hbw hlW hcs hl
  refine (callsIn_wide (n := 0)).1 ?_
  refine callsIn_of_wp_marks Try.func10 rfl trivial ?_ rfl
  simp only [Try.ntmps10, List.size_toArray, List.length_cons, List.length_nil, Nat.reduceAdd, Nat.reduceSub, Array.replicate_succ, Array.replicate_zero, List.push_toArray, List.append_toArray, List.nil_append, List.cons_append]
  gi_wp2_with (refine ⟨trivial, rfl, ?_⟩; gi_at_call 30; refine (callsIn_wide.2 HFN.out).mono ?_; rintro e w1 ⟨rfl, hw1⟩; rw [hw1]; clear hw1)
  clear c0 c1 c2 c3 c4 c5 c6 c7 c8 c9 HFN
  refine range_top (gf := 46) (lb := #[.pointer (some ⟨w.heap.size + 2, 0, none⟩)]) rfl (fun _ _ => by kernel_rfl) HSEQ.out HLT.out (fun _ => rfl)
    (LoopI 9 32 w (w.heap.size + 1) callV A W) (fun c A' W' => False) ?hI ?hIx ?h0 ?hround ?hdone ?hstop
  case hI => exact fun s A1 A2 U U' h hc hA' => h.shy HA.out (by omega) (by omega) hc hA'
  case hIx => exact fun c s A1 A2 U U' h _ _ => h
  case h0 => exact HB1.out
  case hstop => exact fun D c A' W' _ _ _ _ h _ => h.elim
  case hdone =>
    rintro D A5 W5 hD hAD hsup hlt ⟨hj, -, -⟩ hK
    obtain ⟨o, b0, hoo⟩ := hj.fin2 (D := D) (by omega) hAD (.deferred none)
    have HO := Lib.hid hoo
    clear hoo hj
    gi_wp2
    refine ⟨by simp, .inl ⟨_, _, rfl, run_takeDeferred hK, ?_⟩⟩
    refine ⟨_, results_tmp rfl _ _ _, ?_⟩
    exact ⟨o, rfl, HO.out⟩
  case hround =>
    rintro l1 pre x A5 W5 hpre hl1 hl1W hAl hsup hlt ⟨hj, hsame, hsz5⟩
    have hxa : x ∈ all t := hpre.subset (by simp)
    have hlx := HALL.out x hxa
    have hnl := flat_pre (f := callV) hpre
    rw [List.flatMap_append, List.length_append, List.flatMap_cons, List.flatMap_nil, List.append_nil] at hnl
    have hnl2 : (pre.flatMap callV).length + (callV x).length ≤ 1048576 := by omega
    have hxs : x.sz ≤ 1048576 := by
      have h1 := szAll _ [t] (Nat.le_refl _) x hxa
      simp [szL] at h1
      omega
    obtain ⟨W6, hW6⟩ : ∃ W6, W5.alloc (.cells x.cs.toArray 28) = W6 := ⟨_, rfl⟩
    have hb6 : Below W5.heap.size W5 W6 := by rw [← hW6]; exact below_alloc _ _
    have hx6 : Blk W6 W5.heap.size 28 x.cs.toArray := by rw [← hW6]; exact Blk.new _ _ _
    have hs6 : W6.heap.size = W5.heap.size + 1 := by rw [← hW6]; simp
    obtain ⟨yk, ys, y1, y2, yoa, yos, yoc, yaa, yas, yac, ywa, yws, ywc, yra, yrs, yrc, yma, yms, ymc, yka, yks, ykc, hkc, hkg, hrw⟩ := callV_open hlx
    have HKG := Lib.hid hkg
    have HRW := Lib.hid hrw
    rw [hkc] at hW6
    have HB6 := Lib.hid hb6
    have HX6 := Lib.hid hx6
    have HJ := Lib.hid hj
    have HLT5 := Lib.hid hlt
    have HSM5 := Lib.hid hsame
    have HKC := Lib.hid hkc
    have HLX := Lib.hid hlx
    have HNL := Lib.hid hnl2
    simp only [enc1, hkc]
    clear hb6 hx6 hj hlt hsup hsame hpre hkc hlx hxa hnl hnl2 hkg hrw
    simp
    gi_wp2
    refine ⟨by omega, fun b hb => HB6.out.block b (HLT5.out b hb), fun W7 hc7 hs7 r hr => ?_⟩
    have hx7 : Blk W7 W5.heap.size 28 x.cs.toArray := hc7.blk HX6.out (by omega)
    have hj6 := HJ.out.shy (B := W5.heap.size) (A' := A5) (by have := HJ.out.2.1; omega) (Chg.of_below HB6.out) (fun _ => .inl)
    have hj7 := hj6.shy (B := w.heap.size) (A' := A5) (Nat.le_refl _) (hc7.mono (fun b hb => by subst hb; exact ⟨by omega, hAl⟩)) (fun _ => .inl)
    have hlt7 : ∀ b, A5 b → b < W7.heap.size := fun b hb => by have := HLT5.out b hb; omega
    have hsm7 : Same A w W7 := fun b hb => by
      have h3 := HA.out b hb
      exact (hc7.block b (by omega) (by omega)).trans ((HB6.out.block b (by omega)).trans (HSM5.out b hb))
    rw [HKC.out] at hx7
    have c0 := hx7.cell 0
    have c1 := hx7.cell 1
    have c2 := hx7.cell 2
    have c3 := hx7.cell 3
    have c4 := hx7.cell 4
    have c5 := hx7.cell 5
    have c6 := hx7.cell 6
    have c7 := hx7.cell 7
    have c8 := hx7.cell 8
    have c9 := hx7.cell 9
    simp at c0 c1 c2 c3 c4 c5 c6 c7 c8 c9
    have HX7 := Lib.hid hx7
    have HJ7 := Lib.hid hj7
    have hnl := HNL.out
    have HEND : Hid (∀ {N : Nat} {ys : List Value} {W' : World}, Chg (fun b => w.heap.size ≤ b ∧ ¬ A5 b) W7 W' → OutBox 9 1 32 w (w.heap.size + 1) N ys A5 W' → ys = pre.flatMap callV ++ callV x → N = (pre.flatMap callV).length + (callV x).length →
        W7.heap.size ≤ W'.heap.size ∧ Same A5 W7 W' ∧ LoopI 9 32 w (w.heap.size + 1) callV A W (pre ++ [x]) A5 W') := Lib.hid (fun hc ho hy hN => LoopI.next HA.out hlt7 hsm7 (by omega) (by omega) hc ho hy hN)
    have HLT7 := Lib.hid hlt7
    have HSM7 := Lib.hid hsm7
    have HLX7 : Hid (∀ {v : Value} {l : List Tr} {m : Nat} {y : World}, RowAt A w m v l → Below W7.heap.size W7 y → RowAt A y m v l) := Lib.hid (fun h hy => h.keep (fun _ => id) (by have := hy.size; omega) (fun b hb => (hy.block b (by have := HA.out b hb; omega)).trans (hsm7 b hb)))
    have HLW7 : Hid (∀ {ty : Ty} {u : Tr} {y : World}, Lies A w ty u → Below W7.heap.size W7 y → Lies A y ty u) := Lib.hid (fun h hy => h.keep (fun _ => id) (by have := hy.size; omega) (fun b hb => (hy.block b (by have := HA.out b hb; omega)).trans (hsm7 b hb)))
    have hA7 : ∀ b, A b → b < W7.heap.size := fun b hb => by have := HA.out b hb; omega
    have HA7 := Lib.hid hA7
    generalize hpx : pre.flatMap callV = xs at *
    generalize hpm : xs.length = n at *
    clear hx7 hj7 hlt7 hsm7 hj6 hr HX6 HB6 HSM5 HLT5 HSEQ HALL HB1 HLT hc7 HJ HNL hA7
    by_cases hk4 : yk = 4
    · subst hk4
      obtain ⟨hw6, hkw⟩ := HRW.out
      match hyws : yws, HKG.out, hw6, hkw with
      | [], hkg, hw6, hkw =>
        have hgx : callV x = [] := by rw [hkg]; rfl
        have hgn : (callV x).length = 0 := by rw [hgx]; rfl
        have HGX := Lib.hid hgx
        have HGN := Lib.hid hgn
        clear hkg hw6 hkw hgx hgn hyws hnl
        gi_wp2
        exact HEND.out (Chg.refl _ _) HJ7.out (by rw [HGX.out, List.append_nil]) (by rw [HGN.out]; rfl)
      | u :: ur, hkg, hw6, hkw =>
        have hu := hkw u (by simp)
        have hpl := plain_any HA7.out (HLW7.out hu (Below.refl _ _))
        obtain ⟨b, off, rfl, hAb, hb0, hcell⟩ := cells_at (HLX7.out hw6 (Below.refl _ _)) (k := 0) (x := u) rfl
        have e0 := hcell 0 (by omega)
        obtain ⟨pa, pc, ps, hue, -, -⟩ := hu.word
        have huc : u.cs = [.slice pa ps.length pc] := by rw [hue]; rfl
        rw [huc] at e0 hpl
        simp only [Nat.zero_mul, Nat.add_zero, List.getElem?_cons_zero] at e0
        clear hcell hu hue huc hkw hw6 hAb hb0 hyws
        have hlen0 : (u :: ur).length = ur.length + 1 := rfl
        rw [hlen0] at *
        have hpos : (0 : Int) < (ur.length : Int) + 1 := by omega
        have hne : ¬ ((ur.length : Int) + 1 = 0) := by omega
        have hneb : (((ur.length : Int) + 1) == 0) = false := by simpa using hne
        clear hlen0
        generalize ur.length = q at *
        cases hpo : plainOf u with
        | none =>
          have hgx : callV x = [] := by rw [hkg, if_pos rfl]; simp [hpo]
          have hgn : (callV x).length = 0 := by rw [hgx]; rfl
          have hv : plainV u = .tuple #[.string ⟨#[]⟩, .bool false] := by unfold plainV; rw [hpo]; rfl
          rw [hv] at hpl
          have HPL := Lib.hid hpl
          have HGX := Lib.hid hgx
          have HGN := Lib.hid hgn
          clear hkg hgx hgn hnl hpl hv hpo
          gi_wp2_with (refine ⟨trivial, rfl, ?_⟩; gi_at_call 33; refine CallsIn.inRound l1 ((callsIn_wide.2 HPL.out).mono ?_); rintro e w8 ⟨rfl, hb8⟩)
          have hk8 : Chg (fun _ => False) W7 w8 := Chg.of_below hb8
          exact HEND.out (hk8.mono (fun _ => False.elim)) (HJ7.out.keep hk8) (by rw [HGX.out, List.append_nil]) (by rw [HGN.out]; rfl)
        | some s =>
          have hgx : callV x = [.string s] := by rw [hkg, if_pos rfl]; simp [hpo]
          have hgn : (callV x).length = 1 := by rw [hgx]; rfl
          have hv : plainV u = .tuple #[.string s, .bool true] := by unfold plainV; rw [hpo]; rfl
          rw [hv] at hpl
          rw [hgn] at hnl
          have HPL := Lib.hid hpl
          have HGX := Lib.hid hgx
          have HGN := Lib.hid hgn
          clear hkg hgx hgn hpl hv hpo
          gi_wp2_with (first
            | (refine ⟨trivial, rfl, ?_⟩; gi_at_call 33; refine CallsIn.inRound l1 ((callsIn_wide.2 HPL.out).mono ?_); rintro e w8 ⟨rfl, hb8⟩
               have hk8 : Chg (fun _ => False) W7 w8 := Chg.of_below hb8
               have HK8 := Lib.hid hk8
               have hj8 := HJ7.out.keep hk8
               obtain ⟨hbx, hAb, o, hblk, ⟨Ao, oc, rfl, ho, hbw⟩, hoA⟩ := hj8
               have b0 := hblk.cell 0
               have f0 := hblk.frozen 0
               simp at b0
               have hws := hbw.size
               have HBLK := Lib.hid hblk
               have HO := Lib.hid ho
               have HBW := Lib.hid hbw
               have HOA := Lib.hid hoA
               have hlt8 : ∀ b, A5 b → b < w8.heap.size := fun b hb => by have h1 := HLT7.out b hb; have h2 := HK8.out.size; omega
               have HLT8 := Lib.hid hlt8
               clear hb8 hk8 hblk ho hbw hoA hlt8)
            | (gi_at_builtin; refine wpListIn_app ElStr (.tmp 28) (.tmp 30) rfl rfl (base := w.heap.size) (n := n) (m := 1) (N := n + 1) (v := .slice Ao n oc) (src := .slice (some ⟨w8.heap.size, 0, none⟩) 1 1) (xs := xs) (news := [.string s]) rfl rfl (HO.out.alloc _) (one_src (e := 0) rfl) (by omega) (by unfold maxLen; omega) (by omega) (by simp; omega) ?_
               intro A9 c9 w9 r1 r2 r3
               have hblk9 := r2.blk (HBLK.out.alloc _) (.inr (by decide))
               have b9 := hblk9.cell 0
               have f9 := hblk9.frozen 0
               simp at b9
               have hfin := OutBox.put hbx hAb HBLK.out HOA.out HLT8.out HO.out HBW.out ((Chg.refl _ w8).alloc _) r3.1 r3.2 (Chg.refl _ w9) r1 (by decide)
               have HFIN := Lib.hid hfin
               clear r1 r2 r3 hblk9 hfin))
          exact HEND.out ((HK8.out.mono (fun _ => False.elim)).next HFIN.out.2) HFIN.out.1 (by rw [HGX.out]) (by rw [HGN.out])
    · have hgx : callV x = [] := by rw [HKG.out, if_neg hk4]
      have hgn : (callV x).length = 0 := by rw [hgx]; rfl
      have hq : (yk == 4) = false := by simpa using hk4
      have HGX := Lib.hid hgx
      have HGN := Lib.hid hgn
      clear hgx hgn hnl
      gi_wp2
      exact HEND.out (Chg.refl _ _) HJ7.out (by rw [HGX.out, List.append_nil]) (by rw [HGN.out]; rfl)
end Go.Proofs.Ytpjcmhlgdgadjaa
