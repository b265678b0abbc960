/- Redirections and arms: the same node's are the same. PRINTED by gen41.py. The same node is the same. -/
import Derived.Test.YtpjcmhlgdgadjaaKq
namespace Go.Proofs.Ytpjcmhlgdgadjaa
open Go.RowKit
set_option linter.unusedVariables false
theorem Blk.drewB {w : World} {b : Nat} {e : TypeId} {cs : Array Value} (h : Blk w b e cs) : Blk w.drew b e cs := h
set_option maxRecDepth 100000 in
set_option maxHeartbeats 1600000 in
theorem sameRest_of {N : Nat} (ih : SameOK N) {t : Tr} (hN : t.sz ≤ N + 1) (hsz : t.sz ≤ 1048576) {A : Nat → Prop} {w : World} (hA : ∀ b, A b → b < w.heap.size) (hl : Lies A w .node t) :
    Calls Try.prog 51 #[.agg t.cs.toArray, .agg t.cs.toArray] w fun e w' => e = .returned (.bool true) ∧ Below w.heap.size w w' := by
  obtain ⟨nk, ns, b1, b2, oa, oc, aa, ac, wa, wc, ra, rc, ma, mc, ka, kc, os, gs, ws, rs, ms, ks, et, q1, -, -, -, h7, h8, -, -, -, -, k7, k8, -⟩ := hl.node
  have ecs : t.cs = [.int .i64 nk, .string ns, .bool b1, .bool b2, .slice oa os.length oc, .slice aa gs.length ac, .slice wa ws.length wc, .slice ra rs.length rc, .slice ma ms.length mc, .slice ka ks.length kc] := by rw [et]; rfl
  have e7 : t.r 7 = rs := by rw [et]; rfl
  have e8 : t.r 8 = ms := by rw [et]; rfl
  have s7 := t.sz_r 7
  have s8 := t.sz_r 8
  rw [e7] at s7
  rw [e8] at s8
  rw [ecs]
  obtain ⟨W1, hW1⟩ : ∃ W, w.alloc (.cells #[.int .i64 nk, .string ns, .bool b1, .bool b2, .slice oa os.length oc, .slice aa gs.length ac, .slice wa ws.length wc, .slice ra rs.length rc, .slice ma ms.length mc, .slice ka ks.length kc] 28) = W := ⟨_, rfl⟩
  obtain ⟨W, hW⟩ : ∃ W, W1.alloc (.cells #[.int .i64 nk, .string ns, .bool b1, .bool b2, .slice oa os.length oc, .slice aa gs.length ac, .slice wa ws.length wc, .slice ra rs.length rc, .slice ma ms.length mc, .slice ka ks.length kc] 28) = W := ⟨_, rfl⟩
  have hz1 : W1.heap.size = w.heap.size + 1 := by rw [← hW1]; simp
  have hzW : W.heap.size = w.heap.size + 2 := by rw [← hW]; simp [hz1]
  have hbW : Below w.heap.size w W := by rw [← hW, ← hW1]; exact (below_alloc _ _).trans ((below_alloc _ _).mono (by simp))
  have hx2 : Blk W (w.heap.size + 1) 28 #[.int .i64 nk, .string ns, .bool b1, .bool b2, .slice oa os.length oc, .slice aa gs.length ac, .slice wa ws.length wc, .slice ra rs.length rc, .slice ma ms.length mc, .slice ka ks.length kc] := by rw [← hz1, ← hW]; exact Blk.new _ _ _
  have hx1 : Blk W w.heap.size 28 #[.int .i64 nk, .string ns, .bool b1, .bool b2, .slice oa os.length oc, .slice aa gs.length ac, .slice wa ws.length wc, .slice ra rs.length rc, .slice ma ms.length mc, .slice ka ks.length kc] := by rw [← hW, ← hW1]; exact (Blk.new _ _ _).alloc _
  have hY : ∀ y, Below W.heap.size W y → Below w.heap.size w y := fun y hy => hbW.trans (hy.mono (by omega))
  have hAy : ∀ y, Below W.heap.size W y → ∀ b, A b → b < y.heap.size := fun y hy b hb => by have := hA b hb; have := hy.size; omega
  have C7 : Hid (∀ x ∈ rs, ∀ y, Below W.heap.size W y → Calls Try.prog 61 #[x.c 2, x.c 2] y fun e w' => e = .returned (.bool true) ∧ Below y.heap.size y w') := Lib.hid (fun x hx y hy => by
    have h1 := szL_mem hx
    have h2 := x.sz_r 2
    have h3 := (k7 x hx).later hA (hY y hy)
    exact sameParts_of ih (by omega) (by omega) (hAy y hy) (h3.row (i := 2) (u := .part) rfl) (h3.kids (i := 2) (u := .part) rfl))
  have C8 : Hid (∀ x ∈ ms, ∀ y, Below W.heap.size W y → Calls Try.prog 50 #[x.c 0, x.c 0] y fun e w' => e = .returned (.bool true) ∧ Below y.heap.size y w') := Lib.hid (fun x hx y hy => by
    have h1 := szL_mem hx
    have h2 := x.sz_r 0
    have h3 := (k8 x hx).later hA (hY y hy)
    exact sameWords_of ih (by omega) (by omega) (hAy y hy) (h3.row (i := 0) (u := .word) rfl) (h3.kids (i := 0) (u := .word) rfl))
  have CB : Hid (∀ x ∈ ms, ∀ y, Below W.heap.size W y → Calls Try.prog 35 #[.agg x.body.cs.toArray, .agg x.body.cs.toArray] y fun e w' => e = .returned (.bool true) ∧ Below y.heap.size y w') := Lib.hid (fun x hx y hy => by
    have h1 := szL_mem hx
    have h2 := x.sz_body
    exact ih x.body (by omega) (by omega) A y (hAy y hy) ((k8 x hx).body.later hA (hY y hy)))
  have hrl := h7.len
  have hml := h8.len
  have H7 := Lib.hid h7
  have H8 := Lib.hid h8
  have K7 := Lib.hid k7
  have K8 := Lib.hid k8
  have HY := Lib.hid hY
  have hwW : w.heap.size < W.heap.size := by omega
  have hwW1 : w.heap.size + 1 < W.heap.size := by omega
  have HZW := Lib.hid hzW
  have c7 := hx1.cell 7
  have c8 := hx1.cell 8
  have f7 := hx2.cell 7
  have f8 := hx2.cell 8
  simp at c7 c8 f7 f8
  subst hW1
  have HW := Lib.hid hW
  clear et ecs e7 e8 hl h7 h8 k7 k8 hA hY hAy hbW hx1 hx2 hW ih s7 s8 hN hz1 hzW
  go_enter Try.func51, Try.ntmps51
  go_wp2_with fail
  rw [HW.out]
  go_wp2
  go_loopw [5] (fun i wr => ∃ k : Nat, k ≤ rs.length ∧ i = .int .i64 k ∧ Hid (Below W.heap.size W wr)) (fun i _ => rs.length - (intOf i).toNat)
  case atStart => exact ⟨0, Nat.zero_le _, rfl, Lib.hid (Below.refl _ _)⟩
  case round =>
    obtain ⟨k, hk, rfl, hS⟩ := hrel
    have d7 := (hS.out.cell (p := ⟨w.heap.size, 7, none⟩) hwW).trans c7
    have g7 := (hS.out.cell (p := ⟨w.heap.size + 1, 7, none⟩) hwW1).trans f7
    by_cases hlt : k < rs.length
    · have hx := List.getElem?_eq_getElem hlt
      obtain ⟨b, off, rfl, -, hb0, hcell⟩ := cells_at H7.out hx
      have hp := K7.out rs[k] (List.getElem_mem hlt)
      have hc7 := C7.out rs[k] (List.getElem_mem hlt)
      clear hx
      generalize rs[k] = p at *
      obtain ⟨zn, zk, pa, pc, ps, zs, rfl, -, -, -, -⟩ := hp.redir
      simp only [Tr.c, Tr.cs, List.getD_cons_zero, List.getD_cons_succ] at hc7
      simp only [Tr.cs] at hcell
      have HC7 := Lib.hid hc7
      have hwx := HY.out wr hS.out
      have e0 := (hwx.cell (p := ⟨b, off + k * 4, none⟩) hb0).trans (hcell 0 (by omega))
      have e1 := (hwx.cell (p := ⟨b, off + k * 4 + 1, none⟩) hb0).trans (hcell 1 (by omega))
      have e2 := (hwx.cell (p := ⟨b, off + k * 4 + 2, none⟩) hb0).trans (hcell 2 (by omega))
      have e3 := (hwx.cell (p := ⟨b, off + k * 4 + 3, none⟩) hb0).trans (hcell 3 (by omega))
      simp only [List.getElem?_cons_zero, List.getElem?_cons_succ] at e0 e1 e2 e3
      have hzr := hS.out.size
      have hbr : b < wr.heap.size := by have := hwx.size; omega
      have hwr : w.heap.size < wr.heap.size := by omega
      have hwr1 : w.heap.size + 1 < wr.heap.size := by omega
      have q0 : (zn.toList != zn.toList) = false := by simp
      have q2 : (zk != zk) = false := by simp
      have q3 : (zs.toList != zs.toList) = false := by simp
      clear hp hcell hc7 hwx
      go_wp2_with fail
      go_cut [6, 7] (fun p q wx => ∃ f1 f2 : Nat, p = .pointer (some ⟨f1, 0, none⟩) ∧ q = .pointer (some ⟨f2, 0, none⟩) ∧ Hid (Blk wx f1 47 #[.string zn, .int .i64 zk, .slice pa ps.length pc, .string zs]) ∧ Hid (Blk wx f2 47 #[.string zn, .int .i64 zk, .slice pa ps.length pc, .string zs]) ∧ Hid (Below W.heap.size W wx))
      case first =>
        go_region
        all_goals go_wp2_with fail
        all_goals go_meet
        all_goals first
          | exact ⟨_, _, rfl, rfl, Lib.hid ((Blk.new wr _ _).alloc _).drewB, Lib.hid (by have := Blk.new (wr.alloc (.cells #[.string zn, .int .i64 zk, .slice pa ps.length pc, .string zs] 47)) 47 #[.string zn, .int .i64 zk, .slice pa ps.length pc, .string zs]; rw [World.size_alloc] at this; exact this.drewB), Lib.hid (below_drew ((hS.out.alloc hzr _).alloc (by simp; omega) _))⟩
          | exact ⟨_, _, rfl, rfl, Lib.hid (by have := Blk.new (wr.alloc (.cells #[.string zn, .int .i64 zk, .slice pa ps.length pc, .string zs] 47)) 47 #[.string zn, .int .i64 zk, .slice pa ps.length pc, .string zs]; rw [World.size_alloc] at this; exact this.drewB), Lib.hid ((Blk.new wr _ _).alloc _).drewB, Lib.hid (below_drew ((hS.out.alloc hzr _).alloc (by simp; omega) _))⟩
      case rest =>
        obtain ⟨f1, f2, rfl, rfl, HB1, HB2, HB3⟩ := hcut
        rename World => wy
        have x0 := HB1.out.cell 0
        have x1 := HB1.out.cell 1
        have x2 := HB1.out.cell 2
        have x3 := HB1.out.cell 3
        have y0 := HB2.out.cell 0
        have y1 := HB2.out.cell 1
        have y2 := HB2.out.cell 2
        have y3 := HB2.out.cell 3
        simp at x0 x1 x2 x3 y0 y1 y2 y3
        have HC := Lib.hid (HC7.out wy HB3.out)
        have hzy := HB3.out.size
        clear d7 g7 e0 e1 e2 e3 HC7
        go_wp2_with (go_at_call 61; refine HC.out.mono ?_; rintro e w3 ⟨rfl, hb3⟩
                     have HB4 := Lib.hid (HB3.out.trans (hb3.mono hzy))
                     clear hb3)
        go_roundw
        case rel => exact ⟨k + 1, by omega, by go_num, HB4⟩
        case measure => simp [intOf]; omega
    · obtain rfl : k = rs.length := by omega
      have HS1 := hS
      clear hS c7 f7
      go_wp2
      go_loopw [8] (fun i wr => ∃ k : Nat, k ≤ ms.length ∧ i = .int .i64 k ∧ Hid (Below W.heap.size W wr)) (fun i _ => ms.length - (intOf i).toNat)
      case atStart => exact ⟨0, Nat.zero_le _, rfl, HS1⟩
      case round =>
        rename World => wx
        obtain ⟨k, hk, rfl, hS⟩ := hrel
        have d8 := (hS.out.cell (p := ⟨w.heap.size, 8, none⟩) hwW).trans c8
        have g8 := (hS.out.cell (p := ⟨w.heap.size + 1, 8, none⟩) hwW1).trans f8
        by_cases hlt : k < ms.length
        · have hx := List.getElem?_eq_getElem hlt
          obtain ⟨b, off, rfl, -, hb0, hcell⟩ := cells_at H8.out hx
          have hp := K8.out ms[k] (List.getElem_mem hlt)
          obtain ⟨I, hI1, hI2⟩ : ∃ I : World → Prop, (∀ w', I w' → Below W.heap.size W w') ∧ (∀ w', Below W.heap.size W w' → I w') := ⟨_, fun _ h => h, fun _ h => h⟩
          have hI : I wx.drew := hI2 _ (below_drew hS.out)
          have hne : Nonempty (Wd I) := ⟨⟨_, hI⟩⟩
          have XI := Lib.hid (fun x : Wd I => hI1 _ x.ok)
          have XP := Lib.hid (fun y : Wd I => wd_call (I := I) (v := .bool true) ((C8.out ms[k] (List.getElem_mem hlt) y.w (XI.out y)).mono fun e w' hh => ⟨hh.1, hI2 _ ((XI.out y).trans (hh.2.mono (XI.out y).size))⟩))
          have XB := Lib.hid (fun y : Wd I => wd_call (I := I) (v := .bool true) ((CB.out ms[k] (List.getElem_mem hlt) y.w (XI.out y)).mono fun e w' hh => ⟨hh.1, hI2 _ ((XI.out y).trans (hh.2.mono (XI.out y).size))⟩))
          clear hx hI1 hI2
          generalize ms[k] = p at *
          obtain ⟨pa, pc, ps, zk, zs, z1, z2, zoa, zon, zoc, zaa, zan, zac, zwa, zwn, zwc, zra, zrn, zrc, zma, zmn, zmc, zka, zkn, zkc, hr0, hcs, hbc, -, -⟩ := hp.arm11
          have hc0 : p.c 0 = .slice pa ps.length pc := by unfold Tr.c; rw [hcs]; rfl
          rw [hcs] at hcell
          rw [hc0] at XP
          rw [hbc] at XB
          have t8 := fun y : Wd I => ((XI.out y).cell (p := ⟨w.heap.size, 8, none⟩) hwW).trans c8
          have v8 := fun y : Wd I => ((XI.out y).cell (p := ⟨w.heap.size + 1, 8, none⟩) hwW1).trans f8
          have e0 := fun y : Wd I => ((HY.out _ (XI.out y)).cell (p := ⟨b, off + k * 11, none⟩) hb0).trans (hcell 0 (by omega))
          have e1 := fun y : Wd I => ((HY.out _ (XI.out y)).cell (p := ⟨b, off + k * 11 + 1, none⟩) hb0).trans (hcell 1 (by omega))
          have e2 := fun y : Wd I => ((HY.out _ (XI.out y)).cell (p := ⟨b, off + k * 11 + 2, none⟩) hb0).trans (hcell 2 (by omega))
          have e3 := fun y : Wd I => ((HY.out _ (XI.out y)).cell (p := ⟨b, off + k * 11 + 3, none⟩) hb0).trans (hcell 3 (by omega))
          have e4 := fun y : Wd I => ((HY.out _ (XI.out y)).cell (p := ⟨b, off + k * 11 + 4, none⟩) hb0).trans (hcell 4 (by omega))
          have e5 := fun y : Wd I => ((HY.out _ (XI.out y)).cell (p := ⟨b, off + k * 11 + 5, none⟩) hb0).trans (hcell 5 (by omega))
          have e6 := fun y : Wd I => ((HY.out _ (XI.out y)).cell (p := ⟨b, off + k * 11 + 6, none⟩) hb0).trans (hcell 6 (by omega))
          have e7 := fun y : Wd I => ((HY.out _ (XI.out y)).cell (p := ⟨b, off + k * 11 + 7, none⟩) hb0).trans (hcell 7 (by omega))
          have e8 := fun y : Wd I => ((HY.out _ (XI.out y)).cell (p := ⟨b, off + k * 11 + 8, none⟩) hb0).trans (hcell 8 (by omega))
          have e9 := fun y : Wd I => ((HY.out _ (XI.out y)).cell (p := ⟨b, off + k * 11 + 9, none⟩) hb0).trans (hcell 9 (by omega))
          have e10 := fun y : Wd I => ((HY.out _ (XI.out y)).cell (p := ⟨b, off + k * 11 + 10, none⟩) hb0).trans (hcell 10 (by omega))
          simp only [List.getElem?_cons_zero, List.getElem?_cons_succ] at e0 e1 e2 e3 e4 e5 e6 e7 e8 e9 e10
          clear hp hcell hr0 hcs hbc hc0 c8 f8
          go_wp2_with fail
          refine wp_region_wd I (by kernel_rfl) (by kernel_rfl) hI ?_
          repeat (go_big_quiet_step (first | (go_at_call 50; with_reducible exact XP.out _) | (go_at_call 35; with_reducible exact XB.out _)))
          refine wpQuiet_nil ?_
          intro _ hw'
          obtain ⟨x, rfl⟩ := hw'
          have HB3 := Lib.hid (XI.out x)
          clear t8 v8 e0 e1 e2 e3 e4 e5 e6 e7 e8 e9 e10
          go_wp2
          go_roundw
          case rel => exact ⟨k + 1, by omega, by go_num, HB3⟩
          case measure => simp [intOf]; omega
        · obtain rfl : k = ms.length := by omega
          go_wp2
          go_ret
          exact ⟨rfl, HY.out _ hS.out⟩
end Go.Proofs.Ytpjcmhlgdgadjaa

namespace Go.Proofs.Ytpjcmhlgdgadjaa
open Go.RowKit
set_option linter.unusedVariables false
theorem Lies.ints {A : Nat → Prop} {w : World} {t : Tr} (h : Lies A w .ints t) : ∃ k : Int, t.cs = [.int .i64 k] := by
  cases h with
  | mk ty cs rows hc hr hf hk =>
    match cs, hc with
    | [c0], _ =>
      obtain ⟨-, k, e, -⟩ := hf 0 .int rfl
      exact ⟨k, by simpa [Tr.cs] using e⟩
set_option maxRecDepth 100000 in
set_option maxHeartbeats 1600000 in
theorem rsame_any (N : Nat) : SameOK N := by
  induction N with
  | zero => intro t ht; have := t.sz_pos; omega
  | succ N ih =>
  intro t hN hsz A w hA hl
  have HRS := sameRest_of (w := w) ih hN hsz (A := A)
  obtain ⟨nk, ns, b1, b2, oa, oc, aa, ac, wa, wc, ra, rc, ma, mc, ka, kc, os, gs, ws, rs, ms, ks, et, q1, h4, h5, h6, h7, h8, h9, k4, k5, k6, k7, k8, k9⟩ := hl.node
  have ecs : t.cs = [.int .i64 nk, .string ns, .bool b1, .bool b2, .slice oa os.length oc, .slice aa gs.length ac, .slice wa ws.length wc, .slice ra rs.length rc, .slice ma ms.length mc, .slice ka ks.length kc] := by rw [et]; rfl
  have e5 : t.r 5 = gs := by rw [et]; rfl
  have e6 : t.r 6 = ws := by rw [et]; rfl
  have e9 : t.r 9 = ks := by rw [et]; rfl
  have s5 := t.sz_r 5
  have s6 := t.sz_r 6
  have s9 := t.sz_r 9
  rw [e5] at s5
  rw [e6] at s6
  rw [e9] at s9
  obtain ⟨W1, hW1⟩ : ∃ W, w.alloc (.cells #[.int .i64 nk, .string ns, .bool b1, .bool b2, .slice oa os.length oc, .slice aa gs.length ac, .slice wa ws.length wc, .slice ra rs.length rc, .slice ma ms.length mc, .slice ka ks.length kc] 28) = W := ⟨_, rfl⟩
  obtain ⟨W, hW⟩ : ∃ W, W1.alloc (.cells #[.int .i64 nk, .string ns, .bool b1, .bool b2, .slice oa os.length oc, .slice aa gs.length ac, .slice wa ws.length wc, .slice ra rs.length rc, .slice ma ms.length mc, .slice ka ks.length kc] 28) = W := ⟨_, rfl⟩
  have hz1 : W1.heap.size = w.heap.size + 1 := by rw [← hW1]; simp
  have hzW : W.heap.size = w.heap.size + 2 := by rw [← hW]; simp [hz1]
  have hbW : Below w.heap.size w W := by rw [← hW, ← hW1]; exact (below_alloc _ _).trans ((below_alloc _ _).mono (by simp))
  have hx2 : Blk W (w.heap.size + 1) 28 #[.int .i64 nk, .string ns, .bool b1, .bool b2, .slice oa os.length oc, .slice aa gs.length ac, .slice wa ws.length wc, .slice ra rs.length rc, .slice ma ms.length mc, .slice ka ks.length kc] := by rw [← hz1, ← hW]; exact Blk.new _ _ _
  have hx1 : Blk W w.heap.size 28 #[.int .i64 nk, .string ns, .bool b1, .bool b2, .slice oa os.length oc, .slice aa gs.length ac, .slice wa ws.length wc, .slice ra rs.length rc, .slice ma ms.length mc, .slice ka ks.length kc] := by rw [← hW, ← hW1]; exact (Blk.new _ _ _).alloc _
  have hY : ∀ y, Below W.heap.size W y → Below w.heap.size w y := fun y hy => hbW.trans (hy.mono (by omega))
  have hAy : ∀ y, Below W.heap.size W y → ∀ b, A b → b < y.heap.size := fun y hy b hb => by have := hA b hb; have := hy.size; omega
  have C4 : Hid (∀ y, Below W.heap.size W y → Calls Try.prog 49 #[.slice oa os.length oc, .slice oa os.length oc] y fun e w' => e = .returned (.bool true) ∧ Below y.heap.size y w') := Lib.hid (fun y hy => rints_any (h4.later hA (hY y hy)) (h4.later hA (hY y hy)) (fun x hx => (k4 x hx).ints))
  have C5 : Hid (∀ y, Below W.heap.size W y → Calls Try.prog 50 #[.slice aa gs.length ac, .slice aa gs.length ac] y fun e w' => e = .returned (.bool true) ∧ Below y.heap.size y w') := Lib.hid (fun y hy => sameWords_of ih (by omega) (by omega) (hAy y hy) (h5.later hA (hY y hy)) (fun x hx => (k5 x hx).later hA (hY y hy)))
  have C6 : Hid (∀ y, Below W.heap.size W y → Calls Try.prog 50 #[.slice wa ws.length wc, .slice wa ws.length wc] y fun e w' => e = .returned (.bool true) ∧ Below y.heap.size y w') := Lib.hid (fun y hy => sameWords_of ih (by omega) (by omega) (hAy y hy) (h6.later hA (hY y hy)) (fun x hx => (k6 x hx).later hA (hY y hy)))
  have C9 : Hid (∀ y, Below W.heap.size W y → Calls Try.prog 12 #[.slice ka ks.length kc, .slice ka ks.length kc] y fun e w' => e = .returned (.bool true) ∧ Below y.heap.size y w') := Lib.hid (fun y hy => sameAll_of ih (by omega) (by omega) (hAy y hy) (h9.later hA (hY y hy)) (h9.later hA (hY y hy)) (fun x hx => (k9 x hx).later hA (hY y hy)))
  have CR : Hid (∀ y, Below W.heap.size W y → Calls Try.prog 51 #[.agg t.cs.toArray, .agg t.cs.toArray] y fun e w' => e = .returned (.bool true) ∧ Below y.heap.size y w') := Lib.hid (fun y hy => sameRest_of ih hN hsz (hAy y hy) (hl.later hA (hY y hy)))
  rw [ecs] at CR ⊢
  have HY := Lib.hid hY
  have hwW : w.heap.size < W.heap.size := by omega
  have hwW1 : w.heap.size + 1 < W.heap.size := by omega
  have q0 : (nk != nk) = false := by simp
  have q2 : (ns.toList != ns.toList) = false := by simp
  have q3 : (b1 != b1) = false := by simp
  have q4 : (b2 != b2) = false := by simp
  have D : Hid (∀ y, Below W.heap.size W y → (∀ j, j < 10 → y.cell? ⟨w.heap.size, j, none⟩ = W.cell? ⟨w.heap.size, j, none⟩) ∧ ∀ j, j < 10 → y.cell? ⟨w.heap.size + 1, j, none⟩ = W.cell? ⟨w.heap.size + 1, j, none⟩) := Lib.hid (fun y hy => ⟨fun j _ => hy.cell (p := ⟨w.heap.size, j, none⟩) hwW, fun j _ => hy.cell (p := ⟨w.heap.size + 1, j, none⟩) hwW1⟩)
  have HX1 := Lib.hid hx1
  have HX2 := Lib.hid hx2
  subst hW1
  have HW := Lib.hid hW
  clear et ecs e5 e6 e9 hl h4 h5 h6 h7 h8 h9 k4 k5 k6 k7 k8 k9 hA hY hAy hbW hx1 hx2 hW ih s5 s6 s9 hN hz1 hzW HRS D
  go_enter Try.func35, Try.ntmps35
  go_wp2_with fail
  rw [HW.out]
  refine (C4.out W (Below.refl _ _)).mono ?_
  rintro e w1 ⟨rfl, hb⟩
  have HB1 := Lib.hid hb
  have HA1 := Lib.hid (HX1.out.below hb hwW)
  have HA2 := Lib.hid (HX2.out.below hb hwW1)
  have hz1 := hb.size
  clear hb HX1 HX2 HW
  have c5 := HA1.out.cell 5
  have f5 := HA2.out.cell 5
  simp at c5 f5
  go_wp2_with fail
  refine (C5.out _ HB1.out).mono ?_
  rintro e w2 ⟨rfl, hb⟩
  have HB2 := Lib.hid (HB1.out.trans (hb.mono hz1))
  have HA3 := Lib.hid (HA1.out.below hb HA1.out.lt)
  have HA4 := Lib.hid (HA2.out.below hb HA2.out.lt)
  have hz2 := HB2.out.size
  clear hb c5 f5 HA1 HA2
  have c6 := HA3.out.cell 6
  have f6 := HA4.out.cell 6
  simp at c6 f6
  go_wp2_with fail
  refine (C6.out _ HB2.out).mono ?_
  rintro e w3 ⟨rfl, hb⟩
  have HB3 := Lib.hid (HB2.out.trans (hb.mono hz2))
  have HA5 := Lib.hid (HA3.out.below hb HA3.out.lt)
  have HA6 := Lib.hid (HA4.out.below hb HA4.out.lt)
  have hz3 := HB3.out.size
  clear hb c6 f6 HA3 HA4
  have c0 := HA5.out.cell 0
  have c1 := HA5.out.cell 1
  have c2 := HA5.out.cell 2
  have c3 := HA5.out.cell 3
  have c4 := HA5.out.cell 4
  have c5 := HA5.out.cell 5
  have c6 := HA5.out.cell 6
  have c7 := HA5.out.cell 7
  have c8 := HA5.out.cell 8
  have c9 := HA5.out.cell 9
  have f0 := HA6.out.cell 0
  have f1 := HA6.out.cell 1
  have f2 := HA6.out.cell 2
  have f3 := HA6.out.cell 3
  have f4 := HA6.out.cell 4
  have f5 := HA6.out.cell 5
  have f6 := HA6.out.cell 6
  have f7 := HA6.out.cell 7
  have f8 := HA6.out.cell 8
  have f9 := HA6.out.cell 9
  simp at c0 c1 c2 c3 c4 c5 c6 c7 c8 c9 f0 f1 f2 f3 f4 f5 f6 f7 f8 f9
  go_wp2_with fail
  refine (CR.out _ HB3.out).mono ?_
  rintro e w4 ⟨rfl, hb⟩
  have HB4 := Lib.hid (HB3.out.trans (hb.mono hz3))
  have HA7 := Lib.hid (HA5.out.below hb HA5.out.lt)
  have HA8 := Lib.hid (HA6.out.below hb HA6.out.lt)
  have hz4 := HB4.out.size
  clear hb c0 c1 c2 c3 c4 c5 c6 c7 c8 c9 f0 f1 f2 f3 f4 f5 f6 f7 f8 f9 HA5 HA6
  have c9 := HA7.out.cell 9
  have f9 := HA8.out.cell 9
  simp at c9 f9
  go_wp2_with fail
  refine (C9.out _ HB4.out).mono ?_
  rintro e w5 ⟨rfl, hb⟩
  have HB5 := Lib.hid (HB4.out.trans (hb.mono hz4))
  clear hb
  go_wp2
  go_ret
  exact ⟨rfl, HY.out _ HB5.out⟩
end Go.Proofs.Ytpjcmhlgdgadjaa
