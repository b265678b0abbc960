/- The document's side: a node's own words. The document's side: the nodes just below a node. The document's side: all nodes of a node. -/
import Derived.Test.YtpjcmhlgdgadjaaKc
import Derived.Deep.DeepCutAuto
import Derived.Test.YtpjcmhlgdgadjaaKd
namespace Go.Proofs.Ytpjcmhlgdgadjaa
open Go.RowKit
set_option linter.unusedVariables false
set_option maxRecDepth 100000 in
set_option maxHeartbeats 3200000 in
theorem rwords_any {A : Nat → Prop} {w : World} {t : Tr} (hsz : t.sz ≤ 1048576) (hA : ∀ b, A b → b < w.heap.size) (h : Lies A w .node t) : Calls Try.prog 37 #[.agg t.cs.toArray] w fun e w' => ∃ o, e = .returned o ∧ OutAt 41 1 w (own t).length ((own t).flatMap Tr.cs) o w' := by
  have hos : (own t).length ≤ 1048576 := Nat.le_trans (szL_len _) (by have := sz_own t; omega)
  rw [own_flat, own_len]
  rw [own_len] at hos
  obtain ⟨nk, ns, b1, b2, oa, oc, aa, ac, wa, wc, ra, rc, ma, mc, ka, kc, os, gs, ws, rs, ms, ks, rfl, q1, -, h5, h6, h7, h8, -, -, k5, k6, k7, k8, -⟩ := h.node
  have e5 : (Tr.mk [.int .i64 nk, .string ns, .bool b1, .bool b2, .slice oa os.length oc, .slice aa gs.length ac, .slice wa ws.length wc, .slice ra rs.length rc, .slice ma ms.length mc, .slice ka ks.length kc] [[], [], [], [], os, gs, ws, rs, ms, ks]).r 5 = gs := rfl
  have e6 : (Tr.mk [.int .i64 nk, .string ns, .bool b1, .bool b2, .slice oa os.length oc, .slice aa gs.length ac, .slice wa ws.length wc, .slice ra rs.length rc, .slice ma ms.length mc, .slice ka ks.length kc] [[], [], [], [], os, gs, ws, rs, ms, ks]).r 6 = ws := rfl
  have e7 : (Tr.mk [.int .i64 nk, .string ns, .bool b1, .bool b2, .slice oa os.length oc, .slice aa gs.length ac, .slice wa ws.length wc, .slice ra rs.length rc, .slice ma ms.length mc, .slice ka ks.length kc] [[], [], [], [], os, gs, ws, rs, ms, ks]).r 7 = rs := rfl
  have e8 : (Tr.mk [.int .i64 nk, .string ns, .bool b1, .bool b2, .slice oa os.length oc, .slice aa gs.length ac, .slice wa ws.length wc, .slice ra rs.length rc, .slice ma ms.length mc, .slice ka ks.length kc] [[], [], [], [], os, gs, ws, rs, ms, ks]).r 8 = ms := rfl
  rw [e5, e6, e7, e8] at hos ⊢
  clear e5 e6 e7 e8 h
  simp only [Tr.cs]
  obtain ⟨W, hW⟩ : ∃ W, w.alloc (.cells #[.int .i64 nk, .string ns, .bool b1, .bool b2, .slice oa os.length oc, .slice aa gs.length ac, .slice wa ws.length wc, .slice ra rs.length rc, .slice ma ms.length mc, .slice ka ks.length kc] 28) = W := ⟨_, rfl⟩
  have HX : Hid (Blk W w.heap.size 28 #[.int .i64 nk, .string ns, .bool b1, .bool b2, .slice oa os.length oc, .slice aa gs.length ac, .slice wa ws.length wc, .slice ra rs.length rc, .slice ma ms.length mc, .slice ka ks.length kc]) := Lib.hid (by rw [← hW]; exact Blk.new _ _ _)
  have HWB : Hid (Below w.heap.size w W) := Lib.hid (by rw [← hW]; exact below_alloc _ _)
  have hWs : W.heap.size = w.heap.size + 1 := by rw [← hW]; simp
  have HY : Hid (∀ y, Below W.heap.size W y → Below w.heap.size w y) := Lib.hid (fun y hy => HWB.out.trans (hy.mono (by omega)))
  have HBX : Hid (∀ y, Below W.heap.size W y → Blk y w.heap.size 28 #[.int .i64 nk, .string ns, .bool b1, .bool b2, .slice oa os.length oc, .slice aa gs.length ac, .slice wa ws.length wc, .slice ra rs.length rc, .slice ma ms.length mc, .slice ka ks.length kc]) := Lib.hid (fun y hy => HX.out.below hy (by omega))
  have l5 := flat_one gs (fun x hx => (k5 x hx).len)
  have l6 := flat_one ws (fun x hx => (k6 x hx).len)
  have HS5 : Hid (∀ y, Below w.heap.size w y → SrcOK y (.slice aa gs.length ac) gs.length 1 (gs.flatMap Tr.cs)) := Lib.hid (fun y hy => (h5.later hA hy).src (ty := .word) (fun x hx => (k5 x hx).later hA hy) rfl)
  have HS6 : Hid (∀ y, Below w.heap.size w y → SrcOK y (.slice wa ws.length wc) ws.length 1 (ws.flatMap Tr.cs)) := Lib.hid (fun y hy => (h6.later hA hy).src (ty := .word) (fun x hx => (k6 x hx).later hA hy) rfl)
  have HR7 := Lib.hid h7
  have HR8 := Lib.hid h8
  have HK7 := Lib.hid k7
  have HK8 := Lib.hid k8
  have HA := Lib.hid hA
  have HL5 := Lib.hid l5
  have HL6 := Lib.hid l6
  have hn5 := h5.len
  have hn6 := h6.len
  have hn7 := h7.len
  have hn8 := h8.len
  obtain ⟨xs, hxs⟩ : ∃ xs, gs.flatMap Tr.cs ++ ws.flatMap Tr.cs = xs := ⟨_, rfl⟩
  have HEl := ElWord
  rw [hxs]
  have HXS := Lib.hid hxs
  obtain ⟨Lm, hLm⟩ : ∃ Lm, ms.flatMap (·.r 0) = Lm := ⟨_, rfl⟩
  rw [hLm] at hos ⊢
  have HLM := Lib.hid hLm
  clear hLm
  have hxl : xs.length = gs.length + ws.length := by rw [← hxs, List.length_append, HL5.out, HL6.out]
  have c5 := HX.out.cell 5
  have c6 := HX.out.cell 6
  have c7 := HX.out.cell 7
  have c8 := HX.out.cell 8
  have hx8 : w.heap.size < W.heap.size := by omega
  simp at c5 c6 c7 c8
  clear h5 h6 h7 h8 k5 k6 k7 k8 hA l5 l6 hxs hsz
  have HM : Hid (∀ y : World, y.heap = (W.alloc (.cells #[] 41)).heap → y.ownsRow W.heap.size 41 1 (.slice (some ⟨w.heap.size + 1, 0, none⟩) 0 0) 0 []) := Lib.hid (fun y hy => by
    have h1 := own_made (W := W) (cur := #[]) (e := 41) (size := 1) (base := W.heap.size) (cap := 0) hWs (by omega) (by decide) rfl
    unfold World.ownsRow at h1 ⊢
    rwa [hy])
  have HYB : Hid (∀ y : World, y.heap = (W.alloc (.cells #[] 41)).heap → SrcOK y (.slice aa gs.length ac) gs.length 1 (gs.flatMap Tr.cs)) := Lib.hid (fun y hy => by
    have h1 := HS5.out (W.alloc (.cells #[] 41)) (HWB.out.trans ((below_alloc W _).mono (by omega)))
    unfold SrcOK World.cell? at h1 ⊢
    rwa [hy])
  go_enter Try.func37, Try.ntmps37
  go_wp2_with fail
  clear hW
  go_cut [3] (fun o wx => ∃ A3 c3, o = .slice A3 (gs.length + ws.length) c3 ∧ Hid (OutAt 41 1 W (gs.length + ws.length) xs (.slice A3 (gs.length + ws.length) c3) wx))
  case first =>
    go_region_law (first
      | (refine step_app ElWord (.tmp 6) (.tmp 8) ?_ ?_ (base := W.heap.size) (n := 0) (m := gs.length) (N := gs.length) (v := .slice (some ⟨w.heap.size + 1, 0, none⟩) 0 0) (src := .slice aa gs.length ac) (xs := []) (news := gs.flatMap Tr.cs) ?_ ?_ ?_ ?_ ?_ ?_ ?_ ?_ ?_
         · rfl
         · rfl
         · rfl
         · rfl
         · exact HM.out _ rfl
         · exact HYB.out _ rfl
         · omega
         · unfold maxLen; omega
         · omega
         · simp
         intro A2 c2 w2 q1 q2 q3
         have HR2 := Lib.hid q1
         have hk2 : Below W.heap.size W w2 := (below_drew ((below_alloc W (.cells #[] 41)))).trans (q2.below (by simp))
         have HB2 := Lib.hid hk2
         have HSW6 := Lib.hid (HS6.out w2 (HWB.out.trans (hk2.mono (by omega))))
         have d6 := (hk2.cell (p := ⟨w.heap.size, 6, none⟩) hx8).trans c6
         have hz2 := hk2.size
         clear q1 q2 q3 hk2)
      | (refine step_app ElWord (.tmp 9) (.tmp 11) ?_ ?_ (base := W.heap.size) (n := gs.length) (m := ws.length) (N := gs.length + ws.length) (v := .slice A2 gs.length c2) (src := .slice wa ws.length wc) (xs := gs.flatMap Tr.cs) (news := ws.flatMap Tr.cs) ?_ ?_ ?_ ?_ ?_ ?_ ?_ ?_ ?_
         · rfl
         · rfl
         · rfl
         · rfl
         · exact HR2.out
         · exact HSW6.out
         · rfl
         · unfold maxLen; omega
         · omega
         · exact hz2
         intro A3 c3 w3 q1 q2 q3
         have HO : Hid (OutAt 41 1 W (gs.length + ws.length) xs (.slice A3 (gs.length + ws.length) c3) w3) := Lib.hid ⟨A3, c3, rfl, by rw [← HXS.out]; exact q1, HB2.out.trans (q2.below hz2)⟩
         have d7 := (HO.out.below.cell (p := ⟨w.heap.size, 7, none⟩) hx8).trans c7
         clear q1 q2 q3))
    all_goals go_wp2_with fail
    all_goals go_meet
    all_goals exact ⟨_, _, rfl, HO⟩
  case rest =>
    obtain ⟨A3, c3, rfl, HO⟩ := hcut
    have hox : gs.length + ws.length ≤ 1048576 := by omega
    clear HM HYB
    generalize hn0 : gs.length + ws.length = n0 at *
    go_wp2
    go_loopw [3, 4] (fun o i wr => ∃ k : Nat, k ≤ rs.length ∧ i = .int .i64 k ∧ Hid (OutAt 41 1 W (n0 + k) (xs ++ (rs.take k).map (fun r => r.c 2)) o wr)) (fun _ i _ => rs.length - (intOf i).toNat)
    case atStart => exact ⟨0, Nat.zero_le _, rfl, Lib.hid (by simpa using HO.out)⟩
    case round =>
      obtain ⟨k, hk, rfl, hO⟩ := hrel
      have d7 := (hO.out.below.cell (p := ⟨w.heap.size, 7, none⟩) hx8).trans c7
      by_cases hlt : k < rs.length
      · have hx := List.getElem?_eq_getElem hlt
        obtain ⟨b, off, rfl, hAb, hb0, hcell⟩ := cells_at HR7.out hx
        have hp := HK7.out rs[k] (List.getElem_mem hlt)
        have htk : (rs.take (k + 1)).map (fun r => r.c 2) = (rs.take k).map (fun r => r.c 2) ++ [rs[k].c 2] := by rw [List.take_succ_eq_append_getElem hlt, List.map_append]; rfl
        have HTK := Lib.hid htk
        clear htk hx
        generalize rs[k] = p at *
        obtain ⟨rn, rk, pa, pc, ps, rh, rfl, q2, q3, h3, h4⟩ := hp.redir
        have hwb : Below w.heap.size w wr := HY.out wr hO.out.below
        have e2 := (hwb.cell (p := ⟨b, off + k * 4 + 2, none⟩) hb0).trans (hcell 2 (by omega))
        simp only [Tr.cs, List.getElem?_cons_zero, List.getElem?_cons_succ] at e2
        have hc2 : (Tr.mk [.string rn, .int .i64 rk, .slice pa ps.length pc, .string rh] [[], [], ps, []]).c 2 = .slice pa ps.length pc := rfl
        rw [hc2] at HTK
        obtain ⟨Ao, oc, rfl, ho, hb⟩ := hO.out
        have HO := Lib.hid ho
        have HB := Lib.hid hb
        have hbs := hb.size
        clear hcell hp h3 h4 q2 q3 hc2 hwb ho hb hO
        go_wp2_with (at_builtin; refine wpList_app ElWord (.tmp 20) (.tmp 27) rfl rfl (base := W.heap.size) (n := n0 + k) (m := 1) (N := n0 + (k + 1)) (v := .slice Ao (n0 + k) oc) (src := .slice (some ⟨wr.heap.size, 0, none⟩) 1 1) (news := [.slice pa ps.length pc]) rfl rfl (HO.out.alloc _) (one_src (e := 0) rfl) (by omega) (by unfold maxLen; omega) (by omega) (by simp; omega) ?_
                     intro A2 c2 w2 q1 q2 q3
                     have HF := Lib.hid (out_app HB.out q1 (((Keeps.refl W.heap.size [41] wr).alloc _).trans q2))
                     clear q1 q2 q3)
        go_roundw
        case rel => exact ⟨k + 1, by omega, by go_num, Lib.hid (by rw [HTK.out, ← List.append_assoc]; exact HF.out)⟩
        case measure => simp [intOf]; omega
      · obtain rfl : k = rs.length := by omega
        rw [List.take_length] at hO
        generalize hys : xs ++ rs.map (fun r => r.c 2) = ys at *
        generalize hn : n0 + rs.length = n at *
        go_wp2
        go_loopw [3, 5] (fun o i wr => ∃ k : Nat, k ≤ ms.length ∧ i = .int .i64 k ∧ Hid (OutAt 41 1 W (n + ((ms.take k).flatMap (·.r 0)).length) (ys ++ ((ms.take k).flatMap (·.r 0)).flatMap Tr.cs) o wr)) (fun _ i _ => ms.length - (intOf i).toNat)
        case atStart => exact ⟨0, Nat.zero_le _, rfl, Lib.hid (by simpa using hO.out)⟩
        case round =>
          obtain ⟨k, hk, rfl, hO⟩ := hrel
          have d8 := (hO.out.below.cell (p := ⟨w.heap.size, 8, none⟩) hx8).trans c8
          by_cases hlt : k < ms.length
          · have hx := List.getElem?_eq_getElem hlt
            obtain ⟨b, off, rfl, hAb, hb0, hcell⟩ := cells_at HR8.out hx
            have hp := HK8.out ms[k] (List.getElem_mem hlt)
            have htk := arms_snoc ms k hlt
            have hle := arms_len ms (k + 1)
            rw [htk, List.length_append, HLM.out] at hle
            have HTK := Lib.hid htk
            clear htk hx
            generalize ms[k] = p at *
            generalize (ms.take k).flatMap (·.r 0) = L at *
            obtain ⟨pa, pc, ps, zk, zs, z1, z2, zoa, zon, zoc, zaa, zan, zac, zwa, zwn, zwc, zra, zrn, zrc, zma, zmn, zmc, zka, zkn, zkc, hps, hcs, -, h3, h4⟩ := hp.arm11
            have hwb : Below w.heap.size w wr := HY.out wr hO.out.below
            have e0 := (hwb.cell (p := ⟨b, off + k * 11, none⟩) hb0).trans (hcell 0 (by omega))
            rw [hcs] at e0
            simp only [List.getElem?_cons_zero] at e0
            have HP := Lib.hid ((h3.later HA.out hwb).src (ty := .word) (fun x hx => (h4 x hx).later HA.out hwb) rfl)
            rw [hps] at hle HTK
            obtain ⟨Ao, oc, rfl, ho, hb⟩ := hO.out
            have HO := Lib.hid ho
            have HB := Lib.hid hb
            have hbs := hb.size
            clear hcell hp h3 h4 hps hcs ho hb hO hwb
            go_wp2_with (at_builtin; refine wpList_app ElWord (.tmp 36) (.tmp 42) rfl rfl (base := W.heap.size) (n := n + L.length) (m := ps.length) (N := n + (L ++ ps).length) (v := .slice Ao (n + L.length) oc) (src := .slice pa ps.length pc) (news := ps.flatMap Tr.cs) rfl rfl HO.out HP.out (by simp; omega) (by simp; unfold maxLen; omega) (by simp; omega) hbs ?_
                         intro A2 c2 w2 q1 q2 q3
                         have HF := Lib.hid (out_app HB.out q1 q2)
                         clear q1 q2 q3)
            go_roundw
            case rel => exact ⟨k + 1, by omega, by go_num, Lib.hid (by
              have := HF.out
              rw [List.length_append] at this
              rw [HTK.out, List.flatMap_append, ← List.append_assoc, List.length_append]
              exact this)⟩
            case measure => simp [intOf]; omega
          · obtain rfl : k = ms.length := by omega
            rw [List.take_length, HLM.out] at hO
            go_wp2
            go_ret
            rw [hn0, hys, hn]
            exact ⟨_, rfl, hO.out.base HWB.out⟩
end Go.Proofs.Ytpjcmhlgdgadjaa

namespace Go.Proofs.Ytpjcmhlgdgadjaa
open Go.RowKit
set_option linter.unusedVariables false
theorem flat_app (l m : List Tr) : (l ++ m).flatMap Tr.cs = l.flatMap Tr.cs ++ m.flatMap Tr.cs := List.flatMap_append
theorem own_one {w : World} {base : Nat} {e : TypeId} {n b c : Nat} {l : List Tr} (h : w.ownsRow base e 1 (.slice (some ⟨b, 0, none⟩) n c) n (l.flatMap Tr.cs)) (hl : ∀ x ∈ l, x.cs.length = 1) (k : Nat) (hk : k < l.length) : w.cell? ⟨b, k, none⟩ = l[k].cs[0]? := by
  have hn : l.length = n := by have := h.1; rw [flat_one l hl, Nat.mul_one] at this; exact this
  rw [own_cell h k (by omega)]
  have := flat_get l k 0 l[k] hl (List.getElem?_eq_getElem hk) (by omega)
  simpa using this
theorem one_src_row {w : World} {t : TypeId} {cs : List Value} {m : Nat} (hl : cs.length = m) (h : ∀ u ∈ cs, u.oneCell' = true) : SrcOK (w.alloc (.cells cs.toArray t)) (.slice (some ⟨w.heap.size, 0, none⟩) 1 1) 1 m cs := SrcOK.blk (c := 1) (cs := cs) (Blk.new w t _) (by omega) h
theorem flat_cs2 (l : List Tr) (x : Tr) : (l ++ [x]).flatMap Tr.cs = l.flatMap Tr.cs ++ x.cs := by simp
set_option maxRecDepth 100000 in
set_option maxHeartbeats 3200000 in
theorem rbelow_any {A : Nat → Prop} {w : World} {t : Tr} (hsz : t.sz ≤ 1048576) (hA : ∀ b, A b → b < w.heap.size) (hl : Lies A w .node t) :
    Calls Try.prog 34 #[.agg t.cs.toArray] w fun e w' => ∃ o, e = .returned o ∧ OutAt 28 10 w (below t).length ((below t).flatMap Tr.cs) o w' := by
  obtain ⟨nk, ns, b1, b2, oa, oc, aa, ac, wa, wc, ra, rc, ma, mc, ka, kc, os, gs, ws, rs, ms, ks, et, q1, -, -, -, -, h8, h9, -, -, -, -, k8, k9⟩ := hl.node
  have ecs : t.cs = [.int .i64 nk, .string ns, .bool b1, .bool b2, .slice oa os.length oc, .slice aa gs.length ac, .slice wa ws.length wc, .slice ra rs.length rc, .slice ma ms.length mc, .slice ka ks.length kc] := by rw [et]; rfl
  have e8 : t.r 8 = ms := by rw [et]; rfl
  have e9 : t.r 9 = ks := by rw [et]; rfl
  obtain ⟨W, hW⟩ : ∃ W, w.alloc (.cells t.cs.toArray 28) = W := ⟨_, rfl⟩
  have hbW : Below w.heap.size w W := by rw [← hW]; exact below_alloc _ _
  have hxW : Blk W w.heap.size 28 t.cs.toArray := by rw [← hW]; exact Blk.new _ _ _
  have hWs : W.heap.size = w.heap.size + 1 := by rw [← hW]; simp
  have hlW := hl.later hA hbW
  have hAW : ∀ b, A b → b < W.heap.size := fun b hb => by have := hA b hb; omega
  have HOWN := Lib.hid (rwords_any hsz hAW hlW)
  have hxs : below t = (own t).flatMap (fun w => inParts (w.r 0)) ++ ms.map Tr.body ++ ks := by unfold below; rw [e8, e9]
  have hos : szL (own t) ≤ 1048576 := by have := sz_own t; omega
  have hwl : (own t).length ≤ 1048576 := Nat.le_trans (szL_len _) hos
  have hol := own_lies hl
  have hbl : (below t).length ≤ 1048576 := Nat.le_trans (szL_len _) (by have := sz_below t; omega)
  have hbc : ∀ x ∈ below t, x.cs.length = 10 := fun x hx => (below_lies hl x hx).len
  have HPL : Hid (∀ q, q <+: below t → q.length ≤ 1048576) := Lib.hid (fun q hq => Nat.le_trans hq.length_le hbl)
  have hY : ∀ y, Below W.heap.size W y → Below w.heap.size w y := fun y hy => hbW.trans (hy.mono (by omega))
  rw [ecs] at HOWN hxW hW ⊢
  clear et ecs e8 e9 hsz hl hlW hbl hbc
  generalize own t = ow at *
  generalize below t = xs at *
  have HX := Lib.hid hxW
  have H8 := Lib.hid h8
  have H9 := Lib.hid h9
  have HK8 := Lib.hid k8
  have HK9 := Lib.hid k9
  have HOL := Lib.hid hol
  have HA := Lib.hid hA
  have HY := Lib.hid hY
  have HXS := Lib.hid hxs
  have HBW := Lib.hid hbW
  have c0 := hxW.cell 0
  have c1 := hxW.cell 1
  have c2 := hxW.cell 2
  have c3 := hxW.cell 3
  have c4 := hxW.cell 4
  have c5 := hxW.cell 5
  have c6 := hxW.cell 6
  have c7 := hxW.cell 7
  have c8 := hxW.cell 8
  have c9 := hxW.cell 9
  simp at c0 c1 c2 c3 c4 c5 c6 c7 c8 c9
  have hx8 : w.heap.size < W.heap.size := by omega
  have hml := h8.len
  have hkl := h9.len
  have hEl := ElNode
  clear hxW h8 h9 k8 k9 hol hA hY hxs hbW hAW
  go_enter Try.func34, Try.ntmps34
  go_wp2_with (go_at_call 37; refine HOWN.out.mono ?_; rintro e w1 ⟨o, rfl, Aw, cw, rfl, how, hb1⟩
               have HW1 := Lib.hid how
               have HB1 := Lib.hid hb1
               have hz1 := hb1.size
               clear how hb1)
  clear hW HOWN c0 c1 c2 c3 c4 c5 c6 c7
  go_loopw [3, 5] (fun o i wr => ∃ k : Nat, k ≤ ow.length ∧ i = .int .i64 k ∧ Hid (Keeps W.heap.size [28] w1 wr ∧ OutAt 28 10 W ((ow.take k).flatMap (fun w => inParts (w.r 0))).length (((ow.take k).flatMap (fun w => inParts (w.r 0))).flatMap Tr.cs) o wr)) (fun _ i _ => ow.length - (intOf i).toNat)
  case atStart => exact ⟨0, Nat.zero_le _, rfl, Lib.hid ⟨Keeps.refl _ _ _, none, 0, rfl, ⟨by simp, .inl ⟨rfl, rfl⟩⟩, HB1.out⟩⟩
  case round =>
    obtain ⟨k, hk, rfl, hS⟩ := hrel
    by_cases hlt : k < ow.length
    · obtain ⟨hkp, hO⟩ := hS.out
      obtain ⟨m, hm⟩ : ∃ m, ow.length = m + 1 := ⟨ow.length - 1, by omega⟩
      have hown := hkp.own HW1.out (.inr (by decide))
      obtain ⟨gw, rfl, -, -⟩ : ∃ g, Aw = some ⟨g, 0, none⟩ ∧ W.heap.size ≤ g ∧ g < wr.heap.size := by rw [hm] at hown; exact own_some hown
      have hu := HOL.out ow[k] (List.getElem_mem hlt)
      have e0 := own_one hown (fun x hx => (HOL.out x hx).len) k hlt
      have hszu : szL (ow[k].r 0) ≤ 1048576 := Nat.le_trans (Nat.le_of_lt (Tr.sz_r _ 0)) (Nat.le_trans (szL_mem (List.getElem_mem hlt)) hos)
      have hpf : ∀ q, q <+: inParts (ow[k].r 0) → (ow.take k).flatMap (fun w => inParts (w.r 0)) ++ q <+: xs := fun q hq => by
        rw [HXS.out, List.append_assoc]; exact pre_left (pre_flat (f := fun w => inParts (w.r 0)) hlt hq)
      have hsn := flat_snoc (f := fun w => inParts (w.r 0)) hlt
      have HSN := Lib.hid hsn
      have HPF := Lib.hid hpf
      clear hsn hpf hown hm
      generalize ow[k] = p at *
      generalize (ow.take k).flatMap (fun w => inParts (w.r 0)) = P at *
      obtain ⟨pa, pc, ps, rfl, hpr, hpk⟩ := hu.word
      have hps : (Tr.mk [.slice pa ps.length pc] [ps]).r 0 = ps := rfl
      rw [hps] at hszu HSN HPF
      simp only [Tr.cs, List.getElem?_cons_zero] at e0
      have hip : inParts ps = (cmdsL ps).flatMap (·.r 0) := rfl
      rw [hip] at HSN HPF
      obtain ⟨C, hC⟩ : ∃ C, cmdsL ps = C := ⟨_, rfl⟩
      have HC : Hid (∀ y, Below W.heap.size W y → Calls Try.prog 45 #[.slice pa ps.length pc] y fun e w' => ∃ o, e = .returned o ∧ OutAt 26 1 y C.length (C.flatMap Tr.cs) o w') := Lib.hid (fun y hy => by
        rw [← hC]
        exact rcmds_any _ ps (Nat.le_refl _) hszu A y _ (fun b hb => by have := HA.out b hb; have := hy.size; omega) (hpr.later HA.out (HY.out y hy)) (fun x hx => (hpk x hx).later HA.out (HY.out y hy)))
      have hcl : C.length ≤ 1048576 := by rw [← hC]; exact Nat.le_trans (cmdsL_len ps) hszu
      have HCL : Hid (∀ x ∈ C, Lies A w .lst x) := Lib.hid (by rw [← hC]; exact cmds_lies _ ps (Nat.le_refl _) hpk)
      rw [hC] at HSN HPF
      obtain ⟨Ao, oc, rfl, ho, hbo⟩ := hO
      have HO := Lib.hid ho
      have HBO := Lib.hid hbo
      have HKP := Lib.hid hkp
      have hzo := hbo.size
      clear hC hip hps hu hpr hpk hS ho hbo hkp hszu
      go_wp2_with (go_at_call 45; refine (HC.out _ HBO.out).mono ?_; rintro e w2 ⟨o2, rfl, A2, c2, rfl, ho2, hb2⟩
                   have HO2 := Lib.hid ho2
                   have HB2 := Lib.hid hb2
                   have HO3 := Lib.hid (own_below HO.out hb2)
                   have hz2 := hb2.size
                   clear ho2 hb2)
      clear HO HC
      go_loopw [3, 7] (fun o i wx => ∃ j : Nat, j ≤ C.length ∧ i = .int .i64 j ∧ Hid (Keeps W.heap.size [28] w2 wx ∧ OutAt 28 10 W (P ++ (C.take j).flatMap (·.r 0)).length ((P ++ (C.take j).flatMap (·.r 0)).flatMap Tr.cs) o wx)) (fun _ i _ => C.length - (intOf i).toNat)
      case atStart => exact ⟨0, Nat.zero_le _, rfl, Lib.hid ⟨Keeps.refl _ _ _, Ao, oc, by simp, by simpa using HO3.out, HBO.out.trans (HB2.out.mono hzo)⟩⟩
      case round =>
        rename World => wx
        obtain ⟨j, hj, rfl, hS⟩ := hrel
        by_cases hlt2 : j < C.length
        · obtain ⟨hkx, hO⟩ := hS.out
          obtain ⟨m, hm⟩ : ∃ m, C.length = m + 1 := ⟨C.length - 1, by omega⟩
          have hown := hkx.own HO2.out (.inr (by decide))
          obtain ⟨g2, rfl, -, -⟩ : ∃ g, A2 = some ⟨g, 0, none⟩ ∧ wr.heap.size ≤ g ∧ g < wx.heap.size := by rw [hm] at hown; exact own_some hown
          have hu := HCL.out C[j] (List.getElem_mem hlt2)
          have e2 := own_one hown (fun x hx => (HCL.out x hx).len) j hlt2
          have hsn := flat_snoc (f := fun w : Tr => w.r 0) hlt2
          have hpl := HPL.out _ (HPF.out _ (pre_flat (f := fun w : Tr => w.r 0) hlt2 (List.prefix_refl _)))
          have HSN2 := Lib.hid hsn
          clear hsn hown hm
          generalize C[j] = p at *
          obtain ⟨na, nc, ns', rfl, hnr, hnk⟩ := hu.lst
          have hns : (Tr.mk [.slice na ns'.length nc] [ns']).r 0 = ns' := rfl
          rw [hns] at HSN2 hpl
          simp only [Tr.cs, List.getElem?_cons_zero] at e2
          rw [← List.append_assoc, List.length_append] at hpl
          obtain ⟨A3, c3, rfl, ho3, hb3⟩ := hO
          have hwx := HY.out wx hb3
          have HSR := Lib.hid ((hnr.later HA.out hwx).src (ty := .node) (fun x hx => (hnk x hx).later HA.out hwx) rfl)
          have hzx := hb3.size
          generalize hQ : P ++ (C.take j).flatMap (·.r 0) = Q at *
          have HQ := Lib.hid hQ
          have HO4 := Lib.hid ho3
          have HB3 := Lib.hid hb3
          have HKX := Lib.hid hkx
          clear hQ hu hnr hnk hns ho3 hb3 hkx hS hwx
          go_wp2_with (at_builtin; refine wpList_app ElNode (.tmp 29) (.tmp 33) rfl rfl (base := W.heap.size) (n := Q.length) (m := ns'.length) (N := Q.length + ns'.length) (v := .slice A3 Q.length c3) (src := .slice na ns'.length nc) (xs := Q.flatMap Tr.cs) (news := ns'.flatMap Tr.cs) rfl rfl HO4.out HSR.out rfl (by unfold maxLen; omega) (by omega) hzx ?_
                       intro A4 c4 w4 r1 r2 r3
                       have HF := Lib.hid (out_app HB3.out r1 r2)
                       have HK4 := Lib.hid (HKX.out.trans r2)
                       clear r1 r2 r3)
          go_roundw
          case rel => exact ⟨j + 1, by omega, by go_num, Lib.hid ⟨HK4.out, by rw [HSN2.out, ← List.append_assoc, HQ.out, List.length_append, flat_app]; exact HF.out⟩⟩
          case measure => simp [intOf]; omega
        · obtain rfl : j = C.length := by omega
          rw [List.take_length] at hS
          go_wp2
          go_roundw
          case rel => exact ⟨k + 1, by omega, by go_num, Lib.hid ⟨(HKP.out.trans (Keeps.of_below (HB2.out))).trans hS.out.1, by rw [HSN.out]; exact hS.out.2⟩⟩
          case measure => simp [intOf]; omega
    · obtain rfl : k = ow.length := by omega
      rw [List.take_length] at hS
      have hxs := HXS.out
      have hO := hS.out.2
      generalize ow.flatMap (fun w => inParts (w.r 0)) = P at *
      have hx9 : w.heap.size < W.heap.size := hx8
      have d8 := (hO.below.cell (p := ⟨w.heap.size, 8, none⟩) hx8).trans c8
      have HO0 := Lib.hid hO
      have HXS2 := Lib.hid hxs
      clear hO hS hxs HXS
      go_wp2
      go_loopw [3, 8] (fun o i wr => ∃ m : Nat, m ≤ ms.length ∧ i = .int .i64 m ∧ Hid (OutAt 28 10 W (P ++ (ms.take m).map Tr.body).length ((P ++ (ms.take m).map Tr.body).flatMap Tr.cs) o wr)) (fun _ i _ => ms.length - (intOf i).toNat)
      case atStart => exact ⟨0, Nat.zero_le _, rfl, Lib.hid (by simpa using HO0.out)⟩
      case round =>
        rename World => wx
        obtain ⟨m, hmk, rfl, hS⟩ := hrel
        have d8 := (hS.out.below.cell (p := ⟨w.heap.size, 8, none⟩) hx8).trans c8
        by_cases hlt3 : m < ms.length
        · have hO := hS.out
          have hx := List.getElem?_eq_getElem hlt3
          obtain ⟨b3, off3, rfl, hAb3, hb3, hcell⟩ := cells_at H8.out hx
          have hp := HK8.out ms[m] (List.getElem_mem hlt3)
          have hpre : P ++ (ms.take m).map Tr.body ++ [ms[m].body] <+: xs := by
            rw [HXS2.out, List.append_assoc, List.append_assoc]
            refine pre_app (pre_left ?_)
            have := pre_snoc (l := ms.map Tr.body) (k := m) (by simpa using hlt3)
            simpa [List.map_take] using this
          have hpl := HPL.out _ hpre
          have htk : (ms.take (m + 1)).map Tr.body = (ms.take m).map Tr.body ++ [ms[m].body] := by rw [List.take_succ_eq_append_getElem hlt3, List.map_append]; rfl
          clear hx hpre
          rw [List.length_append] at hpl
          simp only [List.length_cons, List.length_nil] at hpl
          have HTK := Lib.hid htk
          clear htk
          generalize ms[m] = p at *
          have hones := hp.body.one
          have hbl10 := hp.body.len
          obtain ⟨pa, pc, ps, zk, zs, z1, z2, zoa, zon, zoc, zaa, zan, zac, zwa, zwn, zwc, zra, zrn, zrc, zma, zmn, zmc, zka, zkn, zkc, -, hcs, hbc, -, -⟩ := hp.arm11
          have hwx := HY.out wx hO.below
          have e1 := (hwx.cell (p := ⟨b3, off3 + m * 11 + 1, none⟩) hb3).trans (hcell 1 (by omega))
          have e2 := (hwx.cell (p := ⟨b3, off3 + m * 11 + 2, none⟩) hb3).trans (hcell 2 (by omega))
          have e3 := (hwx.cell (p := ⟨b3, off3 + m * 11 + 3, none⟩) hb3).trans (hcell 3 (by omega))
          have e4 := (hwx.cell (p := ⟨b3, off3 + m * 11 + 4, none⟩) hb3).trans (hcell 4 (by omega))
          have e5 := (hwx.cell (p := ⟨b3, off3 + m * 11 + 5, none⟩) hb3).trans (hcell 5 (by omega))
          have e6 := (hwx.cell (p := ⟨b3, off3 + m * 11 + 6, none⟩) hb3).trans (hcell 6 (by omega))
          have e7 := (hwx.cell (p := ⟨b3, off3 + m * 11 + 7, none⟩) hb3).trans (hcell 7 (by omega))
          have e8 := (hwx.cell (p := ⟨b3, off3 + m * 11 + 8, none⟩) hb3).trans (hcell 8 (by omega))
          have e9 := (hwx.cell (p := ⟨b3, off3 + m * 11 + 9, none⟩) hb3).trans (hcell 9 (by omega))
          have e10 := (hwx.cell (p := ⟨b3, off3 + m * 11 + 10, none⟩) hb3).trans (hcell 10 (by omega))
          rw [hcs] at e1 e2 e3 e4 e5 e6 e7 e8 e9 e10
          simp only [List.getElem?_cons_zero, List.getElem?_cons_succ] at e1 e2 e3 e4 e5 e6 e7 e8 e9 e10
          have hsrc := one_src_row (w := wx) (t := 28) (cs := p.body.cs) (m := 10) hbl10 hones
          generalize hPB : P ++ (ms.take m).map Tr.body = Q at *
          have HPB := Lib.hid hPB
          have hflat : (Q ++ [p.body]).flatMap Tr.cs = Q.flatMap Tr.cs ++ p.body.cs := flat_cs2 Q p.body
          rw [hbc] at hsrc hflat
          have HSRC := Lib.hid hsrc
          have HFL := Lib.hid hflat
          obtain ⟨A3, c3, rfl, ho3, hb3'⟩ := hO
          have HO4 := Lib.hid ho3
          have HB3 := Lib.hid hb3'
          have hzx := hb3'.size
          clear hcell hp hPB hsrc hflat ho3 hb3' hS hwx hones hbl10 hcs hbc hAb3
          go_wp2_with (at_builtin; refine wpList_app ElNode (.tmp 42) (.tmp 49) rfl rfl (base := W.heap.size) (n := Q.length) (m := 1) (N := Q.length + 1) (v := .slice A3 Q.length c3) (src := .slice (some ⟨wx.heap.size, 0, none⟩) 1 1) (xs := Q.flatMap Tr.cs) (news := [.int .i64 zk, .string zs, .bool z1, .bool z2, .slice zoa zon zoc, .slice zaa zan zac, .slice zwa zwn zwc, .slice zra zrn zrc, .slice zma zmn zmc, .slice zka zkn zkc]) rfl rfl (HO4.out.alloc _) HSRC.out rfl (by unfold maxLen; omega) (by omega) (by simp; omega) ?_
                       intro A4 c4 w4 r1 r2 r3
                       have HF := Lib.hid (out_app HB3.out r1 (((Keeps.refl W.heap.size [28] wx).alloc _).trans r2))
                       clear r1 r2 r3)
          go_roundw
          case rel => exact ⟨m + 1, by omega, by go_num, Lib.hid (by
            rw [HTK.out, ← List.append_assoc, HPB.out, HFL.out, List.length_append]
            exact HF.out)⟩
          case measure => simp [intOf]; omega
        · obtain rfl : m = ms.length := by omega
          rw [List.take_length] at hS
          have hO := hS.out
          have d9 := (hO.below.cell (p := ⟨w.heap.size, 9, none⟩) hx8).trans c9
          have hpl := HPL.out xs (List.prefix_refl _)
          have hwx := HY.out wx hO.below
          have HSR := Lib.hid ((H9.out.later HA.out hwx).src (ty := .node) (fun x hx => (HK9.out x hx).later HA.out hwx) rfl)
          have hxs := HXS2.out
          generalize P ++ ms.map Tr.body = Q at *
          rw [hxs, List.length_append] at hpl
          have HXF : Hid (xs = Q ++ ks) := Lib.hid hxs
          obtain ⟨A3, c3, rfl, ho3, hb3'⟩ := hO
          have HO4 := Lib.hid ho3
          have HB3 := Lib.hid hb3'
          have hzx := hb3'.size
          clear ho3 hb3' hS hwx hxs
          go_wp2_with (at_builtin; refine wpList_app ElNode (.tmp 51) (.tmp 53) rfl rfl (base := W.heap.size) (n := Q.length) (m := ks.length) (N := Q.length + ks.length) (v := .slice A3 Q.length c3) (src := .slice ka ks.length kc) (xs := Q.flatMap Tr.cs) (news := ks.flatMap Tr.cs) rfl rfl HO4.out HSR.out rfl (by unfold maxLen; omega) (by omega) hzx ?_
                       intro A4 c4 w4 r1 r2 r3
                       have HF := Lib.hid (out_app HB3.out r1 r2)
                       clear r1 r2 r3)
          go_ret
          refine ⟨_, rfl, ?_⟩
          rw [HXF.out, List.length_append, flat_app]
          exact HF.out.base HBW.out
end Go.Proofs.Ytpjcmhlgdgadjaa

namespace Go.Proofs.Ytpjcmhlgdgadjaa
open Go.RowKit
set_option linter.unusedVariables false
theorem own_tree {w : World} {base : Nat} {e : TypeId} {m n b c : Nat} {l : List Tr} (h : w.ownsRow base e m (.slice (some ⟨b, 0, none⟩) n c) n (l.flatMap Tr.cs)) (hl : ∀ x ∈ l, x.cs.length = m) (hn : l.length = n) (k : Nat) (hk : k < l.length) (j : Nat) (hj : j < m) : w.cell? ⟨b, k * m + j, none⟩ = l[k].cs[j]? := by
  have hkm : k * m + j < n * m := by
    have := Nat.mul_le_mul_right m (show k + 1 ≤ n by omega)
    rw [Nat.succ_mul] at this
    omega
  rw [own_cell h _ hkm]
  exact flat_get l k j l[k] hl (List.getElem?_eq_getElem hk) hj
theorem own_blk {w : World} {base g : Nat} {e : TypeId} {m : Nat} {cs : List Value} (h : Blk w g e cs.toArray) (hb : base ≤ g) (hl : cs.length = m) : w.ownsRow base e m (.slice (some ⟨g, 0, none⟩) 1 1) 1 cs := by
  exact ⟨by omega, .inr ⟨g, 1, cs.toArray, rfl, hb, h, Nat.le_refl _, by decide, by simp; omega, List.take_of_length_le (by show cs.length ≤ _; omega)⟩⟩
theorem own_base {w : World} {base base' : Nat} {e : TypeId} {size n : Nat} {v : Value} {xs : List Value} (h : w.ownsRow base e size v n xs) (hb : base' ≤ base) : w.ownsRow base' e size v n xs := by
  refine ⟨h.1, ?_⟩
  rcases h.2 with hn | ⟨g, cap, cur, he, h3, rest⟩
  · exact .inl hn
  · exact .inr ⟨g, cap, cur, he, Nat.le_trans hb h3, rest⟩
theorem sz_len (t : Tr) : (all t).length ≤ t.sz := all_sz t
theorem all_pre {t : Tr} {pre : List Tr} (h : pre <+: below t) : 1 + (pre.flatMap all).length ≤ t.sz := by
  have h1 := sz_len t
  obtain ⟨q, hq⟩ := h
  rw [all_eq, allL_flat, ← hq, List.flatMap_append, List.length_cons, List.length_append] at h1
  omega
set_option maxRecDepth 100000 in
set_option maxHeartbeats 3200000 in
theorem rall_any (N : Nat) : ∀ t : Tr, t.sz ≤ N → t.sz ≤ 1048576 → ∀ (A : Nat → Prop) (w : World), (∀ b, A b → b < w.heap.size) → Lies A w .node t →
    Calls Try.prog 11 #[.agg t.cs.toArray] w fun e w' => ∃ o, e = .returned o ∧ OutAt 28 10 w (all t).length ((all t).flatMap Tr.cs) o w' := by
  induction N with
  | zero => intro t ht; have := t.sz_pos; omega
  | succ N ih =>
  intro t hN hsz A w hA hl
  obtain ⟨nk, ns, b1, b2, oa, on, oc, aa, an, ac, wa, wn, wc, ra, rn, rc, ma, mn, mc, ka, kn, kc, hcs⟩ := hl.node10
  obtain ⟨W, hW⟩ : ∃ W, w.alloc (.cells t.cs.toArray 28) = W := ⟨_, rfl⟩
  obtain ⟨W0, hW0⟩ : ∃ W0, W.alloc (.cells t.cs.toArray 28) = W0 := ⟨_, rfl⟩
  have hbW : Below w.heap.size w W := by rw [← hW]; exact below_alloc _ _
  have hb0 : Below W.heap.size W W0 := by rw [← hW0]; exact below_alloc _ _
  have hWs : W.heap.size = w.heap.size + 1 := by rw [← hW]; simp
  have hs0 : W0.heap.size = w.heap.size + 2 := by rw [← hW0]; simp [hWs]
  have hx0 : Blk W0 w.heap.size 28 t.cs.toArray := by
    rw [← hW0, ← hW]; exact (Blk.new w 28 _).alloc _
  have ho0 : W0.ownsRow W.heap.size 28 10 (.slice (some ⟨W.heap.size, 0, none⟩) 1 1) 1 t.cs := own_blk (by rw [← hW0]; exact Blk.new W 28 _) (Nat.le_refl _) hl.len
  have hw0 : Below w.heap.size w W0 := hbW.trans (hb0.mono (by omega))
  have hbel := rbelow_any hsz (w := W0) (fun b hb => by have := hA b hb; omega) (hl.later hA hw0)
  have hbl := below_lies hl
  have hbn : (below t).length ≤ 1048576 := Nat.le_trans (szL_len _) (by have := sz_below t; omega)
  have HPL : Hid (∀ pre, pre <+: below t → 1 + (pre.flatMap all).length ≤ 1048576) := Lib.hid (fun pre hp => by have := all_pre hp; omega)
  have HIH : Hid (∀ x ∈ below t, ∀ y, Below w.heap.size w y → Calls Try.prog 11 #[.agg x.cs.toArray] y fun e w' => ∃ o, e = .returned o ∧ OutAt 28 10 y (all x).length ((all x).flatMap Tr.cs) o w') := Lib.hid (fun x hx y hy => by
    have h1 := szL_mem hx
    have h2 := sz_below t
    exact ih x (by omega) (by omega) A y (fun b hb => by have := hA b hb; have := hy.size; omega) ((hbl x hx).later hA hy))
  have HBL := Lib.hid hbl
  rw [all_eq, allL_flat]
  obtain ⟨tcs, htl⟩ : ∃ tcs, t.cs = tcs := ⟨_, rfl⟩
  have hfl : (t :: (below t).flatMap all).flatMap Tr.cs = tcs ++ ((below t).flatMap all).flatMap Tr.cs := by rw [← htl]; rfl
  rw [hfl]
  rw [htl] at ho0
  rw [hcs] at hW hW0 hx0 hbel ⊢
  generalize below t = xs at *
  have HBEL := Lib.hid hbel
  have HO0 := Lib.hid ho0
  have HB0 := Lib.hid hb0
  have HBW := Lib.hid hbW
  have hWX : (w.alloc (.cells #[.int .i64 nk, .string ns, .bool b1, .bool b2, .slice oa on oc, .slice aa an ac, .slice wa wn wc, .slice ra rn rc, .slice ma mn mc, .slice ka kn kc] 28)).alloc (.cells #[.int .i64 nk, .string ns, .bool b1, .bool b2, .slice oa on oc, .slice aa an ac, .slice wa wn wc, .slice ra rn rc, .slice ma mn mc, .slice ka kn kc] 28) = W0 := by rw [← hW0, ← hW]
  have HWX := Lib.hid hWX
  have hEl := ElNode
  have hWl : w.heap.size < W.heap.size := by omega
  have c0 := hx0.cell 0
  have c1 := hx0.cell 1
  have c2 := hx0.cell 2
  have c3 := hx0.cell 3
  have c4 := hx0.cell 4
  have c5 := hx0.cell 5
  have c6 := hx0.cell 6
  have c7 := hx0.cell 7
  have c8 := hx0.cell 8
  have c9 := hx0.cell 9
  simp at c0 c1 c2 c3 c4 c5 c6 c7 c8 c9
  clear hbel ho0 hb0 hbW hx0 hw0 hbl ih hl hA hfl hcs hW hW0 hWX c0 c1 c2 c3 c4 c5 c6 c7 c8 c9 htl
  go_enter Try.func11, Try.ntmps11
  go_wp2_with (go_at_call 34; rw [HWX.out]; refine HBEL.out.mono ?_; rintro e w1 ⟨o, rfl, Ab, cb, rfl, hob, hb1⟩
               have HOB := Lib.hid hob
               have HB1 := Lib.hid hb1
               have HO1 := Lib.hid (own_below HO0.out hb1)
               have hz1 := hb1.size
               clear hob hb1)
  clear HBEL HWX HO0
  go_loopw [3, 5] (fun o i wr => ∃ k : Nat, k ≤ xs.length ∧ i = .int .i64 k ∧ Hid (OutAt 28 10 W (1 + ((xs.take k).flatMap all).length) (tcs ++ ((xs.take k).flatMap all).flatMap Tr.cs) o wr ∧ wr.ownsRow W.heap.size 28 10 (.slice Ab xs.length cb) xs.length (xs.flatMap Tr.cs) ∧ ∀ g, (Value.slice Ab xs.length cb).ownBlock = some g → o.ownBlock ≠ some g)) (fun _ i _ => xs.length - (intOf i).toNat)
  case atStart =>
    refine ⟨0, Nat.zero_le _, rfl, Lib.hid ⟨⟨some ⟨W.heap.size, 0, none⟩, 1, by rw [hWs]; rfl, by simpa using HO1.out, HB0.out.trans (HB1.out.mono (by omega))⟩, own_base HOB.out (by omega), fun g hg h => ?_⟩⟩
    have h1 := (own_lt HOB.out hg).1
    simp only [Value.ownBlock, Option.some.injEq] at h
    omega
  case round =>
    obtain ⟨k, hk, rfl, hS⟩ := hrel
    by_cases hlt : k < xs.length
    · obtain ⟨hO, hown, hne⟩ := hS.out
      obtain ⟨m, hm⟩ : ∃ m, xs.length = m + 1 := ⟨xs.length - 1, by omega⟩
      obtain ⟨gb, rfl, -, -⟩ : ∃ g, Ab = some ⟨g, 0, none⟩ ∧ W.heap.size ≤ g ∧ g < wr.heap.size := by rw [hm] at hown; exact own_some hown
      have hx := HBL.out xs[k] (List.getElem_mem hlt)
      have hcell := own_tree hown (fun x hx => (HBL.out x hx).len) rfl k hlt
      have hcall := HIH.out xs[k] (List.getElem_mem hlt)
      have hsn := flat_snoc (f := all) hlt
      have hpl := HPL.out _ (List.take_prefix (k + 1) xs)
      rw [hsn, List.length_append] at hpl
      have hones := flat_ones (all_lies _ [xs[k]] (Nat.le_refl _) (by simpa using hx))
      have hones2 : ∀ u ∈ (all xs[k]).flatMap Tr.cs, u.oneCell' = true := hones
      have HSN := Lib.hid hsn
      clear hsn hones hm
      generalize xs[k] = p at *
      obtain ⟨zk, zs, z1, z2, zoa, zon, zoc, zaa, zan, zac, zwa, zwn, zwc, zra, zrn, zrc, zma, zmn, zmc, zka, zkn, zkc, hpc⟩ := hx.node10
      have e0 := hcell 0 (by omega)
      have e1 := hcell 1 (by omega)
      have e2 := hcell 2 (by omega)
      have e3 := hcell 3 (by omega)
      have e4 := hcell 4 (by omega)
      have e5 := hcell 5 (by omega)
      have e6 := hcell 6 (by omega)
      have e7 := hcell 7 (by omega)
      have e8 := hcell 8 (by omega)
      have e9 := hcell 9 (by omega)
      rw [hpc] at e0 e1 e2 e3 e4 e5 e6 e7 e8 e9 hcall
      simp only [List.getElem?_cons_zero, List.getElem?_cons_succ, Nat.add_zero] at e0 e1 e2 e3 e4 e5 e6 e7 e8 e9
      have hwr := HBW.out.trans (hO.below.mono (by omega))
      have HCALL := Lib.hid (hcall wr hwr)
      obtain ⟨Ao, oo, rfl, ho, hbo⟩ := hO
      have hzr := hbo.size
      generalize hys : (all p).flatMap Tr.cs = ys at *
      generalize hmm : (all p).length = mm at *
      generalize hP : (xs.take k).flatMap all = P at *
      generalize hpn : P.length = n at *
      have HYS := Lib.hid hys
      have HMM := Lib.hid hmm
      have HP := Lib.hid hP
      have HPN := Lib.hid hpn
      have HO := Lib.hid ho
      have HB := Lib.hid hbo
      have HOW := Lib.hid hown
      have HNE := Lib.hid hne
      have HONES := Lib.hid hones2
      clear hx hcell hcall hpc hys hmm hP hpn ho hbo hown hne hones2 hS hwr
      go_wp2_with (first
        | (go_at_call 11; refine HCALL.out.mono ?_; rintro e w3 ⟨o3, rfl, A3, c3, rfl, ho3, hb3⟩
           have HO3 := Lib.hid (own_below HO.out hb3)
           have HS3 := Lib.hid (SrcOK.own ho3 HONES.out)
           have HOW3 := Lib.hid (own_below HOW.out hb3)
           have hz3 := hb3.size
           have HB3 := Lib.hid hb3
           clear ho3 hb3)
        | (at_builtin; refine wpList_app ElNode (.tmp 16) (.tmp 21) rfl rfl (base := W.heap.size) (n := 1 + n) (m := mm) (N := 1 + (n + mm)) (v := .slice Ao (1 + n) oo) (src := .slice A3 mm c3) (xs := tcs ++ P.flatMap Tr.cs) (news := ys) rfl rfl HO3.out HS3.out (by omega) (by unfold maxLen; omega) (by omega) (by omega) ?_
           intro A9 c9 w9 r1 r2 r3
           have HF := Lib.hid (out_app HB.out r1 ((Keeps.of_below HB3.out).trans r2))
           have HOW9 := Lib.hid ((Chg.of_grown r3.1).own HOW3.out (fun g hg h => HNE.out g hg h))
           have HNE9 : Hid (∀ g, (Value.slice (some ⟨gb, 0, none⟩) xs.length cb).ownBlock = some g → (Value.slice A9 (1 + (n + mm)) c9).ownBlock ≠ some g) := Lib.hid (fun g hg h => by
             rcases r3.2 with h2 | h2
             · exact HNE.out g hg (by rw [← h2]; exact h)
             · rw [h2] at h
               have h3 := (own_lt HOW3.out hg).2
               have h4 := Option.some.inj h
               omega)
           clear r1 r2 r3))
      go_roundw
      case rel => exact ⟨k + 1, by omega, by go_num, Lib.hid ⟨by rw [HSN.out, List.length_append, HMM.out, HPN.out, flat_app, HYS.out, ← List.append_assoc]; exact HF.out, HOW9.out, HNE9.out⟩⟩
      case measure => simp [intOf]; omega
    · obtain rfl : k = xs.length := by omega
      rw [List.take_length] at hS
      go_wp2
      go_ret
      refine ⟨_, rfl, ?_⟩
      have := hS.out.1.base HBW.out
      rw [Nat.add_comm] at this
      exact this
end Go.Proofs.Ytpjcmhlgdgadjaa
