/- Two rows of words, one behind the other: slices.Concat. A node's own words. The nodes just below a node, as an iterator. All nodes of a node, as an iterator. -/
import Derived.Test.YtpjcmhlgdgadjaaKb
import Derived.Lib.AppendZeros
import Derived.TacticsIn
import Derived.TacticsInMore
import Derived.LoopNIn
import Derived.LoopIn
import Derived.OwnWalkIn
namespace Go.Proofs.Ytpjcmhlgdgadjaa
open Go.RowKit
set_option linter.unusedVariables false
theorem own_made_eq {W : World} {cur : Array Value} {e : TypeId} {size base cap g : Nat} (hg : W.heap.size = g) (hb : base ≤ g) (hm : cap ≤ maxLen) (hs : cur.size = cap * size) :
    (W.alloc (.cells cur e)).ownsRow base e size (.slice (some ⟨g, 0, none⟩) 0 cap) 0 [] := own_made hg hb hm hs
theorem Try.infoWord : (Try.prog.info? 41).map (fun i => (i.zero, i.size, i.bytes)) = some (some (.agg #[.slice none 0 0]), 1, 24) := by kernel_rfl
set_option maxRecDepth 100000 in
/-- A row that is there, with nothing in it. -/
theorem grow_any (n : Nat) (hn : n ≤ 4000000) (w : World) : Calls Try.prog 62 #[.slice none 0 0, .int .i64 n] w fun e w' => ∃ o, e = .returned o ∧ OutAt 41 1 w 0 [] o w' := by
  by_cases h0 : n = 0
  · subst h0
    go_enter Try.func62, Try.ntmps62
    go_wp2
    go_ret
    exact ⟨_, rfl, OutAt.nil _ _ _⟩
  · obtain ⟨i, hi, hz0, hz1, hz2⟩ := info_parts Try.infoWord
    have hr := Lib.run_append_nil_zeros (P := Try.prog) w 23 3 23 41 i (.agg #[.slice none 0 0]) .i64 .i64 Try.underlying23 Try.underlying3 hi hz0 n (by omega) (by omega) (by omega) (by rw [hz2]; omega)
    have hge := grownCap_ge w n 0 41
    have hcm : grownCap w n 0 41 ≤ maxLen := grownCap_le_maxLen w n 0 41 (by unfold maxLen; omega)
    generalize grownCap w n 0 41 = cap at *
    have hc0 : (Builtin.zeroCells (Value.agg #[.slice none 0 0]).cells n ++ Builtin.zeroCells (Value.agg #[.slice none 0 0]).cells (cap - n)).size = cap := by
      simp [Builtin.zeroCells, Value.cells]; omega
    generalize Builtin.zeroCells (Value.agg #[.slice none 0 0]).cells n ++ Builtin.zeroCells (Value.agg #[.slice none 0 0]).cells (cap - n) = cs at *
    have hpos : 0 < (n : Int) := by omega
    have HR := Lib.hid hr
    clear hr
    go_enter Try.func62, Try.ntmps62
    go_wp2_with (at_builtin; refine Lib.wpList_append_run _ rfl _ _ _ _ rfl _ _ rfl rfl _ _ HR.out ?_)
    go_ret
    refine ⟨_, rfl, some ⟨w.heap.size, 0, none⟩, cap, rfl, ?_, ?_⟩
    · exact own_made (W := w.drew) rfl (Nat.le_refl _) hcm (by omega)
    · exact below_drew (below_alloc w _)
def CatAt (w : World) (xs ys : List Value) (o i : Value) (wr : World) : Prop :=
  (i = .int .i64 0 ∧ OutAt 41 1 w 0 [] o wr) ∨ (i = .int .i64 1 ∧ OutAt 41 1 w xs.length xs o wr) ∨ (i = .int .i64 2 ∧ OutAt 41 1 w (xs.length + ys.length) (xs ++ ys) o wr)
set_option maxRecDepth 100000 in
set_option maxHeartbeats 3200000 in
theorem concat_any {w : World} {A1 A2 : Option Addr} {c1 c2 : Nat} {xs ys : List Value} {B : Nat} (ha : ∀ y, Below w.heap.size w y → SrcOK y (.slice A1 xs.length c1) xs.length 1 xs) (hb : ∀ y, Below w.heap.size w y → SrcOK y (.slice A2 ys.length c2) ys.length 1 ys) (hla : xs.length ≤ 1048576) (hlb : ys.length ≤ 1048576)
    (hu : w.cell? ⟨B, 0, none⟩ = some (.slice A1 xs.length c1)) (hv : w.cell? ⟨B, 1, none⟩ = some (.slice A2 ys.length c2)) :
    Calls Try.prog 52 #[.slice (some ⟨B, 0, none⟩) 2 2] w fun e w' => ∃ o, e = .returned o ∧ OutAt 41 1 w (xs.length + ys.length) (xs ++ ys) o w' := by
  have HSA := Lib.hid ha
  have HSB := Lib.hid hb
  have HGR := Lib.hid (grow_any (xs.length + ys.length) (by omega) w)
  have hB := World.block_lt_of_cell? w _ hu
  have hEl := ElWord
  clear ha hb
  go_enter Try.func52, Try.ntmps52
  go_wp2
  go_loop [3, 11] (fun s i => (i = .int .i64 0 ∧ s = .int .i64 0) ∨ (i = .int .i64 1 ∧ s = .int .i64 xs.length) ∨ (i = .int .i64 2 ∧ s = .int .i64 ((xs.length + ys.length : Nat) : Int))) (fun _ i => 2 - (intOf i).toNat)
  case atStart => exact .inl ⟨rfl, rfl⟩
  case round =>
    rcases hrel with ⟨rfl, rfl⟩ | ⟨rfl, rfl⟩ | ⟨rfl, rfl⟩
    · go_wp2
      go_round
      case rel => exact .inr (.inl ⟨rfl, rfl⟩)
      case measure => simp [intOf]
    · go_wp2
      go_round
      case rel => exact .inr (.inr ⟨rfl, by go_num⟩)
      case measure => simp [intOf]
    · go_wp2_with fail
      refine HGR.out.mono ?_
      rintro e w1 ⟨o, rfl, hO⟩
      have HO := Lib.hid hO
      clear hO
      go_wp2
      go_loopw [6, 27] (fun o i wr => Hid (CatAt w xs ys o i wr)) (fun _ i _ => 2 - (intOf i).toNat)
      case atStart => exact Lib.hid (.inl ⟨rfl, HO.out⟩)
      case round =>
        rcases hrel.out with ⟨rfl, A, c, rfl, ho, hbw⟩ | ⟨rfl, A, c, rfl, ho, hbw⟩ | ⟨rfl, hO2⟩
        · have HO := Lib.hid ho
          have HB := Lib.hid hbw
          have e0 := (hbw.cell (p := ⟨B, 0, none⟩) hB).trans hu
          have HS := Lib.hid (HSA.out wr hbw)
          have hws := hbw.size
          clear ho hbw hrel
          go_wp2_with (at_builtin; refine wpList_app ElWord (.tmp 31) (.tmp 32) rfl rfl (base := w.heap.size) (n := 0) (m := xs.length) (N := xs.length) (xs := []) (news := xs) rfl rfl HO.out HS.out (by omega) (by unfold maxLen; omega) (by omega) hws ?_; intro A2 c2 w2 r1 r2 r3; have HF := Lib.hid (out_app HB.out (xs := []) r1 r2); clear r1 r2 r3)
          go_roundw
          case rel => exact Lib.hid (.inr (.inl ⟨rfl, HF.out⟩))
          case measure => simp [intOf]
        · have HO := Lib.hid ho
          have HB := Lib.hid hbw
          have e1 := (hbw.cell (p := ⟨B, 1, none⟩) hB).trans hv
          have HS := Lib.hid (HSB.out wr hbw)
          have hws := hbw.size
          clear ho hbw hrel
          go_wp2_with (at_builtin; refine wpList_app ElWord (.tmp 31) (.tmp 32) rfl rfl (base := w.heap.size) (n := xs.length) (m := ys.length) (N := xs.length + ys.length) (xs := xs) (news := ys) rfl rfl HO.out HS.out rfl (by unfold maxLen; omega) (by omega) hws ?_; intro A2 c2 w2 r1 r2 r3; have HF := Lib.hid (out_app HB.out r1 r2); clear r1 r2 r3)
          go_roundw
          case rel => exact Lib.hid (.inr (.inr ⟨rfl, HF.out⟩))
          case measure => simp [intOf]
        · have HO2 := Lib.hid hO2
          clear hO2 hrel
          go_wp2
          go_ret
          exact ⟨_, rfl, HO2.out⟩
end Go.Proofs.Ytpjcmhlgdgadjaa

namespace Go.Proofs.Ytpjcmhlgdgadjaa
open Go.RowKit
set_option linter.unusedVariables false
theorem OutAt.base {T m : Nat} {w w1 wr : World} {n : Nat} {xs : List Value} {o : Value} (h : OutAt T m w1 n xs o wr) (hb : Below w.heap.size w w1) : OutAt T m w n xs o wr := by
  obtain ⟨A, c, rfl, h1, h2⟩ := h
  refine ⟨A, c, rfl, ⟨h1.1, ?_⟩, hb.trans (h2.mono hb.size)⟩
  rcases h1.2 with hn | ⟨g, cap, cur, he, h3, h4, rest⟩
  · exact .inl hn
  · exact .inr ⟨g, cap, cur, he, Nat.le_trans hb.size h3, h4, rest⟩
theorem OutAt.below {T m : Nat} {w wr : World} {n : Nat} {xs : List Value} {o : Value} (h : OutAt T m w n xs o wr) : Below w.heap.size w wr := by
  obtain ⟨A, c, h1, h2, h3⟩ := h
  exact h3
theorem concat_n {w : World} {A1 A2 : Option Addr} {c1 c2 n m : Nat} {xs ys : List Value} {B : Nat} (hn : xs.length = n) (hm : ys.length = m) (ha : ∀ y, Below w.heap.size w y → SrcOK y (.slice A1 n c1) n 1 xs) (hb : ∀ y, Below w.heap.size w y → SrcOK y (.slice A2 m c2) m 1 ys) (hla : n ≤ 1048576) (hlb : m ≤ 1048576)
    (hu : w.cell? ⟨B, 0, none⟩ = some (.slice A1 n c1)) (hv : w.cell? ⟨B, 1, none⟩ = some (.slice A2 m c2)) :
    Calls Try.prog 52 #[.slice (some ⟨B, 0, none⟩) 2 2] w fun e w' => ∃ o, e = .returned o ∧ OutAt 41 1 w (n + m) (xs ++ ys) o w' := by
  subst hn
  subst hm
  exact concat_any ha hb hla hlb hu hv
theorem map_c2 (l : List Tr) : (l.map (fun r => wordOf (r.c 2) (r.r 2))).flatMap Tr.cs = l.map (fun r => r.c 2) := by
  induction l with
  | nil => rfl
  | cons a l ih => simp only [List.map_cons, List.flatMap_cons, ih]; rfl
theorem own_flat (t : Tr) : (own t).flatMap Tr.cs = (t.r 5).flatMap Tr.cs ++ (t.r 6).flatMap Tr.cs ++ (t.r 7).map (fun r => r.c 2) ++ ((t.r 8).flatMap (·.r 0)).flatMap Tr.cs := by
  simp only [own, List.flatMap_append, map_c2]
theorem own_len (t : Tr) : (own t).length = (t.r 5).length + (t.r 6).length + (t.r 7).length + ((t.r 8).flatMap (·.r 0)).length := by
  simp only [own, List.length_append, List.length_map]
theorem arms_snoc (l : List Tr) (k : Nat) (h : k < l.length) : (l.take (k + 1)).flatMap (·.r 0) = (l.take k).flatMap (·.r 0) ++ l[k].r 0 := by
  rw [List.take_succ_eq_append_getElem h, List.flatMap_append]
  simp
theorem arms_len (l : List Tr) (k : Nat) : ((l.take k).flatMap (·.r 0)).length ≤ (l.flatMap (·.r 0)).length := by
  conv => rhs; rw [← List.take_append_drop k l, List.flatMap_append, List.length_append]
  omega
/-- An arm's cells, one by one. -/
theorem Lies.arm11 {A : Nat → Prop} {w : World} {t : Tr} (h : Lies A w .arm t) : ∃ (pa : Option Addr) (pc : Nat) (ps : List Tr) (nk : Int) (ns : ByteArray) (b1 b2 : Bool) (oa : Option Addr) (on oc : Nat) (aa : Option Addr) (an ac : Nat) (wa : Option Addr) (wn wc : Nat) (ra : Option Addr) (rn rc : Nat) (ma : Option Addr) (mn mc : Nat) (ka : Option Addr) (kn kc : Nat),
    t.r 0 = ps ∧ t.cs = [.slice pa ps.length pc, .int .i64 nk, .string ns, .bool b1, .bool b2, .slice oa on oc, .slice aa an ac, .slice wa wn wc, .slice ra rn rc, .slice ma mn mc, .slice ka kn kc] ∧
    t.body.cs = [.int .i64 nk, .string ns, .bool b1, .bool b2, .slice oa on oc, .slice aa an ac, .slice wa wn wc, .slice ra rn rc, .slice ma mn mc, .slice ka kn kc] ∧
    RowAt A w 1 (.slice pa ps.length pc) ps ∧ (∀ x ∈ ps, Lies A w .word x) := by
  obtain ⟨nk, ns, b1, b2, oa, oc, aa, ac, wa, wc, ra, rc, ma, mc, ka, kc, os, gs, ws, rs, ms, ks, e1, -⟩ := h.body.node
  obtain ⟨pa, pc, ps, e, h3, h4⟩ := h.arm
  rw [e1] at e
  exact ⟨pa, pc, ps, nk, ns, b1, b2, oa, os.length, oc, aa, gs.length, ac, wa, ws.length, wc, ra, rs.length, rc, ma, ms.length, mc, ka, ks.length, kc, by rw [e]; rfl, by rw [e]; rfl, by rw [e1]; rfl, h3, h4⟩
set_option maxRecDepth 100000 in
set_option maxHeartbeats 3200000 in
theorem own_any {A : Nat → Prop} {w : World} {t : Tr} (hsz : t.sz ≤ 1048576) (hA : ∀ b, A b → b < w.heap.size) (h : Lies A w .node t) : Calls Try.prog 36 #[.agg t.cs.toArray] w fun e w' => ∃ o, e = .returned o ∧ OutAt 41 1 w (own t).length ((own t).flatMap Tr.cs) o w' := by
  have hos : (own t).length ≤ 1048576 := Nat.le_trans (szL_len _) (by have := sz_own t; omega)
  rw [own_flat, own_len]
  rw [own_len] at hos
  obtain ⟨nk, ns, b1, b2, oa, oc, aa, ac, wa, wc, ra, rc, ma, mc, ka, kc, os, gs, ws, rs, ms, ks, rfl, q1, -, h5, h6, h7, h8, -, -, k5, k6, k7, k8, -⟩ := h.node
  have e5 : (Tr.mk [.int .i64 nk, .string ns, .bool b1, .bool b2, .slice oa os.length oc, .slice aa gs.length ac, .slice wa ws.length wc, .slice ra rs.length rc, .slice ma ms.length mc, .slice ka ks.length kc] [[], [], [], [], os, gs, ws, rs, ms, ks]).r 5 = gs := rfl
  have e6 : (Tr.mk [.int .i64 nk, .string ns, .bool b1, .bool b2, .slice oa os.length oc, .slice aa gs.length ac, .slice wa ws.length wc, .slice ra rs.length rc, .slice ma ms.length mc, .slice ka ks.length kc] [[], [], [], [], os, gs, ws, rs, ms, ks]).r 6 = ws := rfl
  have e7 : (Tr.mk [.int .i64 nk, .string ns, .bool b1, .bool b2, .slice oa os.length oc, .slice aa gs.length ac, .slice wa ws.length wc, .slice ra rs.length rc, .slice ma ms.length mc, .slice ka ks.length kc] [[], [], [], [], os, gs, ws, rs, ms, ks]).r 7 = rs := rfl
  have e8 : (Tr.mk [.int .i64 nk, .string ns, .bool b1, .bool b2, .slice oa os.length oc, .slice aa gs.length ac, .slice wa ws.length wc, .slice ra rs.length rc, .slice ma ms.length mc, .slice ka ks.length kc] [[], [], [], [], os, gs, ws, rs, ms, ks]).r 8 = ms := rfl
  rw [e5, e6, e7, e8] at hos ⊢
  clear e5 e6 e7 e8 h
  simp only [Tr.cs]
  obtain ⟨W, hW⟩ : ∃ W, w.alloc (.cells #[.int .i64 nk, .string ns, .bool b1, .bool b2, .slice oa os.length oc, .slice aa gs.length ac, .slice wa ws.length wc, .slice ra rs.length rc, .slice ma ms.length mc, .slice ka ks.length kc] 28) = W := ⟨_, rfl⟩
  have HX : Hid (Blk W w.heap.size 28 #[.int .i64 nk, .string ns, .bool b1, .bool b2, .slice oa os.length oc, .slice aa gs.length ac, .slice wa ws.length wc, .slice ra rs.length rc, .slice ma ms.length mc, .slice ka ks.length kc]) := Lib.hid (by rw [← hW]; exact Blk.new _ _ _)
  have HWB : Hid (Below w.heap.size w W) := Lib.hid (by rw [← hW]; exact below_alloc _ _)
  have hWs : W.heap.size = w.heap.size + 1 := by rw [← hW]; simp
  have HY : Hid (∀ y, Below W.heap.size W y → Below w.heap.size w y) := Lib.hid (fun y hy => HWB.out.trans (hy.mono (by omega)))
  have HBX : Hid (∀ y, Below W.heap.size W y → Blk y w.heap.size 28 #[.int .i64 nk, .string ns, .bool b1, .bool b2, .slice oa os.length oc, .slice aa gs.length ac, .slice wa ws.length wc, .slice ra rs.length rc, .slice ma ms.length mc, .slice ka ks.length kc]) := Lib.hid (fun y hy => HX.out.below hy (by omega))
  have l5 := flat_one gs (fun x hx => (k5 x hx).len)
  have l6 := flat_one ws (fun x hx => (k6 x hx).len)
  have HS5 : Hid (∀ y, Below w.heap.size w y → SrcOK y (.slice aa gs.length ac) gs.length 1 (gs.flatMap Tr.cs)) := Lib.hid (fun y hy => (h5.later hA hy).src (ty := .word) (fun x hx => (k5 x hx).later hA hy) rfl)
  have HS6 : Hid (∀ y, Below w.heap.size w y → SrcOK y (.slice wa ws.length wc) ws.length 1 (ws.flatMap Tr.cs)) := Lib.hid (fun y hy => (h6.later hA hy).src (ty := .word) (fun x hx => (k6 x hx).later hA hy) rfl)
  have HR7 := Lib.hid h7
  have HR8 := Lib.hid h8
  have HK7 := Lib.hid k7
  have HK8 := Lib.hid k8
  have HA := Lib.hid hA
  have HL5 := Lib.hid l5
  have HL6 := Lib.hid l6
  have hn5 := h5.len
  have hn6 := h6.len
  have hn7 := h7.len
  have hn8 := h8.len
  obtain ⟨xs, hxs⟩ : ∃ xs, gs.flatMap Tr.cs ++ ws.flatMap Tr.cs = xs := ⟨_, rfl⟩
  have HC : Hid (∀ y B, Below w.heap.size w y → y.cell? ⟨B, 0, none⟩ = some (.slice aa gs.length ac) → y.cell? ⟨B, 1, none⟩ = some (.slice wa ws.length wc) → Calls Try.prog 52 #[.slice (some ⟨B, 0, none⟩) 2 2] y fun e w' => ∃ o, e = .returned o ∧ OutAt 41 1 y (gs.length + ws.length) xs o w') := Lib.hid (fun y B hy c0 c1 => by
    rw [← hxs]
    exact concat_n HL5.out HL6.out (fun z hz => HS5.out z (hy.trans (hz.mono hy.size))) (fun z hz => HS6.out z (hy.trans (hz.mono hy.size))) hn5 hn6 c0 c1)
  have HEl := ElWord
  rw [hxs]
  obtain ⟨Lm, hLm⟩ : ∃ Lm, ms.flatMap (·.r 0) = Lm := ⟨_, rfl⟩
  rw [hLm] at hos ⊢
  have HLM := Lib.hid hLm
  clear hLm
  have hxl : xs.length = gs.length + ws.length := by rw [← hxs, List.length_append, HL5.out, HL6.out]
  have c5 := HX.out.cell 5
  have c6 := HX.out.cell 6
  have c7 := HX.out.cell 7
  have c8 := HX.out.cell 8
  have hx8 : w.heap.size < W.heap.size := by omega
  simp at c5 c6 c7 c8
  clear h5 h6 h7 h8 k5 k6 k7 k8 hA l5 l6 hxs HS5 HS6 HL5 HL6 hn5 hn6 hsz
  go_enter Try.func36, Try.ntmps36
  go_wp2_with (go_at_call 52; refine (HC.out _ _ (HWB.out.trans ((below_alloc W _).mono (by omega))) ?_ ?_).mono ?_
               · have := (Blk.new W 23 #[.slice aa gs.length ac, .slice wa ws.length wc]).cell 0; simpa [hWs] using this
               · have := (Blk.new W 23 #[.slice aa gs.length ac, .slice wa ws.length wc]).cell 1; simpa [hWs] using this
               rintro e w1 ⟨o, rfl, hO⟩
               have HO := Lib.hid (hO.base (w := W) (below_alloc _ _))
               clear hO
               have d7 := (HO.out.below.cell (p := ⟨w.heap.size, 7, none⟩) hx8).trans c7)
  clear hW HC
  go_loopw [3, 17] (fun o i wr => ∃ k : Nat, k ≤ rs.length ∧ i = .int .i64 k ∧ Hid (OutAt 41 1 W (gs.length + ws.length + k) (xs ++ (rs.take k).map (fun r => r.c 2)) o wr)) (fun _ i _ => rs.length - (intOf i).toNat)
  case atStart => exact ⟨0, Nat.zero_le _, rfl, Lib.hid (by simpa using HO.out)⟩
  case round =>
    obtain ⟨k, hk, rfl, hO⟩ := hrel
    by_cases hlt : k < rs.length
    · have hx := List.getElem?_eq_getElem hlt
      obtain ⟨b, off, rfl, hAb, hb0, hcell⟩ := cells_at HR7.out hx
      have hp := HK7.out rs[k] (List.getElem_mem hlt)
      have htk : (rs.take (k + 1)).map (fun r => r.c 2) = (rs.take k).map (fun r => r.c 2) ++ [rs[k].c 2] := by rw [List.take_succ_eq_append_getElem hlt, List.map_append]; rfl
      have HTK := Lib.hid htk
      clear htk hx
      generalize rs[k] = p at *
      obtain ⟨rn, rk, pa, pc, ps, rh, rfl, q2, q3, h3, h4⟩ := hp.redir
      have hwb : Below w.heap.size w wr := HY.out wr hO.out.below
      have e0 := (hwb.cell (p := ⟨b, off + k * 4, none⟩) hb0).trans (hcell 0 (by omega))
      have e1 := (hwb.cell (p := ⟨b, off + k * 4 + 1, none⟩) hb0).trans (hcell 1 (by omega))
      have e2 := (hwb.cell (p := ⟨b, off + k * 4 + 2, none⟩) hb0).trans (hcell 2 (by omega))
      have e3 := (hwb.cell (p := ⟨b, off + k * 4 + 3, none⟩) hb0).trans (hcell 3 (by omega))
      simp only [Tr.cs, List.getElem?_cons_zero, List.getElem?_cons_succ] at e0 e1 e2 e3
      have hc2 : (Tr.mk [.string rn, .int .i64 rk, .slice pa ps.length pc, .string rh] [[], [], ps, []]).c 2 = .slice pa ps.length pc := rfl
      rw [hc2] at HTK
      obtain ⟨Ao, oc, rfl, ho, hb⟩ := hO.out
      have HO := Lib.hid ho
      have HB := Lib.hid hb
      have hbs := hb.size
      clear hcell hp h3 h4 q2 q3 hc2 hwb ho hb hO
      go_wp2_with (at_builtin; refine wpList_app ElWord (.tmp 21) (.tmp 24) rfl rfl (base := W.heap.size) (n := gs.length + ws.length + k) (m := 1) (N := gs.length + ws.length + (k + 1)) (v := .slice Ao (gs.length + ws.length + k) oc) (src := .slice (some ⟨wr.heap.size + 1, 0, none⟩) 1 1) (news := [.slice pa ps.length pc]) rfl rfl ((HO.out.alloc _).alloc _) ?_ (by omega) (by unfold maxLen; omega) (by omega) ?_ ?_
                   · have := one_src (w := wr.alloc (.cells #[.string rn, .int .i64 rk, .slice pa ps.length pc, .string rh] 47)) (t := 41) (e := 0) (u := .slice pa ps.length pc) rfl; rwa [World.size_alloc] at this
                   · simp; omega
                   intro A2 c2 w2 q1 q2 q3
                   have HF := Lib.hid (out_app HB.out q1 (((Keeps.refl W.heap.size [41] wr).alloc _).alloc _ |>.trans q2))
                   clear q1 q2 q3)
      go_roundw
      case rel => exact ⟨k + 1, by omega, by go_num, Lib.hid (by rw [HTK.out, ← List.append_assoc]; exact HF.out)⟩
      case measure => simp [intOf]; omega
    · obtain rfl : k = rs.length := by omega
      rw [List.take_length] at hO
      have HS := Lib.hid (show (xs ++ rs.map (fun r => r.c 2)) = (xs ++ rs.map (fun r => r.c 2)) from rfl)
      generalize hys : xs ++ rs.map (fun r => r.c 2) = ys at *
      generalize hn : gs.length + ws.length + rs.length = n at *
      have d8 := (hO.out.below.cell (p := ⟨w.heap.size, 8, none⟩) hx8).trans c8
      clear HS
      go_wp2
      go_loopw [3, 30] (fun o i wr => ∃ k : Nat, k ≤ ms.length ∧ i = .int .i64 k ∧ Hid (OutAt 41 1 W (n + ((ms.take k).flatMap (·.r 0)).length) (ys ++ ((ms.take k).flatMap (·.r 0)).flatMap Tr.cs) o wr)) (fun _ i _ => ms.length - (intOf i).toNat)
      case atStart => exact ⟨0, Nat.zero_le _, rfl, Lib.hid (by simpa using hO.out)⟩
      case round =>
        obtain ⟨k, hk, rfl, hO⟩ := hrel
        by_cases hlt : k < ms.length
        · have hx := List.getElem?_eq_getElem hlt
          obtain ⟨b, off, rfl, hAb, hb0, hcell⟩ := cells_at HR8.out hx
          have hp := HK8.out ms[k] (List.getElem_mem hlt)
          have htk := arms_snoc ms k hlt
          have hle := arms_len ms (k + 1)
          rw [htk, List.length_append, HLM.out] at hle
          have HTK := Lib.hid htk
          clear htk hx
          generalize ms[k] = p at *
          generalize (ms.take k).flatMap (·.r 0) = L at *
          obtain ⟨pa, pc, ps, zk, zs, z1, z2, zoa, zon, zoc, zaa, zan, zac, zwa, zwn, zwc, zra, zrn, zrc, zma, zmn, zmc, zka, zkn, zkc, hps, hcs, -, h3, h4⟩ := hp.arm11
          have hwb : Below w.heap.size w wr := HY.out wr hO.out.below
          have e0 := (hwb.cell (p := ⟨b, off + k * 11, none⟩) hb0).trans (hcell 0 (by omega))
          have e1 := (hwb.cell (p := ⟨b, off + k * 11 + 1, none⟩) hb0).trans (hcell 1 (by omega))
          have e2 := (hwb.cell (p := ⟨b, off + k * 11 + 2, none⟩) hb0).trans (hcell 2 (by omega))
          have e3 := (hwb.cell (p := ⟨b, off + k * 11 + 3, none⟩) hb0).trans (hcell 3 (by omega))
          have e4 := (hwb.cell (p := ⟨b, off + k * 11 + 4, none⟩) hb0).trans (hcell 4 (by omega))
          have e5 := (hwb.cell (p := ⟨b, off + k * 11 + 5, none⟩) hb0).trans (hcell 5 (by omega))
          have e6 := (hwb.cell (p := ⟨b, off + k * 11 + 6, none⟩) hb0).trans (hcell 6 (by omega))
          have e7 := (hwb.cell (p := ⟨b, off + k * 11 + 7, none⟩) hb0).trans (hcell 7 (by omega))
          have e8 := (hwb.cell (p := ⟨b, off + k * 11 + 8, none⟩) hb0).trans (hcell 8 (by omega))
          have e9 := (hwb.cell (p := ⟨b, off + k * 11 + 9, none⟩) hb0).trans (hcell 9 (by omega))
          have e10 := (hwb.cell (p := ⟨b, off + k * 11 + 10, none⟩) hb0).trans (hcell 10 (by omega))
          rw [hcs] at e0 e1 e2 e3 e4 e5 e6 e7 e8 e9 e10
          simp only [List.getElem?_cons_zero, List.getElem?_cons_succ] at e0 e1 e2 e3 e4 e5 e6 e7 e8 e9 e10
          have HP : Hid (∀ y, Below w.heap.size w y → SrcOK y (.slice pa ps.length pc) ps.length 1 (ps.flatMap Tr.cs)) := Lib.hid (fun y hy => (h3.later HA.out hy).src (ty := .word) (fun x hx => (h4 x hx).later HA.out hy) rfl)
          rw [hps] at hle HTK
          obtain ⟨Ao, oc, rfl, ho, hb⟩ := hO.out
          have HO := Lib.hid ho
          have HB := Lib.hid hb
          have hbs := hb.size
          clear hcell hp h3 h4 hps hcs ho hb hO
          have HWW := Lib.hid hwb
          clear hwb
          go_wp2_with (at_builtin; refine wpList_app ElWord (.tmp 34) (.tmp 36) rfl rfl (base := W.heap.size) (n := n + L.length) (m := ps.length) (N := n + (L ++ ps).length) (v := .slice Ao (n + L.length) oc) (src := .slice pa ps.length pc) (news := ps.flatMap Tr.cs) rfl rfl (HO.out.alloc _) (HP.out _ (HWW.out.alloc (by omega) _)) (by simp; omega) (by simp; unfold maxLen; omega) (by simp; omega) ?_ ?_
                       · simp; omega
                       intro A2 c2 w2 q1 q2 q3
                       have HF := Lib.hid (out_app HB.out q1 (((Keeps.refl W.heap.size [41] wr).alloc _).trans q2))
                       clear q1 q2 q3)
          go_roundw
          case rel => exact ⟨k + 1, by omega, by go_num, Lib.hid (by
            have := HF.out
            rw [List.length_append] at this
            rw [HTK.out, List.flatMap_append, ← List.append_assoc, List.length_append]
            exact this)⟩
          case measure => simp [intOf]; omega
        · obtain rfl : k = ms.length := by omega
          rw [List.take_length, HLM.out] at hO
          go_wp2
          go_ret
          rw [hys, hn]
          exact ⟨_, rfl, hO.out.base HWB.out⟩
end Go.Proofs.Ytpjcmhlgdgadjaa

namespace Go.Proofs.Ytpjcmhlgdgadjaa
open Go.RowKit
set_option linter.unusedVariables false
attribute [local go_sem] Oper.semAt_some
theorem Lies.node10 {A : Nat → Prop} {w : World} {t : Tr} (h : Lies A w .node t) : ∃ (nk : Int) (ns : ByteArray) (b1 b2 : Bool) (oa : Option Addr) (on oc : Nat) (aa : Option Addr) (an ac : Nat) (wa : Option Addr) (wn wc : Nat) (ra : Option Addr) (rn rc : Nat) (ma : Option Addr) (mn mc : Nat) (ka : Option Addr) (kn kc : Nat),
    t.cs = [.int .i64 nk, .string ns, .bool b1, .bool b2, .slice oa on oc, .slice aa an ac, .slice wa wn wc, .slice ra rn rc, .slice ma mn mc, .slice ka kn kc] := by
  obtain ⟨nk, ns, b1, b2, oa, oc, aa, ac, wa, wc, ra, rc, ma, mc, ka, kc, os, gs, ws, rs, ms, ks, e1, -⟩ := h.node
  exact ⟨nk, ns, b1, b2, oa, os.length, oc, aa, gs.length, ac, wa, ws.length, wc, ra, rs.length, rc, ma, ms.length, mc, ka, ks.length, kc, by rw [e1]; rfl⟩
/-- How an element is handed on. -/
def enc1 (t : Tr) : Array Value := #[.agg t.cs.toArray]
/-- The blocks that are new since w are one's own, too. -/
def Grow (A : Nat → Prop) (w w' : World) : Nat → Prop := fun b => A b ∨ (w.heap.size ≤ b ∧ b < w'.heap.size)
theorem Shy.grow {β : Type} {B : Nat} {J : β → (Nat → Prop) → World → Prop} (h : Shy B J) {s : β} {A : Nat → Prop} {w w' : World} (hs : J s A w) (hb : Below w.heap.size w w') : J s (Grow A w w') w' :=
  h s _ _ _ _ hs (Chg.of_below hb) (fun b hb => hb.elim .inl (fun h => .inr h.1))
/-- An iterator under way: A: what it leans on; A₀: what it leaned on at W. -/
structure It (A₀ : Nat → Prop) (W : World) (A : Nat → Prop) (wr : World) : Prop where
  sub : ∀ b, A b → A₀ b ∨ W.heap.size ≤ b
  sup : ∀ b, A₀ b → A b
  lt : ∀ b, A b → b < wr.heap.size
  size : W.heap.size ≤ wr.heap.size
  same0 : Same A₀ W wr
theorem It.refl {A₀ : Nat → Prop} {W : World} (h : ∀ b, A₀ b → b < W.heap.size) : It A₀ W A₀ W := ⟨fun _ => .inl, fun _ => id, h, Nat.le_refl _, fun _ _ => rfl⟩
theorem It.grow {A₀ A : Nat → Prop} {W w w' : World} (h : It A₀ W A w) (hb : Below w.heap.size w w') : It A₀ W (Grow A w w') w' :=
  ⟨fun b hb => hb.elim (h.sub b) (fun h' => .inr (Nat.le_trans h.size h'.1)), fun b hb => .inl (h.sup b hb), fun b hb' => hb'.elim (fun h' => Nat.lt_of_lt_of_le (h.lt b h') hb.size) (·.2), Nat.le_trans h.size hb.size,
    fun b hA => (hb.block b (h.lt b (h.sup b hA))).trans (h.same0 b hA)⟩
theorem It.round {A₀ A : Nat → Prop} {W w w' : World} (h : It A₀ W A w) (hb : w.heap.size ≤ w'.heap.size) (hs : Same A w w') : It A₀ W A w' :=
  ⟨h.sub, h.sup, fun b h' => Nat.lt_of_lt_of_le (h.lt b h') hb, Nat.le_trans h.size hb, fun b hA => (hs b (h.sup b hA)).trans (h.same0 b hA)⟩
theorem It.lies {A₀ A : Nat → Prop} {W w : World} {ty : Ty} {t : Tr} (h : It A₀ W A w) (hl : Lies A₀ W ty t) : Lies A w ty t := hl.keep h.sup h.size h.same0
theorem It.row {A₀ A : Nat → Prop} {W w : World} {m : Nat} {v : Value} {l : List Tr} (h : It A₀ W A w) (hl : RowAt A₀ W m v l) : RowAt A w m v l := hl.keep h.sup h.size h.same0
theorem It.blk {A₀ A : Nat → Prop} {W w : World} {g : Nat} {t : TypeId} {cs : Array Value} (h : It A₀ W A w) (hl : Blk W g t cs) (hg : A₀ g) : Blk w g t cs := (h.same0 g hg).trans hl
theorem It.same {A₀ A : Nat → Prop} {W w w' : World} (h : It A₀ W A w) (hb : Below w.heap.size w w') : Same A w w' := fun b hA => hb.block b (h.lt b hA)
theorem RowAt.grow {A₀ A : Nat → Prop} {W w w' : World} {m : Nat} {v : Value} {l : List Tr} (h : RowAt A w m v l) (hi : It A₀ W A w) (hb : Below w.heap.size w w') : RowAt (Grow A w w') w' m v l := h.keep (fun _ => .inl) hb.size (hi.same hb)
theorem Lies.grow {A₀ A : Nat → Prop} {W w w' : World} {ty : Ty} {t : Tr} (h : Lies A w ty t) (hi : It A₀ W A w) (hb : Below w.heap.size w w') : Lies (Grow A w w') w' ty t := h.keep (fun _ => .inl) hb.size (hi.same hb)
theorem pre_snoc {α : Type} {l : List α} {k : Nat} (h : k < l.length) : l.take k ++ [l[k]] <+: l := by
  rw [← List.take_succ_eq_append_getElem h]; exact List.take_prefix _ _
theorem pre_flat {α β : Type} {f : α → List β} {l : List α} {k : Nat} (h : k < l.length) {q : List β} (hq : q <+: f l[k]) : (l.take k).flatMap f ++ q <+: l.flatMap f := by
  obtain ⟨r, hr⟩ := hq
  refine ⟨r ++ (l.drop (k + 1)).flatMap f, ?_⟩
  conv => rhs; rw [← List.take_append_drop k l, List.drop_eq_getElem_cons h, List.flatMap_append, List.flatMap_cons, ← hr]
  simp [List.append_assoc]
theorem pre_app {α : Type} {a b q : List α} (hq : q <+: b) : a ++ q <+: a ++ b := by
  obtain ⟨r, rfl⟩ := hq; exact ⟨r, by simp⟩
theorem pre_left {α : Type} {a b q : List α} (hq : q <+: a) : q <+: a ++ b := by
  obtain ⟨r, rfl⟩ := hq; exact ⟨r ++ b, by simp⟩
theorem flat_snoc {α β : Type} {f : α → List β} {l : List α} {k : Nat} (h : k < l.length) : (l.take (k + 1)).flatMap f = (l.take k).flatMap f ++ f l[k] := by
  rw [List.take_succ_eq_append_getElem h, List.flatMap_append]; simp
set_option maxRecDepth 100000 in
set_option maxHeartbeats 3200000 in
theorem below1_seq {A : Nat → Prop} {w : World} {t : Tr} {bx : Nat} (hsz : t.sz ≤ 1048576) (hA : ∀ b, A b → b < w.heap.size) (hbx : A bx) (hl : Lies A w .node t) (hb : Blk w bx 28 t.cs.toArray) :
    Seq Try.prog 47 #[.pointer (some ⟨bx, 0, none⟩)] enc1 (below t) A w := by
  intro l J Jx W hW hJ hJx hY h0
  have hws := hW.size
  have hlW : Lies A W .node t := hl.keep (fun _ => id) hws (fun b hb => hW.block b (hA b hb) id)
  have hbW : Blk W bx 28 t.cs.toArray := hW.blk hb id
  have hIt : It A W A W := It.refl (fun b hb => Nat.lt_of_lt_of_le (hA b hb) hws)
  obtain ⟨nk, ns, b1, b2, oa, oc, aa, ac, wa, wc, ra, rc, ma, mc, ka, kc, os, gs, ws, rs, ms, ks, et, q1, -, -, -, -, h8, h9, -, -, -, -, k8, k9⟩ := hlW.node
  have ecs : t.cs = [.int .i64 nk, .string ns, .bool b1, .bool b2, .slice oa os.length oc, .slice aa gs.length ac, .slice wa ws.length wc, .slice ra rs.length rc, .slice ma ms.length mc, .slice ka ks.length kc] := by rw [et]; rfl
  have e8 : t.r 8 = ms := by rw [et]; rfl
  have e9 : t.r 9 = ks := by rw [et]; rfl
  have HOWN := Lib.hid (own_any hsz (fun b hb => Nat.lt_of_lt_of_le (hA b hb) hws) hlW)
  have hxs : below t = (own t).flatMap (fun w => inParts (w.r 0)) ++ ms.map Tr.body ++ ks := by unfold below; rw [e8, e9]
  have hos : szL (own t) ≤ 1048576 := by have := sz_own t; omega
  have hol := own_lies hlW
  rw [ecs] at HOWN hbW
  clear et ecs e8 e9 hsz hb hl hlW hA q1
  have hwl : (own t).length ≤ 1048576 := Nat.le_trans (szL_len _) hos
  generalize own t = ow at *
  generalize below t = xs at *
  have c0 := hbW.cell 0
  have c1 := hbW.cell 1
  have c2 := hbW.cell 2
  have c3 := hbW.cell 3
  have c4 := hbW.cell 4
  have c5 := hbW.cell 5
  have c6 := hbW.cell 6
  have c7 := hbW.cell 7
  have c8 := hbW.cell 8
  have c9 := hbW.cell 9
  simp at c0 c1 c2 c3 c4 c5 c6 c7 c8 c9
  have HB := Lib.hid hbW
  have HY := Lib.hid hY
  have HJ := Lib.hid hJ
  have HJX := Lib.hid hJx
  have HIT := Lib.hid hIt
  have HJ0 := Lib.hid h0
  have H8 := Lib.hid h8
  have H9 := Lib.hid h9
  have HK8 := Lib.hid k8
  have HK9 := Lib.hid k9
  have HOL := Lib.hid hol
  clear hbW hY hJ hJx hIt h0 h8 h9 k8 k9 hol
  refine callsIn_of_wp Try.func47 rfl trivial ?_ rfl
  simp only [Try.ntmps47, List.size_toArray, List.length_cons, List.length_nil, Nat.reduceAdd, Nat.reduceSub, Array.replicate_succ, Array.replicate_zero, List.push_toArray, List.append_toArray, List.nil_append, List.cons_append]
  gi_wp2_with fail
  refine ⟨trivial, rfl, ?_⟩
  refine (callsIn_wide.2 HOWN.out).mono ?_
  rintro e w1 ⟨o, rfl, hO⟩
  have hb1 := hO.below
  have hr1 := (hO.row (Nat.le_trans (szL_len _) hos) (fun x hx => (HOL.out x hx).len)).keep (A' := Grow A W w1) (fun b hb => .inr hb) (Nat.le_refl _) (Same.refl _ _)
  have hi1 := HIT.out.grow hb1
  have hj1 := HJ.out.grow HJ0.out hb1
  obtain ⟨Ao, oc, rfl⟩ := hr1.form
  have HR1 := Lib.hid hr1
  have HI1 := Lib.hid hi1
  have HJ1 := Lib.hid hj1
  clear hb1 hr1 hi1 hj1 hO
  gi_wp2
  gi_loopw [16] (fun i wr => ∃ (k : Nat) (A' : Nat → Prop), k ≤ ow.length ∧ i = .int .i64 k ∧ Hid (It A W A' wr ∧ RowAt A' wr 1 (.slice Ao ow.length oc) ow ∧ J ((ow.take k).flatMap (fun w => inParts (w.r 0))) A' wr)) (fun i _ => ow.length - (intOf i).toNat)
  case atStart => exact ⟨0, _, Nat.zero_le _, rfl, Lib.hid ⟨HI1.out, HR1.out, HJ1.out⟩⟩
  case round =>
    obtain ⟨k, A1, hk, rfl, hS⟩ := hrel
    by_cases hlt : k < ow.length
    · have hsz1 : szL (ow[k].r 0) ≤ 1048576 := Nat.le_trans (Nat.le_of_lt (Tr.sz_r _ 0)) (Nat.le_trans (szL_mem (List.getElem_mem hlt)) hos)
      obtain ⟨hi, hr, hj⟩ := hS.out
      have hx := List.getElem?_eq_getElem hlt
      obtain ⟨b, off, rfl, hAb, hb0, hcell⟩ := cells_at hr hx
      have hp := hi.lies (HOL.out ow[k] (List.getElem_mem hlt))
      have hpf : ∀ q, q <+: inParts (ow[k].r 0) → (ow.take k).flatMap (fun w => inParts (w.r 0)) ++ q <+: xs := fun q hq => by
        rw [hxs, List.append_assoc]; exact pre_left (pre_flat (f := fun w => inParts (w.r 0)) hlt hq)
      have hsn := flat_snoc (f := fun w => inParts (w.r 0)) hlt
      have HSN := Lib.hid hsn
      have HPF := Lib.hid hpf
      clear hsn hpf hx hxs
      generalize ow[k] = p at *
      generalize (ow.take k).flatMap (fun w => inParts (w.r 0)) = P at *
      have e0 := hcell 0 (by omega)
      obtain ⟨pa, pc, ps, rfl, hpr, hpk⟩ := hp.word
      have hps : (Tr.mk [.slice pa ps.length pc] [ps]).r 0 = ps := rfl
      rw [hps] at hsz1 HSN HPF
      simp only [Tr.cs, List.getElem?_cons_zero, Nat.mul_one, Nat.add_zero] at e0
      obtain ⟨C, hC⟩ : ∃ C, cmdsL ps = C := ⟨_, rfl⟩
      have HC : Hid (∀ y, Below wr.heap.size wr y → Calls Try.prog 48 #[.agg #[.slice pa ps.length pc]] y fun e w' => ∃ o, e = .returned o ∧ OutAt 26 1 y C.length (C.flatMap Tr.cs) o w') := Lib.hid (fun y hy => by
        rw [← hC]
        exact cmds_any hsz1 (fun b hb => Nat.lt_of_lt_of_le (hi.lt b hb) hy.size) (hpr.later hi.lt hy) (fun x hx => (hpk x hx).later hi.lt hy))
      have hcl : (cmdsL ps).length ≤ 1048576 := Nat.le_trans (cmdsL_len ps) hsz1
      have HCL : Hid (∀ x ∈ cmdsL ps, Lies A1 wr .lst x) := Lib.hid (cmds_lies _ ps (Nat.le_refl _) hpk)
      have HSN2 := HSN
      have hip : inParts ps = (cmdsL ps).flatMap (·.r 0) := rfl
      rw [hip] at HSN HPF
      rw [hC] at hcl HCL HSN HPF
      clear hC
      have HI := Lib.hid hi
      have HJ1 := Lib.hid hj
      have HR1 := Lib.hid hr
      clear hcell hp hpr hpk hi hj hr hS hps hsz1 HSN2 hip hb0 hAb
      gi_wp2_with fail
      refine ⟨trivial, rfl, ?_⟩
      refine (callsIn_wide.2 (HC.out _ (below_alloc wr _))).mono ?_
      rintro e w2 ⟨o2, rfl, hO2⟩
      have hb2 : Below wr.heap.size wr w2 := (below_alloc wr _).trans (hO2.below.mono (by simp))
      have hr2 := (hO2.row hcl (fun x hx => (HCL.out x hx).len)).keep (A' := Grow A1 wr w2) (fun b hb => .inr ⟨by have := hb.1; simp at this; omega, hb.2⟩) (Nat.le_refl _) (Same.refl _ _)
      have hi2 := HI.out.grow hb2
      have hj2 := HJ.out.grow HJ1.out hb2
      have hR2 := HR1.out.grow HI.out hb2
      have hC2 : ∀ x ∈ C, Lies (Grow A1 wr w2) w2 .lst x := fun x hx => (HCL.out x hx).grow HI.out hb2
      obtain ⟨A2, c2, rfl⟩ := hr2.form
      have HS2 := Lib.hid hi2
      have HST := Lib.hid (And.intro hi2 (And.intro hr2 (And.intro hR2 (And.intro hC2 hj2))))
      clear hb2 hr2 hi2 hj2 hR2 hC2 hO2 HS2 HC HI HJ1 HR1 HCL
      gi_wp2
      gi_loopw [23] (fun i wr => ∃ (j : Nat) (A' : Nat → Prop), j ≤ C.length ∧ i = .int .i64 j ∧ Hid (It A W A' wr ∧ RowAt A' wr 1 (.slice A2 C.length c2) C ∧ RowAt A' wr 1 (.slice (some ⟨b, off, none⟩) ow.length oc) ow ∧ (∀ x ∈ C, Lies A' wr .lst x) ∧ J (P ++ (C.take j).flatMap (·.r 0)) A' wr)) (fun i _ => C.length - (intOf i).toNat)
      case atStart => exact ⟨0, _, Nat.zero_le _, rfl, Lib.hid (by simpa using HST.out)⟩
      case round =>
        clear HST
        obtain ⟨j, A3, hjk, rfl, hS⟩ := hrel
        by_cases hlt2 : j < C.length
        · obtain ⟨hi, hr, hro, hC, hj⟩ := hS.out
          have hx := List.getElem?_eq_getElem hlt2
          obtain ⟨b2, off2, rfl, hAb2, hb2, hcell⟩ := cells_at hr hx
          have hp := hC C[j] (List.getElem_mem hlt2)
          have e2 := hcell 0 (by omega)
          have hpf : ∀ q, q <+: C[j].r 0 → P ++ (C.take j).flatMap (·.r 0) ++ q <+: xs := fun q hq => by
            rw [List.append_assoc]; exact HPF.out _ (pre_flat (f := fun w => w.r 0) hlt2 hq)
          have hsn := flat_snoc (f := fun w : Tr => w.r 0) hlt2
          have HSN2 := Lib.hid hsn
          have HPF2 := Lib.hid hpf
          have HCC := Lib.hid hC
          clear hsn hpf hx hcell hC
          generalize C[j] = p at *
          obtain ⟨na, nc, ns', rfl, hnr, hnk⟩ := hp.lst
          have hns : (Tr.mk [.slice na ns'.length nc] [ns']).r 0 = ns' := rfl
          rw [hns] at HSN2 HPF2
          simp only [Tr.cs, List.getElem?_cons_zero, Nat.mul_one, Nat.add_zero] at e2
          generalize hQ : P ++ (C.take j).flatMap (·.r 0) = Q at *
          have HQ := Lib.hid hQ
          clear hQ
          have hnl := hnr.len
          have HST := Lib.hid (And.intro hi (And.intro hr (And.intro hro (And.intro HCC.out (And.intro hnr (And.intro hnk hj))))))
          clear hp hnr hnk hi hj hr hro hS hns hb2 hAb2 HCC
          gi_wp2
          gi_loopw [29] (fun i wr => ∃ (m : Nat) (A' : Nat → Prop), m ≤ ns'.length ∧ i = .int .i64 m ∧ Hid (It A W A' wr ∧ RowAt A' wr 1 (.slice (some ⟨b2, off2, none⟩) C.length c2) C ∧ RowAt A' wr 1 (.slice (some ⟨b, off, none⟩) ow.length oc) ow ∧ (∀ x ∈ C, Lies A' wr .lst x) ∧ RowAt A' wr 10 (.slice na ns'.length nc) ns' ∧ (∀ x ∈ ns', Lies A' wr .node x) ∧ J (Q ++ ns'.take m) A' wr)) (fun i _ => ns'.length - (intOf i).toNat)
          case atStart => exact ⟨0, _, Nat.zero_le _, rfl, Lib.hid (by simpa using HST.out)⟩
          case round =>
            clear HST
            obtain ⟨m, A4, hmk, rfl, hS⟩ := hrel
            by_cases hlt3 : m < ns'.length
            · obtain ⟨hi, hr, hro, hC, hnr, hnk, hj⟩ := hS.out
              have hx := List.getElem?_eq_getElem hlt3
              obtain ⟨b3, off3, rfl, hAb3, hb3, hcell⟩ := cells_at hnr hx
              have hp := hnk ns'[m] (List.getElem_mem hlt3)
              have hpre := HPF2.out _ (pre_snoc hlt3)
              rw [← List.append_assoc] at hpre
              have htk := List.take_succ_eq_append_getElem hlt3
              clear hx
              generalize ns'[m] = p at *
              obtain ⟨zk, zs, z1, z2, zoa, zon, zoc, zaa, zan, zac, zwa, zwn, zwc, zra, zrn, zrc, zma, zmn, zmc, zka, zkn, zkc, hcs⟩ := hp.node10
              have e0 := hcell 0 (by omega)
              have e1 := hcell 1 (by omega)
              have e2 := hcell 2 (by omega)
              have e3 := hcell 3 (by omega)
              have e4 := hcell 4 (by omega)
              have e5 := hcell 5 (by omega)
              have e6 := hcell 6 (by omega)
              have e7 := hcell 7 (by omega)
              have e8 := hcell 8 (by omega)
              have e9 := hcell 9 (by omega)
              rw [hcs] at e0 e1 e2 e3 e4 e5 e6 e7 e8 e9
              simp only [List.getElem?_cons_zero, List.getElem?_cons_succ, Nat.add_zero] at e0 e1 e2 e3 e4 e5 e6 e7 e8 e9
              have hbw := below_alloc wr (.cells #[.int .i64 zk, .string zs, .bool z1, .bool z2, .slice zoa zon zoc, .slice zaa zan zac, .slice zwa zwn zwc, .slice zra zrn zrc, .slice zma zmn zmc, .slice zka zkn zkc] 28)
              have hi2 := hi.grow hbw
              obtain ⟨fn, tmps, assign, body, hy, hR⟩ := HY.out _ p _ _ (HJ.out.grow hj hbw) hpre hi2.sup hi2.lt
              unfold enc1 at hy
              rw [hcs] at hy
              have HST := Lib.hid (And.intro hi2 (And.intro (hr.grow hi hbw) (And.intro (hro.grow hi hbw) (And.intro (show ∀ x ∈ C, Lies _ _ .lst x from fun x hx => (hC x hx).grow hi hbw) (And.intro (hnr.grow hi hbw) (show ∀ x ∈ ns', Lies _ _ .node x from fun x hx => (hnk x hx).grow hi hbw))))))
              have HTK := Lib.hid htk
              clear hcell hp hpre htk hi hr hro hC hnr hnk hj hS hbw hi2 hAb3 hb3 hcs
              gi_wp2
              refine ⟨rfl, hR.mono ?_⟩
              rintro e W' ⟨hs', hsame, (⟨rfl, hJ'⟩ | ⟨rfl, hJ'⟩)⟩
              · obtain ⟨s1, s2, s3, s4, s5, s6⟩ := HST.out
                have HS := Lib.hid (And.intro (s1.round hs' hsame) (And.intro (s2.keep (fun _ => id) hs' hsame) (And.intro (s3.keep (fun _ => id) hs' hsame) (And.intro (show ∀ x ∈ C, Lies _ _ .lst x from fun x hx => (s4 x hx).keep (fun _ => id) hs' hsame) (And.intro (s5.keep (fun _ => id) hs' hsame) (And.intro (show ∀ x ∈ ns', Lies _ _ .node x from fun x hx => (s6 x hx).keep (fun _ => id) hs' hsame) hJ'))))))
                clear s1 s2 s3 s4 s5 s6 hs' hsame hJ' HST hR hy
                gi_wp2
                go_roundw
                case rel => exact ⟨m + 1, _, by omega, by go_num, Lib.hid (by rw [HTK.out, ← List.append_assoc]; exact HS.out)⟩
                case measure => simp [intOf]; omega
              · have HSB := Lib.hid (HST.out.1.round hs' hsame)
                gi_wp2
                refine bodyPost_ret (results_none rfl _ _ _) rfl ?_
                exact ⟨⟨_, rfl⟩, _, HSB.out.sup, HSB.out.lt, .inr hJ'⟩
            · obtain rfl : m = ns'.length := by omega
              rw [List.take_length] at hS
              gi_wp2
              go_roundw
              case rel => exact ⟨j + 1, A4, by omega, by go_num, Lib.hid ⟨hS.out.1, hS.out.2.1, hS.out.2.2.1, hS.out.2.2.2.1, by rw [HSN2.out, ← List.append_assoc, HQ.out]; exact hS.out.2.2.2.2.2.2⟩⟩
              case measure => simp [intOf]; omega
        · obtain rfl : j = C.length := by omega
          rw [List.take_length] at hS
          gi_wp2
          go_roundw
          case rel => exact ⟨k + 1, A3, by omega, by go_num, Lib.hid ⟨hS.out.1, hS.out.2.2.1, by rw [HSN.out]; exact hS.out.2.2.2.2⟩⟩
          case measure => simp [intOf]; omega
    · obtain rfl : k = ow.length := by omega
      rw [List.take_length] at hS
      generalize ow.flatMap (fun w => inParts (w.r 0)) = P at *
      obtain ⟨hi, -, hj⟩ := hS.out
      have d8 := (hi.blk HB.out hbx).cell 8
      simp at d8
      have HST := Lib.hid (And.intro hi hj)
      have HXS := Lib.hid hxs
      have hml := H8.out.len
      clear hi hj hS hxs
      gi_wp2
      gi_loopw [43] (fun i wr => ∃ (m : Nat) (A' : Nat → Prop), m ≤ ms.length ∧ i = .int .i64 m ∧ Hid (It A W A' wr ∧ J (P ++ (ms.take m).map Tr.body) A' wr)) (fun i _ => ms.length - (intOf i).toNat)
      case atStart => exact ⟨0, _, Nat.zero_le _, rfl, Lib.hid (by simpa using HST.out)⟩
      case round =>
        clear HST
        obtain ⟨m, A4, hmk, rfl, hS⟩ := hrel
        by_cases hlt3 : m < ms.length
        · obtain ⟨hi, hj⟩ := hS.out
          have hx := List.getElem?_eq_getElem hlt3
          obtain ⟨b3, off3, rfl, hAb3, hb3, hcell⟩ := cells_at (hi.row H8.out) hx
          have hp := hi.lies (HK8.out ms[m] (List.getElem_mem hlt3))
          have hpre : P ++ (ms.take m).map Tr.body ++ [ms[m].body] <+: xs := by
            rw [HXS.out, List.append_assoc, List.append_assoc]
            refine pre_app (pre_left ?_)
            have := pre_snoc (l := ms.map Tr.body) (k := m) (by simpa using hlt3)
            simpa [List.map_take] using this
          have htk : (ms.take (m + 1)).map Tr.body = (ms.take m).map Tr.body ++ [ms[m].body] := by rw [List.take_succ_eq_append_getElem hlt3, List.map_append]; rfl
          clear hx
          generalize ms[m] = p at *
          obtain ⟨pa, pc, ps, zk, zs, z1, z2, zoa, zon, zoc, zaa, zan, zac, zwa, zwn, zwc, zra, zrn, zrc, zma, zmn, zmc, zka, zkn, zkc, -, hcs, hbc, -, -⟩ := hp.arm11
          have e0 := hcell 0 (by omega)
          have e1 := hcell 1 (by omega)
          have e2 := hcell 2 (by omega)
          have e3 := hcell 3 (by omega)
          have e4 := hcell 4 (by omega)
          have e5 := hcell 5 (by omega)
          have e6 := hcell 6 (by omega)
          have e7 := hcell 7 (by omega)
          have e8 := hcell 8 (by omega)
          have e9 := hcell 9 (by omega)
          have e10 := hcell 10 (by omega)
          rw [hcs] at e0 e1 e2 e3 e4 e5 e6 e7 e8 e9 e10
          simp only [List.getElem?_cons_zero, List.getElem?_cons_succ, Nat.add_zero] at e0 e1 e2 e3 e4 e5 e6 e7 e8 e9 e10
          have hbw := below_alloc wr (.cells #[.slice pa ps.length pc, .int .i64 zk, .string zs, .bool z1, .bool z2, .slice zoa zon zoc, .slice zaa zan zac, .slice zwa zwn zwc, .slice zra zrn zrc, .slice zma zmn zmc, .slice zka zkn zkc] 50)
          have hi2 := hi.grow hbw
          obtain ⟨fn, tmps, assign, body, hy, hR⟩ := HY.out _ p.body _ _ (HJ.out.grow hj hbw) hpre hi2.sup hi2.lt
          unfold enc1 at hy
          rw [hbc] at hy
          have HST := Lib.hid hi2
          have HTK := Lib.hid htk
          clear hcell hp hpre htk hi hj hS hbw hi2 hAb3 hb3 hcs hbc
          gi_wp2
          refine ⟨rfl, hR.mono ?_⟩
          rintro e W' ⟨hs', hsame, (⟨rfl, hJ'⟩ | ⟨rfl, hJ'⟩)⟩
          · have HS := Lib.hid (And.intro (HST.out.round hs' hsame) hJ')
            clear hs' hsame hJ' HST hR hy
            gi_wp2
            go_roundw
            case rel => exact ⟨m + 1, _, by omega, by go_num, Lib.hid (by rw [HTK.out, ← List.append_assoc]; exact HS.out)⟩
            case measure => simp [intOf]; omega
          · have HSB := Lib.hid (HST.out.round hs' hsame)
            gi_wp2
            refine bodyPost_ret (results_none rfl _ _ _) rfl ?_
            exact ⟨⟨_, rfl⟩, _, HSB.out.sup, HSB.out.lt, .inr hJ'⟩
        · obtain rfl : m = ms.length := by omega
          rw [List.take_length] at hS
          generalize hQ : P ++ ms.map Tr.body = Q at *
          obtain ⟨hi, hj⟩ := hS.out
          have d9 := (hi.blk HB.out hbx).cell 9
          simp at d9
          have HST := Lib.hid (And.intro hi hj)
          have HXQ : Hid (xs = Q ++ ks) := Lib.hid HXS.out
          have hkl := H9.out.len
          clear hi hj hS hQ
          gi_wp2
          gi_loopw [56] (fun i wr => ∃ (m : Nat) (A' : Nat → Prop), m ≤ ks.length ∧ i = .int .i64 m ∧ Hid (It A W A' wr ∧ J (Q ++ ks.take m) A' wr)) (fun i _ => ks.length - (intOf i).toNat)
          case atStart => exact ⟨0, _, Nat.zero_le _, rfl, Lib.hid (by simpa using HST.out)⟩
          case round =>
            clear HST
            obtain ⟨m, A4, hmk, rfl, hS⟩ := hrel
            by_cases hlt3 : m < ks.length
            · obtain ⟨hi, hj⟩ := hS.out
              have hx := List.getElem?_eq_getElem hlt3
              obtain ⟨b3, off3, rfl, hAb3, hb3, hcell⟩ := cells_at (hi.row H9.out) hx
              have hp := hi.lies (HK9.out ks[m] (List.getElem_mem hlt3))
              have hpre : Q ++ ks.take m ++ [ks[m]] <+: xs := by
                rw [HXQ.out, List.append_assoc]
                exact pre_app (pre_snoc hlt3)
              have htk := List.take_succ_eq_append_getElem hlt3
              clear hx
              generalize ks[m] = p at *
              obtain ⟨zk, zs, z1, z2, zoa, zon, zoc, zaa, zan, zac, zwa, zwn, zwc, zra, zrn, zrc, zma, zmn, zmc, zka, zkn, zkc, hcs⟩ := hp.node10
              have e0 := hcell 0 (by omega)
              have e1 := hcell 1 (by omega)
              have e2 := hcell 2 (by omega)
              have e3 := hcell 3 (by omega)
              have e4 := hcell 4 (by omega)
              have e5 := hcell 5 (by omega)
              have e6 := hcell 6 (by omega)
              have e7 := hcell 7 (by omega)
              have e8 := hcell 8 (by omega)
              have e9 := hcell 9 (by omega)
              rw [hcs] at e0 e1 e2 e3 e4 e5 e6 e7 e8 e9
              simp only [List.getElem?_cons_zero, List.getElem?_cons_succ, Nat.add_zero] at e0 e1 e2 e3 e4 e5 e6 e7 e8 e9
              have hbw := below_alloc wr (.cells #[.int .i64 zk, .string zs, .bool z1, .bool z2, .slice zoa zon zoc, .slice zaa zan zac, .slice zwa zwn zwc, .slice zra zrn zrc, .slice zma zmn zmc, .slice zka zkn zkc] 28)
              have hi2 := hi.grow hbw
              obtain ⟨fn, tmps, assign, body, hy, hR⟩ := HY.out _ p _ _ (HJ.out.grow hj hbw) hpre hi2.sup hi2.lt
              unfold enc1 at hy
              rw [hcs] at hy
              have HST := Lib.hid hi2
              have HTK := Lib.hid htk
              clear hcell hp hpre htk hi hj hS hbw hi2 hAb3 hb3 hcs
              gi_wp2
              refine ⟨rfl, hR.mono ?_⟩
              rintro e W' ⟨hs', hsame, (⟨rfl, hJ'⟩ | ⟨rfl, hJ'⟩)⟩
              · have HS := Lib.hid (And.intro (HST.out.round hs' hsame) hJ')
                clear hs' hsame hJ' HST hR hy
                gi_wp2
                go_roundw
                case rel => exact ⟨m + 1, _, by omega, by go_num, Lib.hid (by rw [HTK.out, ← List.append_assoc]; exact HS.out)⟩
                case measure => simp [intOf]; omega
              · have HSB := Lib.hid (HST.out.round hs' hsame)
                gi_wp2
                refine bodyPost_ret (results_none rfl _ _ _) rfl ?_
                exact ⟨⟨_, rfl⟩, _, HSB.out.sup, HSB.out.lt, .inr hJ'⟩
            · obtain rfl : m = ks.length := by omega
              rw [List.take_length] at hS
              have HSB := Lib.hid hS.out.1
              gi_wp2
              go_end0
              exact ⟨⟨_, rfl⟩, _, HSB.out.sup, HSB.out.lt, .inl (by rw [HXQ.out]; exact hS.out.2)⟩
end Go.Proofs.Ytpjcmhlgdgadjaa

namespace Go.Proofs.Ytpjcmhlgdgadjaa
open Go.RowKit
set_option linter.unusedVariables false
attribute [local go_sem] Oper.semAt_some
theorem below_any {A : Nat → Prop} {w w0 : World} {t : Tr} (h : Lies A w0 .node t) : Calls Try.prog 32 #[.agg t.cs.toArray] w fun e w' => e = .returned (.func (.func 47) #[] #[.pointer (some ⟨w.heap.size, 0, none⟩)]) ∧ w' = w.alloc (.cells t.cs.toArray 28) := by
  obtain ⟨zk, zs, z1, z2, zoa, zon, zoc, zaa, zan, zac, zwa, zwn, zwc, zra, zrn, zrc, zma, zmn, zmc, zka, zkn, zkc, hcs⟩ := h.node10
  rw [hcs]
  clear h hcs
  go_enter Try.func32, Try.ntmps32
  go_wp2
  go_ret
  exact ⟨rfl, rfl⟩
theorem all_fn {A : Nat → Prop} {w w0 : World} {t : Tr} (h : Lies A w0 .node t) : Calls Try.prog 30 #[.agg t.cs.toArray] w fun e w' => e = .returned (.func (.func 46) #[] #[.pointer (some ⟨w.heap.size, 0, none⟩)]) ∧ w' = w.alloc (.cells t.cs.toArray 28) := by
  obtain ⟨zk, zs, z1, z2, zoa, zon, zoc, zaa, zan, zac, zwa, zwn, zwc, zra, zrn, zrc, zma, zmn, zmc, zka, zkn, zkc, hcs⟩ := h.node10
  rw [hcs]
  clear h hcs
  go_enter Try.func30, Try.ntmps30
  go_wp2
  go_ret
  exact ⟨rfl, rfl⟩
theorem grow_lt {A : Nat → Prop} {w w' : World} (h : ∀ b, A b → b < w.heap.size) (hs : w.heap.size ≤ w'.heap.size) : ∀ b, Grow A w w' b → b < w'.heap.size := fun b hb => hb.elim (fun h' => Nat.lt_of_lt_of_le (h b h') hs) (·.2)
set_option maxRecDepth 100000 in
set_option maxHeartbeats 3200000 in
theorem all1_seq (N : Nat) : ∀ (t : Tr), t.sz ≤ N → t.sz ≤ 1048576 → ∀ (A : Nat → Prop) (w : World) (bx : Nat), (∀ b, A b → b < w.heap.size) → A bx → Lies A w .node t → Blk w bx 28 t.cs.toArray →
    Seq Try.prog 46 #[.pointer (some ⟨bx, 0, none⟩)] enc1 (all t) A w := by
  induction N with
  | zero => intro t ht; have := t.sz_pos; omega
  | succ N ih =>
    intro t hN hsz A w bx hA hbx hl hb l J Jx W hW hJ hJx hY h0
    have hws := hW.size
    have hlW : Lies A W .node t := hl.keep (fun _ => id) hws (fun b hb => hW.block b (hA b hb) id)
    have hbW : Blk W bx 28 t.cs.toArray := hW.blk hb id
    have hAW : ∀ b, A b → b < W.heap.size := fun b hb => Nat.lt_of_lt_of_le (hA b hb) hws
    have HBW := Lib.hid hbW
    obtain ⟨zk, zs, z1, z2, zoa, zon, zoc, zaa, zan, zac, zwa, zwn, zwc, zra, zrn, zrc, zma, zmn, zmc, zka, zkn, zkc, hcs⟩ := hlW.node10
    obtain ⟨W1, hW1⟩ : ∃ W1, W.alloc (.cells #[.func (.yield l) #[] #[]] 34) = W1 := ⟨_, rfl⟩
    have hb1 : Below W.heap.size W W1 := by rw [← hW1]; exact below_alloc _ _
    have hs1 : W1.heap.size = W.heap.size + 1 := by rw [← hW1]; simp
    have hyb1 : Blk W1 W.heap.size 34 #[.func (.yield l) #[] #[]] := by rw [← hW1]; exact Blk.new _ _ _
    have hx1 : Blk W1 bx 28 t.cs.toArray := hbW.below hb1 (hAW bx hbx)
    obtain ⟨fn, tmps, assign, body, hy, hR⟩ := hY [] t (Grow A W W1) W1 (hJ.grow h0 hb1) ⟨allL (below t), by rw [all_eq]; rfl⟩ (fun b hb => .inl hb) (grow_lt hAW hb1.size)
    unfold enc1 at hy
    have HY := Lib.hid hY
    have HJ := Lib.hid hJ
    have HJX := Lib.hid hJx
    have HIH := Lib.hid ih
    have HAW := Lib.hid hAW
    have HL := Lib.hid hlW
    have HB1 := Lib.hid hb1
    have HYB := Lib.hid hyb1
    have HX1 := Lib.hid hx1
    have c0 := hyb1.cell 0
    have hx2 := hx1
    rw [hcs] at hx2 hy
    have d0 := hx2.cell 0
    have d1 := hx2.cell 1
    have d2 := hx2.cell 2
    have d3 := hx2.cell 3
    have d4 := hx2.cell 4
    have d5 := hx2.cell 5
    have d6 := hx2.cell 6
    have d7 := hx2.cell 7
    have d8 := hx2.cell 8
    have d9 := hx2.cell 9
    simp at c0 d0 d1 d2 d3 d4 d5 d6 d7 d8 d9
    have HCS := Lib.hid hcs
    clear hY hJ hJx ih hAW hlW hb1 hyb1 hx1 hx2 hcs hl hb hbW hA h0 hW
    refine callsIn_of_wp_marks Try.func46 rfl trivial ?_ rfl
    simp only [Try.ntmps46, List.size_toArray, List.length_cons, List.length_nil, Nat.reduceAdd, Nat.reduceSub, Array.replicate_succ, Array.replicate_zero, List.push_toArray, List.append_toArray, List.nil_append, List.cons_append]
    gi_wp2
    refine ⟨rfl, hR.mono ?_⟩
    clear hR hy
    rintro e W2 ⟨hs2, hsame2, (⟨rfl, hJ2⟩ | ⟨rfl, hJ2⟩)⟩
    case inr =>
      gi_wp2
      exact ⟨_, results_none rfl _ _ _, ⟨_, rfl⟩, _, fun b hb => .inl hb, fun b hb => Nat.lt_of_lt_of_le (grow_lt HAW.out HB1.out.size b hb) hs2, .inr hJ2⟩
    have hx2 : Blk W2 bx 28 t.cs.toArray := (hsame2 bx (.inl hbx)).trans HX1.out
    have hyb2 : Blk W2 W.heap.size 34 #[.func (.yield l) #[] #[]] := (hsame2 W.heap.size (.inr ⟨Nat.le_refl _, by omega⟩)).trans HYB.out
    have hl2 : Lies (Grow A W W1) W2 .node t := HL.out.keep (fun _ => .inl) (Nat.le_trans HB1.out.size hs2) (fun b hb => (hsame2 b (.inl hb)).trans (HB1.out.block b (HAW.out b hb)))
    have hlt2 : ∀ b, Grow A W W1 b → b < W2.heap.size := fun b hb => Nat.lt_of_lt_of_le (grow_lt HAW.out HB1.out.size b hb) hs2
    have hx2' := hx2
    rw [HCS.out] at hx2'
    have d0 := hx2'.cell 0
    have d1 := hx2'.cell 1
    have d2 := hx2'.cell 2
    have d3 := hx2'.cell 3
    have d4 := hx2'.cell 4
    have d5 := hx2'.cell 5
    have d6 := hx2'.cell 6
    have d7 := hx2'.cell 7
    have d8 := hx2'.cell 8
    have d9 := hx2'.cell 9
    simp at d0 d1 d2 d3 d4 d5 d6 d7 d8 d9
    have hbl := below_any (w := W2) hl2
    rw [HCS.out] at hbl
    obtain ⟨W3, hW3⟩ : ∃ W3, W2.alloc (.cells t.cs.toArray 28) = W3 := ⟨_, rfl⟩
    have hb3 : Below W2.heap.size W2 W3 := by rw [← hW3]; exact below_alloc _ _
    have hx3 : Blk W3 W2.heap.size 28 t.cs.toArray := by rw [← hW3]; exact Blk.new _ _ _
    have hs3 : W3.heap.size = W2.heap.size + 1 := by rw [← hW3]; simp
    have hW3' := hW3
    rw [HCS.out] at hW3'
    have HBL := Lib.hid hbl
    have HW3 := Lib.hid hW3'
    have hl3 := hl2.grow (It.refl hlt2) hb3
    have hlt3 : ∀ b, Grow (Grow A W W1) W2 W3 b → b < W3.heap.size := grow_lt hlt2 hb3.size
    have hseq := below1_seq hsz hlt3 (.inr ⟨Nat.le_refl _, by omega⟩) hl3 hx3
    have hJ3 := HJ.out.grow hJ2 hb3
    have HYB3 := Lib.hid (hyb2.below hb3 (by have := hyb2.lt; omega))
    have hsup3 : ∀ b, A b → Grow (Grow A W W1) W2 W3 b := fun b hb => .inl (.inl hb)
    have hyin : Grow (Grow A W W1) W2 W3 W.heap.size := .inl (.inr ⟨Nat.le_refl _, by omega⟩)
    generalize Grow (Grow A W W1) W2 W3 = A3 at *
    have hWW3 : W.heap.size < W3.heap.size := by omega
    have HL3 := Lib.hid hl3
    have HLT3 := Lib.hid hlt3
    have HSEQ := Lib.hid hseq
    have HJ3 := Lib.hid hJ3
    have HSUP3 := Lib.hid hsup3
    clear hx2 hyb2 hl2 hlt2 hx2' hbl hW3 hb3 hx3 hW3' hl3 hlt3 hseq hJ3 hsup3 hJ2 hsame2 HX1 HYB HL HB1 c0
    gi_wp2_with (refine ⟨trivial, rfl, ?_⟩; gi_at_call 32; refine (callsIn_wide.2 HBL.out).mono ?_; rintro e w1 ⟨rfl, rfl⟩; rw [HW3.out])
    clear HBL HW3 d0 d1 d2 d3 d4 d5 d6 d7 d8 d9
    refine range_top (gf := 47) (lb := #[.pointer (some ⟨W2.heap.size, 0, none⟩)]) rfl (fun _ _ => by kernel_rfl) HSEQ.out HLT3.out (fun _ => rfl)
      (fun pre A' W' => J (t :: pre.flatMap all) A' W' ∧ Same A3 W3 W' ∧ W3.heap.size ≤ W'.heap.size) (fun c A' W' => c = .ret ∧ Jx () A' W') ?hI ?hIx ?h0 ?hround ?hdone ?hstop
    case hI =>
      rintro s A1 A2 U U' ⟨h1, h2, h3⟩ hc hA'
      exact ⟨HJ.out _ _ _ _ _ h1 (hc.mono fun i hi => ⟨by omega, hi.2⟩) hA', h2.trans (fun b hb => hc.block b (Nat.lt_of_lt_of_le (HLT3.out b hb) h3) (fun h => by have := HLT3.out b hb; omega)), Nat.le_trans h3 hc.size⟩
    case hIx =>
      rintro c s A1 A2 U U' ⟨h1, h2⟩ hc hA'
      exact ⟨h1, HJX.out _ _ _ _ _ h2 (hc.mono fun i hi => ⟨by omega, hi.2⟩) hA'⟩
    case h0 => exact ⟨HJ3.out, fun _ _ => rfl, Nat.le_refl _⟩
    case hround =>
      rintro l1 pre k A5 W5 hpre hl1 hl1W hAl hsup hlt ⟨hj, hsame, hsz5⟩
      have hkb : k ∈ below t := hpre.subset (by simp)
      have hlk3 := below_lies HL3.out k hkb
      have hks : k.sz ≤ N := by have h1 := szL_mem hkb; have h2 := sz_below t; omega
      have hks2 : k.sz ≤ 1048576 := by have h1 := szL_mem hkb; have h2 := sz_below t; omega
      obtain ⟨yk, ys, y1, y2, yoa, yon, yoc, yaa, yan, yac, ywa, ywn, ywc, yra, yrn, yrc, yma, ymn, ymc, yka, ykn, ykc, hkc⟩ := hlk3.node10
      obtain ⟨W6, hW6⟩ : ∃ W6, W5.alloc (.cells k.cs.toArray 28) = W6 := ⟨_, rfl⟩
      have hb6 : Below W5.heap.size W5 W6 := by rw [← hW6]; exact below_alloc _ _
      have hx6 : Blk W6 W5.heap.size 28 k.cs.toArray := by rw [← hW6]; exact Blk.new _ _ _
      have hs6 : W6.heap.size = W5.heap.size + 1 := by rw [← hW6]; simp
      have hj6 := HJ.out.grow hj hb6
      have HW6 := Lib.hid hW6
      have HB6 := Lib.hid hb6
      have HX6 := Lib.hid hx6
      have HJ6 := Lib.hid hj6
      have HLT := Lib.hid hlt
      have HSUP := Lib.hid hsup
      have HSM := Lib.hid hsame
      have HPRE := Lib.hid hpre
      have HLK3 := Lib.hid hlk3
      have HKC := Lib.hid hkc
      rw [hkc] at hW6
      simp only [enc1, hkc]
      clear hb6 hx6 hj6 hlt hsup hsame hpre hkc hlk3 hj hkb
      simp
      gi_wp2
      refine ⟨by omega, fun b hb => HB6.out.block b (HLT.out b hb), fun W7 hc7 hs7 r hr => ?_⟩
      have hx7 : Blk W7 W5.heap.size 28 k.cs.toArray := hc7.blk HX6.out (by omega)
      have hj7 := HJ.out.step HJ6.out (hc7.mono (fun b hb => by subst hb; exact ⟨by omega, .inl hAl⟩))
      have hlt7 : ∀ b, Grow A5 W5 W6 b → b < W7.heap.size := fun b hb => by have := grow_lt HLT.out HB6.out.size b hb; omega
      obtain ⟨W8, hW8⟩ : ∃ W8, W7.alloc (.cells k.cs.toArray 28) = W8 := ⟨_, rfl⟩
      have hb8 : Below W7.heap.size W7 W8 := by rw [← hW8]; exact below_alloc _ _
      have hx8 : Blk W8 W7.heap.size 28 k.cs.toArray := by rw [← hW8]; exact Blk.new _ _ _
      have hs8 : W8.heap.size = W7.heap.size + 1 := by rw [← hW8]; simp
      have hj8 := HJ.out.grow hj7 hb8
      have hlt8 := grow_lt hlt7 hb8.size
      have hm8 : Grow (Grow A5 W5 W6) W7 W8 W7.heap.size := .inr ⟨Nat.le_refl _, by omega⟩
      have hsup8 : ∀ b, A5 b → Grow (Grow A5 W5 W6) W7 W8 b := fun b hb => .inl (.inl hb)
      have hr8 : W8.heap[l1]? = some (.loop r) := (hb8.block l1 (by omega)).trans hr
      have hsame8 : Same A3 W3 W8 := fun b hb => by
        have h3 := HLT3.out b hb
        exact (hb8.block b (by omega)).trans ((hc7.block b (by omega) (by omega)).trans ((HB6.out.block b (by omega)).trans (HSM.out b hb)))
      have hsm58 : Same A5 W7 W8 := fun b hb => hb8.block b (by have := HLT.out b hb; omega)
      have hlk8 : Lies (Grow (Grow A5 W5 W6) W7 W8) W8 .node k := HLK3.out.keep (fun b hb => hsup8 b (HSUP.out b hb)) (by omega) hsame8
      have hseq8 := HIH.out k hks hks2 _ W8 W7.heap.size hlt8 hm8 hlk8 hx8
      have hfn := all_fn (w := W7) HLK3.out
      rw [hW8] at hfn
      generalize Grow (Grow A5 W5 W6) W7 W8 = A8 at *
      have d0 := hx7
      rw [HKC.out] at d0 hfn
      have c0 := d0.cell 0
      have c1 := d0.cell 1
      have c2 := d0.cell 2
      have c3 := d0.cell 3
      have c4 := d0.cell 4
      have c5 := d0.cell 5
      have c6 := d0.cell 6
      have c7 := d0.cell 7
      have c8 := d0.cell 8
      have c9 := d0.cell 9
      simp at c0 c1 c2 c3 c4 c5 c6 c7 c8 c9
      have HFN := Lib.hid hfn
      have HSEQ8 := Lib.hid hseq8
      have HLT8 := Lib.hid hlt8
      have HSUP8 := Lib.hid hsup8
      have HS8 := Lib.hid hsame8
      have HS58 := Lib.hid hsm58
      have HR8 := Lib.hid hr8
      have HJ8 := Lib.hid hj8
      clear hfn hseq8 hlt8 hsup8 hsame8 hsm58 hj8 hlk8 hx7 hj7 hlt7 hb8 hx8 hm8 d0 HJ6 HX6 hW8 hc7 hr HW6 HB6 HLK3 hks hks2 hr8
      gi_wp2_with (refine ⟨trivial, rfl, ?_⟩; gi_at_call 30; refine CallsIn.inRound l1 ((callsIn_wide.2 HFN.out).mono ?_); rintro e w1 ⟨rfl, hw1⟩; rw [hw1]; clear hw1)
      clear c0 c1 c2 c3 c4 c5 c6 c7 c8 c9 HFN
      refine range_in (l₀ := l1) (r₀ := r) HR8.out (gf := 46) (lb := #[.pointer (some ⟨W7.heap.size, 0, none⟩)]) rfl (fun _ _ => by kernel_rfl) HSEQ8.out HLT8.out (fun _ => rfl)
        (fun pre2 A' W' => J (t :: pre.flatMap all ++ pre2) A' W' ∧ Same A3 W3 W' ∧ Same A5 W7 W' ∧ W8.heap.size ≤ W'.heap.size) (fun c A' W' => c = .ret ∧ Jx () A' W' ∧ Same A5 W7 W' ∧ W8.heap.size ≤ W'.heap.size) ?iI ?iIx ?i0 ?iround ?idone ?istop
      case iI =>
        rintro s A1 A2 U U' ⟨h1, h2, h3, h4⟩ hc hA'
        refine ⟨HJ.out _ _ _ _ _ h1 (hc.mono fun i hi => ⟨by omega, hi.2⟩) hA', h2.trans (fun b hb => ?_), h3.trans (fun b hb => ?_), Nat.le_trans h4 hc.size⟩
        · have := HLT3.out b hb
          exact hc.block b (by omega) (fun h => by omega)
        · have := HLT.out b hb
          exact hc.block b (by omega) (fun h => by omega)
      case iIx =>
        rintro c s A1 A2 U U' ⟨h1, h2, h3, h4⟩ hc hA'
        refine ⟨h1, HJX.out _ _ _ _ _ h2 (hc.mono fun i hi => ⟨by omega, hi.2⟩) hA', h3.trans (fun b hb => ?_), Nat.le_trans h4 hc.size⟩
        have := HLT.out b hb
        exact hc.block b (by omega) (fun h => by omega)
      case i0 => exact ⟨by simpa using HJ8.out, HS8.out, HS58.out, Nat.le_refl _⟩
      case idone =>
        rintro A9 W9 hsup9 hlt9 ⟨h1, h2, h3, h4⟩
        gi_wp2
        refine ⟨by omega, h3, ?_, h2, by omega⟩
        have := HJ.out.less h1 (A' := A5) (fun b hb => hsup9 b (HSUP8.out b hb))
        simpa [List.flatMap_append] using this
      case istop =>
        rintro c A9 W9 hsup9 hlt9 ⟨rfl, h1, h3, h4⟩
        gi_wp2
        exact ⟨by omega, h3, rfl, HJX.out.less h1 (fun b hb => hsup9 b (HSUP8.out b hb))⟩
      case iround =>
        rintro l2 pre2 x A9 W9 hpre2 hl2 hl2W hAl2 hsup9 hlt9 ⟨h1, h2, h3, h4⟩
        have hxa : x ∈ all k := hpre2.subset (by simp)
        have hkl : Lies A3 W3 .node k := by
          have hkb : k ∈ below t := HPRE.out.subset (by simp)
          exact below_lies HL3.out k hkb
        have hlx : Lies A3 W3 .node x := all_lies _ [k] (Nat.le_refl _) (by simpa using hkl) x hxa
        obtain ⟨xk, xs, x1, x2, xoa, xon, xoc, xaa, xan, xac, xwa, xwn, xwc, xra, xrn, xrc, xma, xmn, xmc, xka, xkn, xkc, hxc⟩ := hlx.node10
        obtain ⟨Wa, hWa⟩ : ∃ Wa, W9.alloc (.cells x.cs.toArray 28) = Wa := ⟨_, rfl⟩
        have hba : Below W9.heap.size W9 Wa := by rw [← hWa]; exact below_alloc _ _
        have hxa' : Blk Wa W9.heap.size 28 x.cs.toArray := by rw [← hWa]; exact Blk.new _ _ _
        have hsa : Wa.heap.size = W9.heap.size + 1 := by rw [← hWa]; simp
        have hja := HJ.out.grow h1 hba
        rw [hxc] at hWa
        have HBA := Lib.hid hba
        have HXA := Lib.hid hxa'
        have HJA := Lib.hid hja
        have HXC := Lib.hid hxc
        have H2 := Lib.hid h2
        have H3 := Lib.hid h3
        have HLT9 := Lib.hid hlt9
        have HSUP9 := Lib.hid hsup9
        have HPRE2 := Lib.hid hpre2
        have hpx : t :: pre.flatMap all ++ pre2 ++ [x] <+: all t := by
          obtain ⟨q, hq⟩ := HPRE.out
          obtain ⟨q2, hq2⟩ := HPRE2.out
          refine ⟨q2 ++ q.flatMap all, ?_⟩
          rw [all_eq, allL_flat, ← hq, List.flatMap_append, List.flatMap_append, List.flatMap_cons, List.flatMap_nil, List.append_nil, ← hq2]
          simp [List.append_assoc]
        have HPX := Lib.hid hpx
        simp only [enc1, hxc]
        clear hxa hkl hlx hba hxa' hja hxc h1 h2 h3 hlt9 hsup9 hpre2 hpx
        simp
        gi_wp2
        refine ⟨by omega, fun b hb => HBA.out.block b (HLT9.out b hb), fun Wb hcb hsb rb hrb => ?_⟩
        have hxb : Blk Wb W9.heap.size 28 x.cs.toArray := hcb.blk HXA.out (by omega)
        have hjb := HJ.out.step HJA.out (hcb.mono (fun b hb => by subst hb; exact ⟨by omega, .inl hAl2⟩))
        have hsupb : ∀ b, A b → Grow A9 W9 Wa b := fun b hb => .inl (HSUP9.out b (HSUP8.out b (HSUP.out b (HSUP3.out b hb))))
        have hltb : ∀ b, Grow A9 W9 Wa b → b < Wb.heap.size := fun b hb => by have := grow_lt HLT9.out HBA.out.size b hb; omega
        have hs3b : Same A3 W3 Wb := fun b hb => by
          have h3 := HLT3.out b hb
          exact (hcb.block b (by omega) (by omega)).trans ((HBA.out.block b (by omega)).trans (H2.out b hb))
        have hs5b : Same A5 W7 Wb := fun b hb => by
          have h3 := HLT.out b hb
          exact (hcb.block b (by omega) (by omega)).trans ((HBA.out.block b (by omega)).trans (H3.out b hb))
        have hyb : Blk Wb W.heap.size 34 #[.func (.yield l) #[] #[]] := (hs3b _ hyin).trans HYB3.out
        obtain ⟨fn, tmps, assign, body, hy, hR⟩ := HY.out _ x _ Wb hjb HPX.out hsupb hltb
        have d0 := hxb
        rw [HXC.out] at d0
        unfold enc1 at hy
        rw [HXC.out] at hy
        have c0 := d0.cell 0
        have c1 := d0.cell 1
        have c2 := d0.cell 2
        have c3 := d0.cell 3
        have c4 := d0.cell 4
        have c5 := d0.cell 5
        have c6 := d0.cell 6
        have c7 := d0.cell 7
        have c8 := d0.cell 8
        have c9 := d0.cell 9
        have yb0 := hyb.cell 0
        simp at c0 c1 c2 c3 c4 c5 c6 c7 c8 c9 yb0
        have HS3B := Lib.hid hs3b
        have HS5B := Lib.hid hs5b
        have hsup3b : ∀ b, A3 b → Grow A9 W9 Wa b := fun b hb => .inl (HSUP9.out b (HSUP8.out b (HSUP.out b hb)))
        have hsup5b : ∀ b, A5 b → Grow A9 W9 Wa b := fun b hb => .inl (HSUP9.out b (HSUP8.out b hb))
        have HSUP3B := Lib.hid hsup3b
        have HSUP5B := Lib.hid hsup5b
        clear hxb hjb hsupb hltb hs3b hs5b hyb d0 hsup3b hsup5b hcb hrb
        gi_wp2
        refine ⟨rfl, hR.mono ?_⟩
        clear hR hy c0 c1 c2 c3 c4 c5 c6 c7 c8 c9 yb0
        rintro e Wc ⟨hsc, hsmc, (⟨rfl, hJc⟩ | ⟨rfl, hJc⟩)⟩
        · gi_wp2
          refine ⟨hsc, fun b hb => hsmc b (.inl hb), ?_, HS3B.out.trans (fun b hb => hsmc b (HSUP3B.out b hb)), HS5B.out.trans (fun b hb => hsmc b (HSUP5B.out b hb)), by omega⟩
          have := HJ.out.less hJc (A' := A9) (fun b hb => .inl hb)
          simpa using this
        · gi_wp2
          exact ⟨hsc, fun b hb => hsmc b (.inl hb), rfl, HJX.out.less hJc (fun b hb => .inl hb), HS5B.out.trans (fun b hb => hsmc b (HSUP5B.out b hb)), by omega⟩
    case hdone =>
      rintro D A5 W5 hD hAD hsup hlt ⟨hj, hsame, hsz5⟩ hK
      have hDlt := (Array.getElem?_eq_some_iff.1 hK).1
      gi_wp2
      refine ⟨by simp, .inl ⟨_, _, rfl, run_takeDeferred hK, ?_⟩⟩
      exact ⟨_, results_none rfl _ _ _, ⟨_, rfl⟩, A5, fun b hb => hsup b (HSUP3.out b hb), fun b hb => by simpa using hlt b hb, .inl (by
        rw [all_eq, allL_flat]
        exact HJ.out.step hj ((Chg.refl _ _).put (.inr ⟨by omega, hAD⟩) _))⟩
    case hstop =>
      rintro D c A5 W5 hD hAD hsup hlt ⟨rfl, hj⟩ hK
      gi_wp2
      refine ⟨by simp, .inl ⟨_, _, rfl, run_takeDeferred hK, ?_⟩⟩
      exact ⟨_, results_none rfl _ _ _, ⟨_, rfl⟩, A5, fun b hb => hsup b (HSUP3.out b hb), fun b hb => by simpa using hlt b hb, .inr (HJX.out.step (s := ()) hj ((Chg.refl _ _).put (.inr ⟨by omega, hAD⟩) _))⟩
end Go.Proofs.Ytpjcmhlgdgadjaa
