/- WalkCounts, walked, at a node that lies. PRINTED by gen47.py. WalkTells, walked, at a node that lies. PRINTED by gen48.py. -/
import Derived.Test.YtpjcmhlgdgadjaaKs
import Derived.Test.YtpjcmhlgdgadjaaKe
import Derived.Test.YtpjcmhlgdgadjaaKf
import Derived.Test.YtpjcmhlgdgadjaaKg
import Derived.Test.YtpjcmhlgdgadjaaKk
import Derived.Test.YtpjcmhlgdgadjaaKm
import Derived.Test.YtpjcmhlgdgadjaaKn
import Derived.Deep.RegionHeld3
import Derived.Laws.Small
namespace Go.Proofs.Ytpjcmhlgdgadjaa
open Go.RowKit
set_option linter.unusedVariables false
theorem calls_cnt (t : Tr) : ((all t).flatMap callV).length ≤ (all t).length := flat_len1 (fun x => by unfold callV; rw [List.length_map]; exact callOf_len x) _
/-- The last check answers true. -/
def Awake (w : World) : Prop := ∀ y, Below w.heap.size w y → Calls Try.prog 6 #[] y fun e w' => e = .returned (.bool true) ∧ Below y.heap.size y w'
set_option maxRecDepth 100000 in
set_option maxHeartbeats 1600000 in
theorem counts_law0 {A : Nat → Prop} {w : World} {t : Tr} (hsz : t.sz ≤ 1048576) (hA : ∀ b, A b → b < w.heap.size) (hl : Lies A w .node t) (haw : Awake w) :
    Calls Try.prog 3 #[.agg t.cs.toArray] w fun e w' => e = .returned (.bool true) ∧ Below w.heap.size w w' := by
  obtain ⟨v, hv⟩ := much_any _ t (Nat.le_refl _)
  have hcnt : cntL [t] = (all t).length := rfl
  have hall := sz_len t
  have hd1 : 1 ≤ deep t := by unfold deep; omega
  have hd2 := deep_all t
  have hcl := calls_cnt t
  have hnl : ((all t).take ((((all t).length : Nat) : Int) + 5).toNat).length = (all t).length := by
    rw [List.length_take]
    omega
  obtain ⟨W, hW⟩ : ∃ W, w.alloc (.cells t.cs.toArray 28) = W := ⟨_, rfl⟩
  have hbW : Below w.heap.size w W := by rw [← hW]; exact below_alloc _ _
  have hxW : Blk W w.heap.size 28 t.cs.toArray := by rw [← hW]; exact Blk.new _ _ _
  have hWs : W.heap.size = w.heap.size + 1 := by rw [← hW]; simp
  have hY : ∀ y, Below W.heap.size W y → Below w.heap.size w y := fun y hy => hbW.trans (hy.mono (by omega))
  have hAy : ∀ y, Below W.heap.size W y → ∀ b, A b → b < y.heap.size := fun y hy b hb => by have := hA b hb; have := hy.size; omega
  have DM := fun y (hy : Below W.heap.size W y) => hv A y (hAy y hy) hsz (hl.later hA (hY y hy))
  have CM := Lib.hid (fun y hy => (DM y hy).2)
  have BM := (DM W (Below.refl _ _)).1
  have CC := Lib.hid (fun y (hy : Below W.heap.size W y) => count_any _ t (Nat.le_refl _) hsz A y (hAy y hy) (hl.later hA (hY y hy)))
  have CN := Lib.hid (fun y (hy : Below W.heap.size W y) => nodes_any (most := (((all t).length : Nat) : Int) + 5) hsz (hAy y hy) (hl.later hA (hY y hy)) (by omega) (by omega))
  have CD := Lib.hid (fun y (hy : Below W.heap.size W y) => deep_any _ t (Nat.le_refl _) hsz A y (hAy y hy) (hl.later hA (hY y hy)))
  have CL := Lib.hid (fun y (hy : Below W.heap.size W y) => fcalls_any hsz (hAy y hy) (hl.later hA (hY y hy)))
  have CA := Lib.hid (fun y (hy : Below W.heap.size W y) => haw y (hY y hy))
  have HY := Lib.hid hY
  obtain ⟨nk, T, b1, b2, oa, oc, aa, ac, wa, wc, ra, rc, ma, mc, ka, kc, os, gs, ws, rs, ms, ks, et, -⟩ := hl.node
  have ecs : t.cs = [.int .i64 nk, .string T, .bool b1, .bool b2, .slice oa os.length oc, .slice aa gs.length ac, .slice wa ws.length wc, .slice ra rs.length rc, .slice ma ms.length mc, .slice ka ks.length kc] := by rw [et]; rfl
  rw [ecs] at hW hxW CM CC CN CD CL ⊢
  rw [hcnt] at CC
  rw [hnl] at CN
  generalize (all t).length = k at *
  generalize deep t = d at *
  generalize ((all t).flatMap callV).length = c at *
  generalize (all t).flatMap callV = cl at *
  generalize ((all t).take ((k : Int) + 5).toNat).flatMap Tr.cs = nl at *
  have hwW : w.heap.size < W.heap.size := by omega
  have HW := Lib.hid hW
  have HX0 : Hid (Blk W w.heap.size 28 #[.int .i64 nk, .string T, .bool b1, .bool b2, .slice oa os.length oc, .slice aa gs.length ac, .slice wa ws.length wc, .slice ra rs.length rc, .slice ma ms.length mc, .slice ka ks.length kc]) := Lib.hid hxW
  have HB0 : Hid (Below W.heap.size W W) := Lib.hid (Below.refl _ _)
  clear et ecs hl hA hY hAy hbW hxW hW hv DM haw hcnt hnl hWs
  have c0 := HX0.out.cell 0
  have c1 := HX0.out.cell 1
  have c2 := HX0.out.cell 2
  have c3 := HX0.out.cell 3
  have c4 := HX0.out.cell 4
  have c5 := HX0.out.cell 5
  have c6 := HX0.out.cell 6
  have c7 := HX0.out.cell 7
  have c8 := HX0.out.cell 8
  have c9 := HX0.out.cell 9
  simp at c0 c1 c2 c3 c4 c5 c6 c7 c8 c9
  by_cases h4 : 400 < v
  · have h4' : (400 : Int) < (v : Int) := by omega
    clear h4
    go_enter Try.func3, Try.ntmps3
    go_wp2_with fail
    rw [HW.out]
    refine (CM.out _ HB0.out).mono ?_
    rintro e w1 ⟨rfl, hb⟩
    have HB1 := Lib.hid (HB0.out.trans (hb.mono HB0.out.size))
    clear hb
    go_wp2_with fail
    refine (CA.out _ HB1.out).mono ?_
    rintro e w2 ⟨rfl, hb⟩
    have HB2 := Lib.hid (HB1.out.trans (hb.mono HB1.out.size))
    clear hb
    go_wp2
    go_ret
    exact ⟨rfl, HY.out _ HB2.out⟩
  have h4' : ¬ (400 : Int) < (v : Int) := by omega
  clear h4
  go_enter Try.func3, Try.ntmps3
  go_wp2_with fail
  rw [HW.out]
  refine (CM.out _ HB0.out).mono ?_
  rintro e w1 ⟨rfl, hb⟩
  have HB1 := Lib.hid (HB0.out.trans (hb.mono HB0.out.size))
  have HX1 := Lib.hid (HX0.out.below hb HX0.out.lt)
  clear hb HX0 HW
  clear c0 c1 c2 c3 c4 c5 c6 c7 c8 c9
  have c0 := HX1.out.cell 0
  have c1 := HX1.out.cell 1
  have c2 := HX1.out.cell 2
  have c3 := HX1.out.cell 3
  have c4 := HX1.out.cell 4
  have c5 := HX1.out.cell 5
  have c6 := HX1.out.cell 6
  have c7 := HX1.out.cell 7
  have c8 := HX1.out.cell 8
  have c9 := HX1.out.cell 9
  simp at c0 c1 c2 c3 c4 c5 c6 c7 c8 c9
  go_wp2_with fail
  refine (CC.out _ HB1.out).mono ?_
  rintro e w2 ⟨rfl, hb⟩
  have HB2 := Lib.hid (HB1.out.trans (hb.mono HB1.out.size))
  have HX2 := Lib.hid (HX1.out.below hb HX1.out.lt)
  clear hb HX1
  clear c0 c1 c2 c3 c4 c5 c6 c7 c8 c9
  have c0 := HX2.out.cell 0
  have c1 := HX2.out.cell 1
  have c2 := HX2.out.cell 2
  have c3 := HX2.out.cell 3
  have c4 := HX2.out.cell 4
  have c5 := HX2.out.cell 5
  have c6 := HX2.out.cell 6
  have c7 := HX2.out.cell 7
  have c8 := HX2.out.cell 8
  have c9 := HX2.out.cell 9
  simp at c0 c1 c2 c3 c4 c5 c6 c7 c8 c9
  have q5 : ((k : Int) + 5) ≤ 9223372036854775807 := by omega
  go_wp2_with fail
  refine (CN.out _ HB2.out).mono ?_
  rintro e w3 ⟨o3, rfl, A3, s3, rfl, -, hb⟩
  have HB3 := Lib.hid (HB2.out.trans (hb.mono HB2.out.size))
  have HX3 := Lib.hid (HX2.out.below hb HX2.out.lt)
  clear hb HX2
  clear c0 c1 c2 c3 c4 c5 c6 c7 c8 c9
  have c0 := HX3.out.cell 0
  have c1 := HX3.out.cell 1
  have c2 := HX3.out.cell 2
  have c3 := HX3.out.cell 3
  have c4 := HX3.out.cell 4
  have c5 := HX3.out.cell 5
  have c6 := HX3.out.cell 6
  have c7 := HX3.out.cell 7
  have c8 := HX3.out.cell 8
  have c9 := HX3.out.cell 9
  simp at c0 c1 c2 c3 c4 c5 c6 c7 c8 c9
  have q6 : ((k : Int) == (k : Int)) = true := by simp
  go_wp2_with fail
  refine (CD.out _ HB3.out).mono ?_
  rintro e w4 ⟨rfl, hb⟩
  have HB4 := Lib.hid (HB3.out.trans (hb.mono HB3.out.size))
  have HX4 := Lib.hid (HX3.out.below hb HX3.out.lt)
  clear hb HX3
  clear c0 c1 c2 c3 c4 c5 c6 c7 c8 c9
  have c0 := HX4.out.cell 0
  have c1 := HX4.out.cell 1
  have c2 := HX4.out.cell 2
  have c3 := HX4.out.cell 3
  have c4 := HX4.out.cell 4
  have c5 := HX4.out.cell 5
  have c6 := HX4.out.cell 6
  have c7 := HX4.out.cell 7
  have c8 := HX4.out.cell 8
  have c9 := HX4.out.cell 9
  simp at c0 c1 c2 c3 c4 c5 c6 c7 c8 c9
  have q7 : (d : Int) ≤ (k : Int) := by omega
  go_wp2_with fail
  refine (CD.out _ HB4.out).mono ?_
  rintro e w5 ⟨rfl, hb⟩
  have HB5 := Lib.hid (HB4.out.trans (hb.mono HB4.out.size))
  have HX5 := Lib.hid (HX4.out.below hb HX4.out.lt)
  clear hb HX4
  clear c0 c1 c2 c3 c4 c5 c6 c7 c8 c9
  have c0 := HX5.out.cell 0
  have c1 := HX5.out.cell 1
  have c2 := HX5.out.cell 2
  have c3 := HX5.out.cell 3
  have c4 := HX5.out.cell 4
  have c5 := HX5.out.cell 5
  have c6 := HX5.out.cell 6
  have c7 := HX5.out.cell 7
  have c8 := HX5.out.cell 8
  have c9 := HX5.out.cell 9
  simp at c0 c1 c2 c3 c4 c5 c6 c7 c8 c9
  have q8 : (1 : Int) ≤ (d : Int) := by omega
  go_wp2_with fail
  refine (CL.out _ HB5.out).mono ?_
  rintro e w6 ⟨o6, rfl, A6, s6, rfl, -, hb⟩
  have HB6 := Lib.hid (HB5.out.trans (hb.mono HB5.out.size))
  have HX6 := Lib.hid (HX5.out.below hb HX5.out.lt)
  clear hb HX5
  clear c0 c1 c2 c3 c4 c5 c6 c7 c8 c9
  have c0 := HX6.out.cell 0
  have c1 := HX6.out.cell 1
  have c2 := HX6.out.cell 2
  have c3 := HX6.out.cell 3
  have c4 := HX6.out.cell 4
  have c5 := HX6.out.cell 5
  have c6 := HX6.out.cell 6
  have c7 := HX6.out.cell 7
  have c8 := HX6.out.cell 8
  have c9 := HX6.out.cell 9
  simp at c0 c1 c2 c3 c4 c5 c6 c7 c8 c9
  have q9 : (c : Int) ≤ (k : Int) := by omega
  go_wp2_with fail
  refine (CA.out _ HB6.out).mono ?_
  rintro e w7 ⟨rfl, hb⟩
  have HB7 := Lib.hid (HB6.out.trans (hb.mono HB6.out.size))
  clear hb
  go_wp2
  go_ret
  exact ⟨rfl, HY.out _ HB7.out⟩
end Go.Proofs.Ytpjcmhlgdgadjaa

namespace Go.Proofs.Ytpjcmhlgdgadjaa
open Go.RowKit
set_option linter.unusedVariables false
theorem all_mem_sz (N : Nat) : ∀ l, szL l ≤ N → ∀ x ∈ allL l, x.sz ≤ szL l := by
  induction N with
  | zero =>
    intro l h
    cases l with
    | nil => intro x hx; rw [allL_nil] at hx; cases hx
    | cons p r => have := p.sz_pos; simp only [szL] at h; omega
  | succ N ih =>
    intro l
    induction l with
    | nil => intro _ x hx; rw [allL_nil] at hx; cases hx
    | cons p r ihr =>
      intro h x hx
      simp only [szL] at h ⊢
      have h1 := sz_below p
      rw [allL_cons, List.mem_cons, List.mem_append] at hx
      rcases hx with rfl | hx | hx
      · omega
      · have := ih (below p) (by omega) x hx; omega
      · have := ihr (by have := p.sz_pos; omega) x hx; omega
theorem RowAt.take {A : Nat → Prop} {w : World} {s m c : Nat} {a : Option Addr} {l : List Tr} (h : RowAt A w s (.slice a l.length c) l) (hm : m ≤ l.length) : RowAt A w s (.slice a m c) (l.take m) := by
  obtain ⟨a', c', e, h0, h1, h2, h3⟩ := h.lies
  cases e
  refine ⟨by rw [List.length_take]; have := h.len; omega, a, c, by rw [List.length_take, Nat.min_eq_left hm], h0, by rw [List.length_take]; omega, h2, fun k x hx => ?_⟩
  rw [List.getElem?_take] at hx
  split at hx
  · exact h3 k x hx
  · cases hx
/-- A row of nodes that lies in some blocks there are. -/
def NodesAt (y : World) (v : Value) (l : List Tr) : Prop := RowAt (fun b => b < y.heap.size) y 10 v l
theorem NodesAt.of {w y : World} {l : List Tr} {o : Value} (h : OutAt 28 10 w l.length (l.flatMap Tr.cs) o y) (hl : l.length ≤ 1048576) (hm : ∀ x ∈ l, x.cs.length = 10) : NodesAt y o l := (OutAt.row h hl hm).keep (fun b hb => hb.2) (Nat.le_refl _) (fun b _ => rfl)
theorem NodesAt.later {y y' : World} {v : Value} {l : List Tr} (h : NodesAt y v l) (hb : Below y.heap.size y y') : NodesAt y' v l := RowAt.keep h (fun b hb' => Nat.lt_of_lt_of_le hb' hb.size) hb.size (fun b hb' => hb.block b hb')
/-- A row of strings. -/
def StrAt (y : World) (v : Value) (xs : List Value) : Prop := ∃ S : List ByteArray, xs = S.map Value.string ∧ RowAt (fun b => b < y.heap.size) y 1 v (S.map strT)
theorem StrAt.of {w y : World} {xs : List Value} {o : Value} {n : Nat} (h : OutAt 9 1 w n xs o y) (hn : xs.length = n) (hl : n ≤ 1048576) (hm : ∃ S : List ByteArray, xs = S.map Value.string) : StrAt y o xs := by
  obtain ⟨S, rfl⟩ := hm
  subst hn
  have h1 : OutAt 9 1 w (S.map strT).length ((S.map strT).flatMap Tr.cs) o y := by rw [strT_cs, List.length_map]; rw [List.length_map] at h; exact h
  refine ⟨S, rfl, (OutAt.row h1 (by simpa using hl) (fun x hx => ?_)).keep (fun b hb => hb.2) (Nat.le_refl _) (fun b _ => rfl)⟩
  obtain ⟨s, -, rfl⟩ := List.mem_map.1 hx
  rfl
theorem StrAt.later {y y' : World} {v : Value} {xs : List Value} (h : StrAt y v xs) (hb : Below y.heap.size y y') : StrAt y' v xs := by
  obtain ⟨S, e, h⟩ := h
  exact ⟨S, e, RowAt.keep h (fun b hb' => Nat.lt_of_lt_of_le hb' hb.size) hb.size (fun b hb' => hb.block b hb')⟩
theorem same4_str {y : World} {u v : Value} {xs : List Value} (hu : StrAt y u xs) (hv : StrAt y v xs) : Calls Try.prog 16 #[u, v] y fun e w' => e = .returned (.bool true) ∧ Below y.heap.size y w' := by
  obtain ⟨S, rfl, h1⟩ := hu
  obtain ⟨S', e, h2⟩ := hv
  have : S = S' := by
    have hj : ∀ (a b : List ByteArray), a.map Value.string = b.map Value.string → a = b := by
      intro a
      induction a with
      | nil => intro b h; cases b with
        | nil => rfl
        | cons => simp at h
      | cons x a ih => intro b h; cases b with
        | nil => simp at h
        | cons z b => simp at h; rw [h.1, ih b (by simpa using h.2)]
    exact hj _ _ e
  subst this
  exact rsame4_any h1 h2 (fun x hx => by obtain ⟨s, -, rfl⟩ := List.mem_map.1 hx; exact ⟨s, rfl⟩)
theorem strs_of {f : FuncId} {args : Array Value} {y : World} {n : Nat} {xs : List Value} (h : Calls Try.prog f args y fun e w' => ∃ o, e = .returned o ∧ OutAt 9 1 y n xs o w') (hn : xs.length = n) (hl : n ≤ 1048576) (hm : ∃ S : List ByteArray, xs = S.map Value.string) :
    Calls Try.prog f args y fun e w' => ∃ o, e = .returned o ∧ StrAt w' o xs ∧ Below y.heap.size y w' := h.mono fun e w' ⟨o, he, ho⟩ => ⟨o, he, StrAt.of ho hn hl hm, ho.below⟩
theorem flat_strs {f : Tr → List Value} (h : ∀ x, ∃ S : List ByteArray, f x = S.map Value.string) (l : List Tr) : ∃ S : List ByteArray, l.flatMap f = S.map Value.string := by
  induction l with
  | nil => exact ⟨[], rfl⟩
  | cons x l ih =>
    obtain ⟨S, hS⟩ := ih
    obtain ⟨S', hS'⟩ := h x
    exact ⟨S' ++ S, by rw [List.flatMap_cons, hS, hS', List.map_append]⟩
theorem callV_strs (x : Tr) : ∃ S : List ByteArray, callV x = S.map Value.string := ⟨_, rfl⟩
theorem setV_strs (x : Tr) : ∃ S : List ByteArray, setV x = S.map Value.string := by
  have h1 : ∀ u : Tr, ∃ S : List ByteArray, setR u = S.map Value.string := fun u => ⟨(assignOf u).toList, rfl⟩
  obtain ⟨S1, hS1⟩ := flat_strs h1 (x.r 5)
  unfold setV
  rw [hS1]
  split
  · exact ⟨S1 ++ [x.s 1], by rw [List.map_append]; rfl⟩
  · exact ⟨S1, by rw [List.append_nil]⟩
theorem hereV_strs (x : Tr) : ∃ S : List ByteArray, hereV x = S.map Value.string := by
  unfold hereV
  refine flat_strs (fun x => ?_) _
  unfold hereR
  split <;> first | exact ⟨[], rfl⟩ | exact ⟨[_], rfl⟩
set_option maxRecDepth 100000 in
set_option maxHeartbeats 1600000 in
theorem tells_law0 {A : Nat → Prop} {w : World} {t : Tr} {q : Int} (hq0 : 0 ≤ q) (hq1 : q ≤ 255) (hsz : t.sz ≤ 1048576) (hA : ∀ b, A b → b < w.heap.size) (hl : Lies A w .node t) (haw : Awake w) :
    Calls Try.prog 4 #[.agg t.cs.toArray, .int .u8 q] w fun e w' => e = .returned (.bool true) ∧ Below w.heap.size w w' := by
  obtain ⟨v, hv⟩ := much_any _ t (Nat.le_refl _)
  have hall := sz_len t
  have hnl : (all t).take ((((all t).length : Nat) : Int) + 5).toNat = all t := List.take_of_length_le (by omega)
  have hlies := all_lies _ [t] (Nat.le_refl _) (by simpa using hl)
  have hasz : ∀ x ∈ all t, x.sz ≤ t.sz := fun x hx => by have := all_mem_sz _ [t] (Nat.le_refl _) x hx; simp only [szL] at this; omega
  obtain ⟨W, hW⟩ : ∃ W, w.alloc (.cells t.cs.toArray 28) = W := ⟨_, rfl⟩
  have hbW : Below w.heap.size w W := by rw [← hW]; exact below_alloc _ _
  have hxW : Blk W w.heap.size 28 t.cs.toArray := by rw [← hW]; exact Blk.new _ _ _
  have hWs : W.heap.size = w.heap.size + 1 := by rw [← hW]; simp
  have hY : ∀ y, Below W.heap.size W y → Below w.heap.size w y := fun y hy => hbW.trans (hy.mono (by omega))
  have hAy : ∀ y, Below W.heap.size W y → ∀ b, A b → b < y.heap.size := fun y hy b hb => by have := hA b hb; have := hy.size; omega
  have CM := Lib.hid (fun y (hy : Below W.heap.size W y) => (hv A y (hAy y hy) hsz (hl.later hA (hY y hy))).2)
  have CR := Lib.hid (fun y (hy : Below W.heap.size W y) => rall_any _ t (Nat.le_refl _) hsz A y (hAy y hy) (hl.later hA (hY y hy)))
  have CN := Lib.hid (fun y (hy : Below W.heap.size W y) => nodes_any (most := (((all t).length : Nat) : Int) + 5) hsz (hAy y hy) (hl.later hA (hY y hy)) (by omega) (by omega))
  rw [hnl] at CN
  have CQ := Lib.hid (fun y (hy : Below W.heap.size W y) => nodes_any (most := q) hsz (hAy y hy) (hl.later hA (hY y hy)) (by omega) (by omega))
  have CS : Hid (∀ y, Below W.heap.size W y → ∀ (l : List Tr) (u z : Value), l <+: all t → NodesAt y u l → NodesAt y z l → Calls Try.prog 12 #[u, z] y fun e w' => e = .returned (.bool true) ∧ Below y.heap.size y w') := Lib.hid (fun y hy l u z hp hu hz =>
    sameAll_each (rsame_any 1048576) (A := fun b => b < y.heap.size) (fun x hx => by have := hasz x (hp.subset hx); omega) (fun b hb => hb) hu hz (fun x hx => ((hlies x (hp.subset hx)).later hA (hY y hy)).keep (fun b hb => hAy y hy b hb) (Nat.le_refl _) (fun b _ => rfl)))
  have CA := Lib.hid (fun y (hy : Below W.heap.size W y) => haw y (hY y hy))
  have HY := Lib.hid hY
  have HLN : Hid (∀ x ∈ all t, x.cs.length = 10) := Lib.hid (fun x hx => (hlies x hx).len)
  have hpos : 1 ≤ (all t).length := by rw [all_eq]; simp
  have hal : (all t).length ≤ 1048576 := by omega
  have CWP := Lib.hid (fun y (hy : Below W.heap.size W y) => words_any hsz (hAy y hy) (hl.later hA (hY y hy)))
  have CWR := Lib.hid (fun y (hy : Below W.heap.size W y) => rWords_any hsz (hAy y hy) (hl.later hA (hY y hy)))
  have CDP := Lib.hid (fun y (hy : Below W.heap.size W y) => deep_any _ t (Nat.le_refl _) hsz A y (hAy y hy) (hl.later hA (hY y hy)))
  have CDR := Lib.hid (fun y (hy : Below W.heap.size W y) => rdeep_any _ t (Nat.le_refl _) hsz A y (hAy y hy) (hl.later hA (hY y hy)))
  have C1P := Lib.hid (fun y (hy : Below W.heap.size W y) => strs_of (fcalls_any hsz (hAy y hy) (hl.later hA (hY y hy))) rfl (Nat.le_trans (calls_sz t) hsz) (flat_strs callV_strs _))
  have C1R := Lib.hid (fun y (hy : Below W.heap.size W y) => strs_of (rcalls_any hsz (hAy y hy) (hl.later hA (hY y hy))) rfl (Nat.le_trans (calls_sz t) hsz) (flat_strs callV_strs _))
  have C2P := Lib.hid (fun y (hy : Below W.heap.size W y) => strs_of (reads_any hsz (hAy y hy) (hl.later hA (hY y hy))) (List.length_map _) (Nat.le_trans (reads_sz t) hsz) ⟨_, rfl⟩)
  have C2R := Lib.hid (fun y (hy : Below W.heap.size W y) => strs_of (rreads_any hsz (hAy y hy) (hl.later hA (hY y hy))) (List.length_map _) (Nat.le_trans (reads_sz t) hsz) ⟨_, rfl⟩)
  have C3P := Lib.hid (fun y (hy : Below W.heap.size W y) => strs_of (fsets_any hsz (hAy y hy) (hl.later hA (hY y hy))) rfl (Nat.le_trans (sets_sz t) hsz) (flat_strs setV_strs _))
  have C3R := Lib.hid (fun y (hy : Below W.heap.size W y) => strs_of (rsets_any hsz (hAy y hy) (hl.later hA (hY y hy))) rfl (Nat.le_trans (sets_sz t) hsz) (flat_strs setV_strs _))
  have C4P := Lib.hid (fun y (hy : Below W.heap.size W y) => strs_of (fheres_any hsz (hAy y hy) (hl.later hA (hY y hy))) rfl (Nat.le_trans (heres_sz t) hsz) (flat_strs hereV_strs _))
  have C4R := Lib.hid (fun y (hy : Below W.heap.size W y) => strs_of (rheres_any hsz (hAy y hy) (hl.later hA (hY y hy))) rfl (Nat.le_trans (heres_sz t) hsz) (flat_strs hereV_strs _))
  obtain ⟨nk, T, b1, b2, oa, oc, aa, ac, wa, wc, ra, rc, ma, mc, ka, kc, os, gs, ws, rs, ms, ks, et, -⟩ := hl.node
  have ecs : t.cs = [.int .i64 nk, .string T, .bool b1, .bool b2, .slice oa os.length oc, .slice aa gs.length ac, .slice wa ws.length wc, .slice ra rs.length rc, .slice ma ms.length mc, .slice ka ks.length kc] := by rw [et]; rfl
  rw [ecs] at hW hxW CM CR CN CQ CWP CWR CDP CDR C1P C1R C2P C2R C3P C3R C4P C4R ⊢
  have HWL := Lib.hid (wordsOf_len t)
  have HWS : Hid (∀ x ∈ wordsOf t, Lies A w .word x ∧ x.sz ≤ 1048576) := Lib.hid (fun x hx => ⟨(words_lies hl x hx).1, Nat.le_trans (words_lies hl x hx).2 hsz⟩)
  generalize (all t).flatMap callV = x1 at *
  generalize (reads t).map Value.string = x2 at *
  generalize (all t).flatMap setV = x3 at *
  generalize (all t).flatMap hereV = x4 at *
  generalize deep t = d at *
  generalize all t = L at *
  have HTK : Hid ((L.take q.toNat).length = min q.toNat L.length) := Lib.hid List.length_take
  generalize hr : (L.take q.toNat).length = r at *
  have HR := Lib.hid hr
  clear hr
  have hwW : w.heap.size < W.heap.size := by omega
  have HW := Lib.hid hW
  have HX0 : Hid (Blk W w.heap.size 28 #[.int .i64 nk, .string T, .bool b1, .bool b2, .slice oa os.length oc, .slice aa gs.length ac, .slice wa ws.length wc, .slice ra rs.length rc, .slice ma ms.length mc, .slice ka ks.length kc]) := Lib.hid hxW
  have HX0' := HX0
  have HB0 : Hid (Below W.heap.size W W) := Lib.hid (Below.refl _ _)
  have HAY := Lib.hid hAy
  have HHA := Lib.hid hA
  clear et ecs hl hA hY hAy hbW hxW hW hv haw hnl hWs hlies hasz
  have c0 := HX0.out.cell 0
  have c1 := HX0.out.cell 1
  have c2 := HX0.out.cell 2
  have c3 := HX0.out.cell 3
  have c4 := HX0.out.cell 4
  have c5 := HX0.out.cell 5
  have c6 := HX0.out.cell 6
  have c7 := HX0.out.cell 7
  have c8 := HX0.out.cell 8
  have c9 := HX0.out.cell 9
  simp at c0 c1 c2 c3 c4 c5 c6 c7 c8 c9
  by_cases h4 : 400 < v
  · have h4' : (400 : Int) < (v : Int) := by omega
    clear h4
    go_enter Try.func4, Try.ntmps4
    go_wp2_with fail
    rw [HW.out]
    refine (CM.out _ HB0.out).mono ?_
    rintro e w1 ⟨rfl, hb⟩
    have HB1 := Lib.hid (HB0.out.trans (hb.mono HB0.out.size))
    clear hb
    go_wp2_with fail
    refine (CA.out _ HB1.out).mono ?_
    rintro e w2 ⟨rfl, hb⟩
    have HB2 := Lib.hid (HB1.out.trans (hb.mono HB1.out.size))
    clear hb
    go_wp2
    go_ret
    exact ⟨rfl, HY.out _ HB2.out⟩
  have h4' : ¬ (400 : Int) < (v : Int) := by omega
  clear h4
  go_enter Try.func4, Try.ntmps4
  go_wp2_with fail
  rw [HW.out]
  refine (CM.out _ HB0.out).mono ?_
  rintro e w1 ⟨rfl, hb⟩
  have HB1 := Lib.hid (HB0.out.trans (hb.mono HB0.out.size))
  have HX1 := Lib.hid (HX0.out.below hb HX0.out.lt)
  clear hb HX0 HW
  clear c0 c1 c2 c3 c4 c5 c6 c7 c8 c9
  have c0 := HX1.out.cell 0
  have c1 := HX1.out.cell 1
  have c2 := HX1.out.cell 2
  have c3 := HX1.out.cell 3
  have c4 := HX1.out.cell 4
  have c5 := HX1.out.cell 5
  have c6 := HX1.out.cell 6
  have c7 := HX1.out.cell 7
  have c8 := HX1.out.cell 8
  have c9 := HX1.out.cell 9
  simp at c0 c1 c2 c3 c4 c5 c6 c7 c8 c9
  go_wp2_with fail
  refine (CR.out _ HB1.out).mono ?_
  rintro e w2 ⟨o, rfl, A2, k2, rfl, ho, hb⟩
  have HB2 := Lib.hid (HB1.out.trans (hb.mono HB1.out.size))
  have HX2 := Lib.hid (HX1.out.below hb HX1.out.lt)
  have HN2 := Lib.hid (NodesAt.of ⟨A2, k2, rfl, ho, hb⟩ hal HLN.out)
  obtain ⟨g5, rfl, -, -⟩ : ∃ g, A2 = some ⟨g, 0, none⟩ ∧ w1.heap.size ≤ g ∧ g < w2.heap.size := by
    obtain ⟨m, hm⟩ : ∃ m, L.length = m + 1 := ⟨L.length - 1, by omega⟩
    rw [hm] at ho
    exact own_some ho
  clear ho
  clear hb HX1
  clear c0 c1 c2 c3 c4 c5 c6 c7 c8 c9
  have c0 := HX2.out.cell 0
  have c1 := HX2.out.cell 1
  have c2 := HX2.out.cell 2
  have c3 := HX2.out.cell 3
  have c4 := HX2.out.cell 4
  have c5 := HX2.out.cell 5
  have c6 := HX2.out.cell 6
  have c7 := HX2.out.cell 7
  have c8 := HX2.out.cell 8
  have c9 := HX2.out.cell 9
  simp at c0 c1 c2 c3 c4 c5 c6 c7 c8 c9
  have q5 : ((L.length : Int) + 5) ≤ 9223372036854775807 := by omega
  go_wp2_with fail
  refine (CN.out _ HB2.out).mono ?_
  rintro e w3 ⟨o, rfl, A3, k3, rfl, ho, hb⟩
  have HB3 := Lib.hid (HB2.out.trans (hb.mono HB2.out.size))
  have HX3 := Lib.hid (HX2.out.below hb HX2.out.lt)
  have HN3 := Lib.hid (HN2.out.later hb)
  have HP3 := Lib.hid (NodesAt.of ⟨A3, k3, rfl, ho, hb⟩ hal HLN.out)
  clear ho HN2
  clear hb HX2
  clear c0 c1 c2 c3 c4 c5 c6 c7 c8 c9
  have c0 := HX3.out.cell 0
  have c1 := HX3.out.cell 1
  have c2 := HX3.out.cell 2
  have c3 := HX3.out.cell 3
  have c4 := HX3.out.cell 4
  have c5 := HX3.out.cell 5
  have c6 := HX3.out.cell 6
  have c7 := HX3.out.cell 7
  have c8 := HX3.out.cell 8
  have c9 := HX3.out.cell 9
  simp at c0 c1 c2 c3 c4 c5 c6 c7 c8 c9
  go_wp2_with fail
  refine (CQ.out _ HB3.out).mono ?_
  rintro e w4 ⟨o, rfl, A4, k4, rfl, ho, hb⟩
  have HB4 := Lib.hid (HB3.out.trans (hb.mono HB3.out.size))
  have HX4 := Lib.hid (HX3.out.below hb HX3.out.lt)
  have HN4 := Lib.hid (HN3.out.later hb)
  have HP4 := Lib.hid (HP3.out.later hb)
  have HQ4 := Lib.hid (NodesAt.of (l := L.take q.toNat) (by rw [HR.out]; exact ⟨A4, k4, rfl, ho, hb⟩) (by rw [List.length_take]; omega) (fun x hx => HLN.out x (List.mem_of_mem_take hx)))
  clear ho HN3 HP3
  clear hb HX3
  clear c0 c1 c2 c3 c4 c5 c6 c7 c8 c9
  have c0 := HX4.out.cell 0
  have c1 := HX4.out.cell 1
  have c2 := HX4.out.cell 2
  have c3 := HX4.out.cell 3
  have c4 := HX4.out.cell 4
  have c5 := HX4.out.cell 5
  have c6 := HX4.out.cell 6
  have c7 := HX4.out.cell 7
  have c8 := HX4.out.cell 8
  have c9 := HX4.out.cell 9
  simp at c0 c1 c2 c3 c4 c5 c6 c7 c8 c9
  have q6 : ((L.length : Int) != (L.length : Int)) = false := by simp
  go_wp2_with fail
  refine (CS.out _ HB4.out L _ _ (List.prefix_refl _) HP4.out HN4.out).mono ?_
  rintro e w5 ⟨rfl, hb⟩
  have HB5 := Lib.hid (HB4.out.trans (hb.mono HB4.out.size))
  have HX5 := Lib.hid (HX4.out.below hb HX4.out.lt)
  have HN5 := Lib.hid (HN4.out.later hb)
  have HQ5 := Lib.hid (HQ4.out.later hb)
  clear hb HX4 HN4 HP4 HQ4
  clear c0 c1 c2 c3 c4 c5 c6 c7 c8 c9
  have hkc : L.length ≤ k2 := by obtain ⟨a', c', e, -, h1, -⟩ := HN5.out.lies; cases e; exact h1
  have hkm : k2 ≤ 9223372036854775807 := by obtain ⟨a', c', e, -, -, h1, -⟩ := HN5.out.lies; cases e; unfold maxLen at h1; omega
  have hrl : r ≤ L.length := by have h1 := HTK.out; have h2 := HR.out; omega
  have hif : (if (L.length : Int) < q then (L.length : Int) else q) = (r : Int) := by have h1 := HTK.out; have h2 := HR.out; split <;> omega
  have HNT : Hid (NodesAt w5 (.slice (some ⟨g5, 0, none⟩) r k2) (L.take q.toNat)) := Lib.hid (by
    have h1 := RowAt.take HN5.out hrl
    have h2 : L.take r = L.take q.toNat := by
      have h1 := HTK.out; have h2 := HR.out
      by_cases h3 : q.toNat ≤ L.length
      · rw [show r = q.toNat by omega]
      · rw [List.take_of_length_le (by omega), List.take_of_length_le (by omega)]
    rw [h2] at h1
    exact h1)
  go_wp2_with fail
  refine (CS.out _ HB5.out (L.take q.toNat) _ _ (List.take_prefix _ _) HQ5.out HNT.out).mono ?_
  rintro e w6 ⟨rfl, hb⟩
  have HB := Lib.hid (HB5.out.trans (hb.mono HB5.out.size))
  have HCL : Hid (∀ w', Below W.heap.size W w' → w'.cell? ⟨w.heap.size, 0, none⟩ = some (.int .i64 nk) ∧ w'.cell? ⟨w.heap.size, 1, none⟩ = some (.string T) ∧ w'.cell? ⟨w.heap.size, 2, none⟩ = some (.bool b1) ∧ w'.cell? ⟨w.heap.size, 3, none⟩ = some (.bool b2) ∧ w'.cell? ⟨w.heap.size, 4, none⟩ = some (.slice oa os.length oc) ∧ w'.cell? ⟨w.heap.size, 5, none⟩ = some (.slice aa gs.length ac) ∧ w'.cell? ⟨w.heap.size, 6, none⟩ = some (.slice wa ws.length wc) ∧ w'.cell? ⟨w.heap.size, 7, none⟩ = some (.slice ra rs.length rc) ∧ w'.cell? ⟨w.heap.size, 8, none⟩ = some (.slice ma ms.length mc) ∧ w'.cell? ⟨w.heap.size, 9, none⟩ = some (.slice ka ks.length kc)) := Lib.hid (fun y hy => by
    have h := HX0'.out.below hy HX0'.out.lt
    have c0 := h.cell 0
    have c1 := h.cell 1
    have c2 := h.cell 2
    have c3 := h.cell 3
    have c4 := h.cell 4
    have c5 := h.cell 5
    have c6 := h.cell 6
    have c7 := h.cell 7
    have c8 := h.cell 8
    have c9 := h.cell 9
    simp at c0 c1 c2 c3 c4 c5 c6 c7 c8 c9
    exact ⟨c0, c1, c2, c3, c4, c5, c6, c7, c8, c9⟩)
  obtain ⟨c0, c1, c2, c3, c4, c5, c6, c7, c8, c9⟩ := HCL.out _ HB.out
  clear hb HX5 HX0' HN5 HQ5 HNT hif hrl hkc hkm HR HTK q6 q5 HB1 HB2 HB3 HB4 HB5 CM CR CN CQ CS
  have hwn : (wordsOf t).length ≤ 1048576 := by have := HWL.out; omega
  generalize hws : wordsOf t = X at *
  clear hws
  go_wp2_with fail
  go_cut [8, 9] (fun u z wx => ∃ A8 k8 A9 k9, u = .slice A8 X.length k8 ∧ z = .slice A9 X.length k9 ∧ Hid (wx.ownsRow W.heap.size 41 1 (.slice A8 X.length k8) X.length (X.flatMap Tr.cs)) ∧ Hid (wx.ownsRow W.heap.size 41 1 (.slice A9 X.length k9) X.length (X.flatMap Tr.cs)) ∧ Hid (Below W.heap.size W wx))
  case first =>
    go_region_held3 (fun w' => w'.cell? ⟨w.heap.size, 0, none⟩ = some (.int .i64 nk) ∧ w'.cell? ⟨w.heap.size, 1, none⟩ = some (.string T) ∧ w'.cell? ⟨w.heap.size, 2, none⟩ = some (.bool b1) ∧ w'.cell? ⟨w.heap.size, 3, none⟩ = some (.bool b2) ∧ w'.cell? ⟨w.heap.size, 4, none⟩ = some (.slice oa os.length oc) ∧ w'.cell? ⟨w.heap.size, 5, none⟩ = some (.slice aa gs.length ac) ∧ w'.cell? ⟨w.heap.size, 6, none⟩ = some (.slice wa ws.length wc) ∧ w'.cell? ⟨w.heap.size, 7, none⟩ = some (.slice ra rs.length rc) ∧ w'.cell? ⟨w.heap.size, 8, none⟩ = some (.slice ma ms.length mc) ∧ w'.cell? ⟨w.heap.size, 9, none⟩ = some (.slice ka ks.length kc))
      (first | exact HCL.out _ HB.out | exact HCL.out _ (below_drew HB.out))
      (first
        | (go_at_call 13
           refine (CWP.out _ (by first | exact HB.out | exact below_drew HB.out)).mono ?_
           rintro e wn ⟨o, rfl, A8, k8, rfl, ho8, hb⟩
           have HBn : Hid (Below W.heap.size W wn) := Lib.hid (by first | exact HB.out.trans (hb.mono HB.out.size) | exact (below_drew HB.out).trans (hb.mono HB.out.size))
           have HO8 := Lib.hid (own_base ho8 (by first | exact HB.out.size | exact (below_drew HB.out).size))
           try (have HO9' := Lib.hid (own_below HO9.out hb); clear HO9; have HO9 := HO9'; clear HO9')
           clear HB hb ho8
           have HB := HBn
           clear HBn)
        | (go_at_call 14
           refine (CWR.out _ (by first | exact HB.out | exact below_drew HB.out)).mono ?_
           rintro e wn ⟨o, rfl, A9, k9, rfl, ho9, hb⟩
           have HBn : Hid (Below W.heap.size W wn) := Lib.hid (by first | exact HB.out.trans (hb.mono HB.out.size) | exact (below_drew HB.out).trans (hb.mono HB.out.size))
           have HO9 := Lib.hid (own_base ho9 (by first | exact HB.out.size | exact (below_drew HB.out).size))
           try (have HO8' := Lib.hid (own_below HO8.out hb); clear HO8; have HO8 := HO8'; clear HO8')
           clear HB hb ho9
           have HB := HBn
           clear HBn))
    all_goals go_wp2_with fail
    all_goals go_meet
    all_goals exact ⟨A8, k8, A9, k9, rfl, rfl, HO8, HO9, HB⟩
  case rest =>
    obtain ⟨A8, k8, A9, k9, rfl, rfl, HO8, HO9, HB8⟩ := hcut
    rename World => w8
    have hX : ∀ x ∈ X, x.cs.length = 1 := fun x hx => (HWS.out x hx).1.len
    have HX := Lib.hid hX
    have q5 : ((X.length : Int) != (X.length : Int)) = false := by simp
    clear c0 c1 c2 c3 c4 c5 c6 c7 c8 c9 hX
    go_wp2
    go_loopw [10] (fun i wr => ∃ k : Nat, k ≤ X.length ∧ i = .int .i64 k ∧ Hid (Below w8.heap.size w8 wr)) (fun i _ => X.length - (intOf i).toNat)
    case atStart => exact ⟨0, Nat.zero_le _, rfl, Lib.hid (Below.refl _ _)⟩
    case round =>
      obtain ⟨k, hk, rfl, hS⟩ := hrel
      by_cases hlt : k < X.length
      · obtain ⟨m', hm⟩ : ∃ m, X.length = m + 1 := ⟨X.length - 1, by omega⟩
        obtain ⟨g8, rfl, -, hg8⟩ : ∃ g, A8 = some ⟨g, 0, none⟩ ∧ W.heap.size ≤ g ∧ g < w8.heap.size := by have h1 := HO8.out; rw [hm] at h1; exact own_some h1
        obtain ⟨g9, rfl, -, hg9⟩ : ∃ g, A9 = some ⟨g, 0, none⟩ ∧ W.heap.size ≤ g ∧ g < w8.heap.size := by have h1 := HO9.out; rw [hm] at h1; exact own_some h1
        have hd := own_one HO8.out HX.out k hlt
        have hf := own_one HO9.out HX.out k hlt
        obtain ⟨hp, hpz⟩ := HWS.out X[k] (List.getElem_mem hlt)
        obtain ⟨I, hI1, hI2⟩ : ∃ I : World → Prop, (∀ w', I w' → Below w8.heap.size w8 w') ∧ (∀ w', Below w8.heap.size w8 w' → I w') := ⟨_, fun _ h => h, fun _ h => h⟩
        have hI : I wr.drew := hI2 _ (below_drew hS.out)
        have hne : Nonempty (Wd I) := ⟨⟨_, hI⟩⟩
        have XI := Lib.hid (fun x : Wd I => hI1 _ x.ok)
        clear hm
        generalize X[k] = p at *
        obtain ⟨pa, pc, ps, rfl, hpr, hpk⟩ := hp.word
        have hszp : szL ps ≤ 1048576 := by have := (Tr.mk [.slice pa ps.length pc] [ps]).sz_r 0; have e : (Tr.mk [.slice pa ps.length pc] [ps]).r 0 = ps := rfl; rw [e] at this; omega
        have XS := Lib.hid (fun y : Wd I => wd_call (I := I) (v := .bool true) ((rsame24_any _ ps (Nat.le_refl _) A y.w (.slice pa ps.length pc) (HAY.out y.w (HB8.out.trans ((XI.out y).mono HB8.out.size))) (hpr.later HHA.out (HY.out _ (HB8.out.trans ((XI.out y).mono HB8.out.size)))) (fun x hx => (hpk x hx).later HHA.out (HY.out _ (HB8.out.trans ((XI.out y).mono HB8.out.size))))).mono fun e w' hh => ⟨hh.1, hI2 _ ((XI.out y).trans (hh.2.mono (XI.out y).size))⟩))
        simp only [Tr.cs, List.getElem?_cons_zero] at hd hf
        have d0 := fun y : Wd I => ((XI.out y).cell (p := ⟨g8, k, none⟩) hg8).trans hd
        have f0 := fun y : Wd I => ((XI.out y).cell (p := ⟨g9, k, none⟩) hg9).trans hf
        clear hp hd hf hpr hpk hpz hszp hI1 hI2
        go_wp2_with fail
        refine wp_region_wd I (by kernel_rfl) (by kernel_rfl) hI ?_
        repeat (go_big_quiet_step (first | (go_at_call 15; with_reducible exact XS.out _)))
        refine wpQuiet_nil ?_
        intro _ hw'
        obtain ⟨x, rfl⟩ := hw'
        have HB4 := Lib.hid (XI.out x)
        clear d0 f0
        go_wp2
        go_roundw
        case rel => exact ⟨k + 1, by omega, by go_num, HB4⟩
        case measure => simp [intOf]; omega
      · obtain rfl : k = X.length := by omega
        have HB : Hid (Below W.heap.size W wr) := Lib.hid (HB8.out.trans (hS.out.mono HB8.out.size))
        obtain ⟨c0, c1, c2, c3, c4, c5, c6, c7, c8, c9⟩ := HCL.out _ HB.out
        have q8 : ((d : Int) == (d : Int)) = true := by simp
        clear hS HO8 HO9 HB8 CWP CWR HWS
        go_wp2_with fail
        go_region_held3 (fun w' => w'.cell? ⟨w.heap.size, 0, none⟩ = some (.int .i64 nk) ∧ w'.cell? ⟨w.heap.size, 1, none⟩ = some (.string T) ∧ w'.cell? ⟨w.heap.size, 2, none⟩ = some (.bool b1) ∧ w'.cell? ⟨w.heap.size, 3, none⟩ = some (.bool b2) ∧ w'.cell? ⟨w.heap.size, 4, none⟩ = some (.slice oa os.length oc) ∧ w'.cell? ⟨w.heap.size, 5, none⟩ = some (.slice aa gs.length ac) ∧ w'.cell? ⟨w.heap.size, 6, none⟩ = some (.slice wa ws.length wc) ∧ w'.cell? ⟨w.heap.size, 7, none⟩ = some (.slice ra rs.length rc) ∧ w'.cell? ⟨w.heap.size, 8, none⟩ = some (.slice ma ms.length mc) ∧ w'.cell? ⟨w.heap.size, 9, none⟩ = some (.slice ka ks.length kc))
      (first | exact HCL.out _ HB.out | exact HCL.out _ (below_drew HB.out))
      (first
        | (go_at_call 10
           refine (C1P.out _ (by first | exact HB.out | exact below_drew HB.out)).mono ?_
           rintro e wn ⟨o, rfl, hp, hb⟩
           have HBn : Hid (Below W.heap.size W wn) := Lib.hid (by first | exact HB.out.trans (hb.mono HB.out.size) | exact (below_drew HB.out).trans (hb.mono HB.out.size))
           have P1 := Lib.hid hp
           try (have PP := Lib.hid (P2.out.later hb); clear P2; have P2 := PP; clear PP)
           clear HB hb hp
           have HB := HBn
           clear HBn)
        | (go_at_call 17
           refine (C1R.out _ (by first | exact HB.out | exact below_drew HB.out)).mono ?_
           rintro e wn ⟨o, rfl, hp, hb⟩
           have HBn : Hid (Below W.heap.size W wn) := Lib.hid (by first | exact HB.out.trans (hb.mono HB.out.size) | exact (below_drew HB.out).trans (hb.mono HB.out.size))
           have P2 := Lib.hid hp
           try (have PP := Lib.hid (P1.out.later hb); clear P1; have P1 := PP; clear PP)
           clear HB hb hp
           have HB := HBn
           clear HBn)
        | (go_at_call 18
           refine (C2P.out _ (by first | exact HB.out | exact below_drew HB.out)).mono ?_
           rintro e wn ⟨o, rfl, hp, hb⟩
           have HBn : Hid (Below W.heap.size W wn) := Lib.hid (by first | exact HB.out.trans (hb.mono HB.out.size) | exact (below_drew HB.out).trans (hb.mono HB.out.size))
           have P1 := Lib.hid hp
           try (have PP := Lib.hid (P2.out.later hb); clear P2; have P2 := PP; clear PP)
           clear HB hb hp
           have HB := HBn
           clear HBn)
        | (go_at_call 19
           refine (C2R.out _ (by first | exact HB.out | exact below_drew HB.out)).mono ?_
           rintro e wn ⟨o, rfl, hp, hb⟩
           have HBn : Hid (Below W.heap.size W wn) := Lib.hid (by first | exact HB.out.trans (hb.mono HB.out.size) | exact (below_drew HB.out).trans (hb.mono HB.out.size))
           have P2 := Lib.hid hp
           try (have PP := Lib.hid (P1.out.later hb); clear P1; have P1 := PP; clear PP)
           clear HB hb hp
           have HB := HBn
           clear HBn)
        | (go_at_call 20
           refine (C3P.out _ (by first | exact HB.out | exact below_drew HB.out)).mono ?_
           rintro e wn ⟨o, rfl, hp, hb⟩
           have HBn : Hid (Below W.heap.size W wn) := Lib.hid (by first | exact HB.out.trans (hb.mono HB.out.size) | exact (below_drew HB.out).trans (hb.mono HB.out.size))
           have P1 := Lib.hid hp
           try (have PP := Lib.hid (P2.out.later hb); clear P2; have P2 := PP; clear PP)
           clear HB hb hp
           have HB := HBn
           clear HBn)
        | (go_at_call 21
           refine (C3R.out _ (by first | exact HB.out | exact below_drew HB.out)).mono ?_
           rintro e wn ⟨o, rfl, hp, hb⟩
           have HBn : Hid (Below W.heap.size W wn) := Lib.hid (by first | exact HB.out.trans (hb.mono HB.out.size) | exact (below_drew HB.out).trans (hb.mono HB.out.size))
           have P2 := Lib.hid hp
           try (have PP := Lib.hid (P1.out.later hb); clear P1; have P1 := PP; clear PP)
           clear HB hb hp
           have HB := HBn
           clear HBn)
        | (go_at_call 22
           refine (C4P.out _ (by first | exact HB.out | exact below_drew HB.out)).mono ?_
           rintro e wn ⟨o, rfl, hp, hb⟩
           have HBn : Hid (Below W.heap.size W wn) := Lib.hid (by first | exact HB.out.trans (hb.mono HB.out.size) | exact (below_drew HB.out).trans (hb.mono HB.out.size))
           have P1 := Lib.hid hp
           try (have PP := Lib.hid (P2.out.later hb); clear P2; have P2 := PP; clear PP)
           clear HB hb hp
           have HB := HBn
           clear HBn)
        | (go_at_call 23
           refine (C4R.out _ (by first | exact HB.out | exact below_drew HB.out)).mono ?_
           rintro e wn ⟨o, rfl, hp, hb⟩
           have HBn : Hid (Below W.heap.size W wn) := Lib.hid (by first | exact HB.out.trans (hb.mono HB.out.size) | exact (below_drew HB.out).trans (hb.mono HB.out.size))
           have P2 := Lib.hid hp
           try (have PP := Lib.hid (P1.out.later hb); clear P1; have P1 := PP; clear PP)
           clear HB hb hp
           have HB := HBn
           clear HBn)
        | (go_at_call 9
           refine (CDP.out _ (by first | exact HB.out | exact below_drew HB.out)).mono ?_
           rintro e wn ⟨rfl, hb⟩
           have HBn : Hid (Below W.heap.size W wn) := Lib.hid (by first | exact HB.out.trans (hb.mono HB.out.size) | exact (below_drew HB.out).trans (hb.mono HB.out.size))
           clear HB hb
           have HB := HBn
           clear HBn)
        | (go_at_call 24
           refine (CDR.out _ (by first | exact HB.out | exact below_drew HB.out)).mono ?_
           rintro e wn ⟨rfl, hb⟩
           have HBn : Hid (Below W.heap.size W wn) := Lib.hid (by first | exact HB.out.trans (hb.mono HB.out.size) | exact (below_drew HB.out).trans (hb.mono HB.out.size))
           clear HB hb
           have HB := HBn
           clear HBn)
        | (go_at_call 6
           refine (CA.out _ (by first | exact HB.out | exact below_drew HB.out)).mono ?_
           rintro e wn ⟨rfl, hb⟩
           have HBn : Hid (Below W.heap.size W wn) := Lib.hid (by first | exact HB.out.trans (hb.mono HB.out.size) | exact (below_drew HB.out).trans (hb.mono HB.out.size))
           clear HB hb
           have HB := HBn
           clear HBn)
        | (go_at_call 16
           refine (same4_str P1.out P2.out).mono ?_
           rintro e wn ⟨rfl, hb⟩
           have HBn : Hid (Below W.heap.size W wn) := Lib.hid (HB.out.trans (hb.mono HB.out.size))
           clear HB hb P1 P2
           have HB := HBn
           clear HBn))
        all_goals go_wp2
        all_goals go_ret
        all_goals exact ⟨rfl, HY.out _ HB.out⟩
end Go.Proofs.Ytpjcmhlgdgadjaa
