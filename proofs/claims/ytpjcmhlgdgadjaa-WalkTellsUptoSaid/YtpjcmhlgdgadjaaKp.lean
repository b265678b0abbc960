/- How many nodes there are. How many nodes there are: Count. -/
import Derived.Test.YtpjcmhlgdgadjaaKo
import Derived.Test.YtpjcmhlgdgadjaaKa
namespace Go.Proofs.Ytpjcmhlgdgadjaa
open Go.RowKit
set_option linter.unusedVariables false
/-- How many nodes are in nodes, in words, in arms. -/
def cntL (l : List Tr) : Nat := (allL l).length
def cntW (l : List Tr) : Nat := cntL (l.flatMap (fun w => inParts (w.r 0)))
def cntA (l : List Tr) : Nat := cntW (l.flatMap (·.r 0)) + cntL (l.map Tr.body)
def rwrd (r : Tr) : Tr := wordOf (r.c 2) (r.r 2)
def cntR (l : List Tr) : Nat := cntW (l.map rwrd)
theorem cntL_nil : cntL [] = 0 := by unfold cntL; rw [allL_nil]; rfl
theorem cntL_app (a b : List Tr) : cntL (a ++ b) = cntL a + cntL b := by unfold cntL; rw [allL_append, List.length_append]
theorem cntL_le (l : List Tr) : cntL l ≤ szL l := allL_sz _ l (Nat.le_refl _)
theorem cntW_nil : cntW [] = 0 := cntL_nil
theorem cntW_app (a b : List Tr) : cntW (a ++ b) = cntW a + cntW b := by unfold cntW; rw [List.flatMap_append, cntL_app]
theorem cntW_le (l : List Tr) : cntW l ≤ szL l := Nat.le_trans (cntL_le _) (szL_flat1 sz_word l)
theorem cntW_one (x : Tr) : cntW [x] = cntL (inParts (x.r 0)) := by unfold cntW; simp
theorem cntR_nil : cntR [] = 0 := cntL_nil
theorem cntR_app (a b : List Tr) : cntR (a ++ b) = cntR a + cntR b := by unfold cntR; rw [List.map_append, cntW_app]
theorem cntA_nil : cntA [] = 0 := by unfold cntA; simp [cntW, cntL_nil]
theorem cntA_app (a b : List Tr) : cntA (a ++ b) = cntA a + cntA b := by
  unfold cntA
  rw [List.map_append, List.flatMap_append, cntW_app, cntL_app]
  omega
theorem cntA_one (x : Tr) : cntA [x] = cntW (x.r 0) + cntL [x.body] := by unfold cntA; simp
theorem cnt_take {f : List Tr → Nat} (h : ∀ a b, f (a ++ b) = f a + f b) (l : List Tr) (k : Nat) : f (l.take k) ≤ f l := by
  conv => rhs; rw [← List.take_append_drop k l, h]
  omega
theorem cnt_snoc {f : List Tr → Nat} (h : ∀ a b, f (a ++ b) = f a + f b) {l : List Tr} {k : Nat} (hk : k < l.length) : f (l.take (k + 1)) = f (l.take k) + f [l[k]] := by
  rw [List.take_succ_eq_append_getElem hk, h]
theorem cnt_node (t : Tr) : cntL [t] = 1 + cntL (t.r 9) + cntW (t.r 5) + cntW (t.r 6) + cntR (t.r 7) + cntA (t.r 8) := by
  have h1 : cntL [t] = 1 + cntL (below t) := by unfold cntL; rw [allL_cons, allL_nil, List.append_nil, List.length_cons]; omega
  have h2 : cntL (below t) = cntW (own t) + cntL ((t.r 8).map Tr.body) + cntL (t.r 9) := by unfold below; rw [cntL_app, cntL_app]; rfl
  have h3 : cntW (own t) = cntW (t.r 5) + cntW (t.r 6) + cntR (t.r 7) + cntW ((t.r 8).flatMap (·.r 0)) := by unfold own; rw [cntW_app, cntW_app, cntW_app]; rfl
  unfold cntA
  omega
theorem szL_in {f : Tr → List Tr} {x : Tr} {l : List Tr} (h : x ∈ l) : szL (f x) ≤ szL (l.flatMap f) := by
  induction l with
  | nil => cases h
  | cons a l ih =>
    rw [List.flatMap_cons, szL_append]
    rcases List.mem_cons.1 h with rfl | h
    · omega
    · have := ih h; omega
/-- Count answers for nodes of so many at most. -/
def CountOK (N : Nat) : Prop := ∀ t : Tr, t.sz ≤ N → t.sz ≤ 1048576 → ∀ (A : Nat → Prop) (w : World), (∀ b, A b → b < w.heap.size) → Lies A w .node t →
    Calls Try.prog 7 #[.agg t.cs.toArray] w fun e w' => e = .returned (.int .i64 (cntL [t])) ∧ Below w.heap.size w w'
set_option maxRecDepth 100000 in
set_option maxHeartbeats 3200000 in
theorem countAll_of {N : Nat} (ih : CountOK N) {A : Nat → Prop} {w : World} {a : Option Addr} {c : Nat} {l : List Tr} (hN : szL l ≤ N) (hsz : szL l ≤ 1048576) (hA : ∀ b, A b → b < w.heap.size) (hr : RowAt A w 10 (.slice a l.length c) l) (hl : ∀ x ∈ l, Lies A w .node x) :
    Calls Try.prog 28 #[.slice a l.length c] w fun e w' => e = .returned (.int .i64 (cntL l)) ∧ Below w.heap.size w w' := by
  have HIH : Hid (∀ x ∈ l, ∀ y, Below w.heap.size w y → Calls Try.prog 7 #[.agg x.cs.toArray] y fun e w' => e = .returned (.int .i64 (cntL [x])) ∧ Below y.heap.size y w') := Lib.hid (fun x hx y hy =>
    ih x (Nat.le_trans (szL_mem hx) hN) (Nat.le_trans (szL_mem hx) hsz) A y (fun b hb => by have := hA b hb; have := hy.size; omega) ((hl x hx).later hA hy))
  have HR := Lib.hid hr
  have HL := Lib.hid hl
  have hlen : l.length ≤ 1048576 := Nat.le_trans (szL_len l) hsz
  have HPL : Hid (∀ k, cntL (l.take k) ≤ 1048576) := Lib.hid (fun k => Nat.le_trans (cnt_take cntL_app l k) (Nat.le_trans (cntL_le l) hsz))
  clear hr hl hA ih hN hsz
  go_enter Try.func28, Try.ntmps28
  go_wp2
  go_loopw [3, 4] (fun d i wr => ∃ k : Nat, k ≤ l.length ∧ i = .int .i64 k ∧ d = .int .i64 (cntL (l.take k)) ∧ Hid (Below w.heap.size w wr)) (fun _ i _ => l.length - (intOf i).toNat)
  case atStart => exact ⟨0, Nat.zero_le _, rfl, by rw [List.take_zero, cntL_nil]; rfl, Lib.hid (Below.refl _ _)⟩
  case round =>
    obtain ⟨k, hk, rfl, rfl, hS⟩ := hrel
    by_cases hlt : k < l.length
    · have hx := List.getElem?_eq_getElem hlt
      obtain ⟨b, off, rfl, hAb, hb0, hcell⟩ := cells_at HR.out hx
      have hp := HL.out l[k] (List.getElem_mem hlt)
      have hsn := cnt_snoc cntL_app hlt
      have hpl := HPL.out (k + 1)
      rw [hsn] at hpl
      have HSN := Lib.hid hsn
      have hbo := hS.out
      have hwr := hbo.size
      have hcall := HIH.out l[k] (List.getElem_mem hlt) wr hbo
      clear hsn hx
      generalize l[k] = p at *
      obtain ⟨yk, ys, y1, y2, yoa, yon, yoc, yaa, yan, yac, ywa, ywn, ywc, yra, yrn, yrc, yma, ymn, ymc, yka, ykn, ykc, hpc⟩ := hp.node10
      have e0 := (hbo.cell (p := ⟨b, off + k * 10, none⟩) hb0).trans (hcell 0 (by omega))
      have e1 := (hbo.cell (p := ⟨b, off + k * 10 + 1, none⟩) hb0).trans (hcell 1 (by omega))
      have e2 := (hbo.cell (p := ⟨b, off + k * 10 + 2, none⟩) hb0).trans (hcell 2 (by omega))
      have e3 := (hbo.cell (p := ⟨b, off + k * 10 + 3, none⟩) hb0).trans (hcell 3 (by omega))
      have e4 := (hbo.cell (p := ⟨b, off + k * 10 + 4, none⟩) hb0).trans (hcell 4 (by omega))
      have e5 := (hbo.cell (p := ⟨b, off + k * 10 + 5, none⟩) hb0).trans (hcell 5 (by omega))
      have e6 := (hbo.cell (p := ⟨b, off + k * 10 + 6, none⟩) hb0).trans (hcell 6 (by omega))
      have e7 := (hbo.cell (p := ⟨b, off + k * 10 + 7, none⟩) hb0).trans (hcell 7 (by omega))
      have e8 := (hbo.cell (p := ⟨b, off + k * 10 + 8, none⟩) hb0).trans (hcell 8 (by omega))
      have e9 := (hbo.cell (p := ⟨b, off + k * 10 + 9, none⟩) hb0).trans (hcell 9 (by omega))
      rw [hpc] at e0 e1 e2 e3 e4 e5 e6 e7 e8 e9 hcall
      simp only [List.getElem?_cons_zero, List.getElem?_cons_succ] at e0 e1 e2 e3 e4 e5 e6 e7 e8 e9
      have HCALL := Lib.hid hcall
      generalize hP : cntL (l.take k) = n at *
      generalize hD : cntL [p] = m at *
      clear hp hcell hcall hpc hbo hP hD hAb
      go_wp2_with (go_at_call 7; refine HCALL.out.mono ?_; rintro e w3 ⟨rfl, hb3⟩
                   have HB3 := Lib.hid (hS.out.trans (hb3.mono hwr))
                   clear hb3)
      go_roundw
      case rel => exact ⟨k + 1, by omega, by go_num, by rw [HSN.out]; go_num, HB3⟩
      case measure => simp [intOf]; omega
    · obtain rfl : k = l.length := by omega
      rw [List.take_length]
      go_wp2
      go_ret
      exact ⟨rfl, hS.out⟩
set_option maxRecDepth 100000 in
set_option maxHeartbeats 3200000 in
theorem countWords_of {N : Nat} (ih : CountOK N) {A : Nat → Prop} {w : World} {a : Option Addr} {c : Nat} {l : List Tr} (hN : szL l ≤ N) (hsz : szL l ≤ 1048576) (hA : ∀ b, A b → b < w.heap.size) (hr : RowAt A w 1 (.slice a l.length c) l) (hl : ∀ x ∈ l, Lies A w .word x) :
    Calls Try.prog 29 #[.slice a l.length c] w fun e w' => e = .returned (.int .i64 (cntW l)) ∧ Below w.heap.size w w' := by
  have HR := Lib.hid hr
  have HL := Lib.hid hl
  have HA := Lib.hid hA
  have hlen : l.length ≤ 1048576 := Nat.le_trans (szL_len l) hsz
  have HPL : Hid (∀ k, cntW (l.take k) ≤ 1048576) := Lib.hid (fun k => Nat.le_trans (cnt_take cntW_app l k) (Nat.le_trans (cntW_le l) hsz))
  have HSZ : Hid (∀ x ∈ l, szL (inParts (x.r 0)) ≤ N ∧ szL (inParts (x.r 0)) ≤ 1048576 ∧ szL (x.r 0) ≤ 1048576) := Lib.hid (fun x hx => by
    have h1 := szL_mem hx
    have h2 := sz_word x
    have h3 := x.sz_r 0
    omega)
  clear hr hl hA
  go_enter Try.func29, Try.ntmps29
  go_wp2
  go_loopw [3, 4] (fun d i wr => ∃ k : Nat, k ≤ l.length ∧ i = .int .i64 k ∧ d = .int .i64 (cntW (l.take k)) ∧ Hid (Below w.heap.size w wr)) (fun _ i _ => l.length - (intOf i).toNat)
  case atStart => exact ⟨0, Nat.zero_le _, rfl, by rw [List.take_zero, cntW_nil]; rfl, Lib.hid (Below.refl _ _)⟩
  case round =>
    obtain ⟨k, hk, rfl, rfl, hS⟩ := hrel
    by_cases hlt : k < l.length
    · have hx := List.getElem?_eq_getElem hlt
      obtain ⟨b, off, rfl, hAb, hb0, hcell⟩ := cells_at HR.out hx
      have hp := HL.out l[k] (List.getElem_mem hlt)
      have hsn := cnt_snoc cntW_app hlt
      have hpl := HPL.out (k + 1)
      rw [hsn] at hpl
      obtain ⟨hs1, hs2, hs3⟩ := HSZ.out l[k] (List.getElem_mem hlt)
      rw [cntW_one] at hsn hpl
      have HSN := Lib.hid hsn
      have hbo := hS.out
      have hwr := hbo.size
      clear hsn hx
      generalize l[k] = p at *
      have e0 := (hbo.cell (p := ⟨b, off + k, none⟩) hb0).trans (by simpa using hcell 0 (by omega))
      obtain ⟨pa, pc, ps, rfl, hpr, hpk⟩ := hp.word
      have hps : (Tr.mk [.slice pa ps.length pc] [ps]).r 0 = ps := rfl
      rw [hps] at hs1 hs2 hs3 HSN hpl
      simp only [Tr.cs, List.getElem?_cons_zero] at e0
      have hip : inParts ps = (cmdsL ps).flatMap (·.r 0) := rfl
      rw [hip] at HSN hs1 hs2 hpl
      obtain ⟨C, hC⟩ : ∃ C, cmdsL ps = C := ⟨_, rfl⟩
      have HC : Hid (Calls Try.prog 45 #[.slice pa ps.length pc] wr fun e w' => ∃ o, e = .returned o ∧ OutAt 26 1 wr C.length (C.flatMap Tr.cs) o w') := Lib.hid (by
        rw [← hC]
        exact rcmds_any _ ps (Nat.le_refl _) hs3 A wr _ (fun b hb => by have := HA.out b hb; have := hbo.size; omega) (hpr.later HA.out hbo) (fun x hx => (hpk x hx).later HA.out hbo))
      have hcl : C.length ≤ 1048576 := by rw [← hC]; exact Nat.le_trans (cmdsL_len ps) hs3
      have HCL : Hid (∀ x ∈ C, Lies A w .lst x) := Lib.hid (by rw [← hC]; exact cmds_lies _ ps (Nat.le_refl _) hpk)
      rw [hC] at HSN hs1 hs2 hpl
      have HIH : Hid (∀ x ∈ C, ∀ y, Below w.heap.size w y → Calls Try.prog 28 #[x.c 0] y fun e w' => e = .returned (.int .i64 (cntL (x.r 0))) ∧ Below y.heap.size y w') := Lib.hid (fun x hx y hy => by
        have h1 := szL_in (f := (·.r 0)) hx
        obtain ⟨qa, qc, qs, rfl, hqr, hqk⟩ := (HCL.out x hx).lst
        exact countAll_of ih (Nat.le_trans h1 hs1) (Nat.le_trans h1 hs2) (fun b hb => by have := HA.out b hb; have := hy.size; omega) (hqr.later HA.out hy) (fun x hx => (hqk x hx).later HA.out hy))
      have HPJ : Hid (∀ j, cntL ((C.take j).flatMap (·.r 0)) ≤ cntL (C.flatMap (·.r 0))) := Lib.hid (fun j => cnt_take (f := fun l => cntL (l.flatMap (·.r 0))) (fun a b => by simp only [List.flatMap_append, cntL_app]) C j)
      generalize hP : cntW (l.take k) = n at *
      generalize hD : cntL (C.flatMap (·.r 0)) = m at *
      have HD := Lib.hid hD
      clear hC hip hps hp hpr hpk hcell hs1 hs2 hs3 hP hD hAb
      go_wp2_with (go_at_call 45; refine HC.out.mono ?_; rintro e w2 ⟨o2, rfl, A2, c2, rfl, ho2, hb2⟩
                   have HO2 := Lib.hid ho2
                   have HB2 := Lib.hid (hS.out.trans (hb2.mono hwr))
                   clear ho2 hb2)
      clear HC
      go_loopw [3, 6] (fun d i wx => ∃ j : Nat, j ≤ C.length ∧ i = .int .i64 j ∧ d = .int .i64 (n + cntL ((C.take j).flatMap (·.r 0)) : Nat) ∧ Hid (Below w2.heap.size w2 wx)) (fun _ i _ => C.length - (intOf i).toNat)
      case atStart => exact ⟨0, Nat.zero_le _, rfl, by simp [cntL_nil], Lib.hid (Below.refl _ _)⟩
      case round =>
        rename World => wx
        obtain ⟨j, hj, rfl, rfl, hS2⟩ := hrel
        have hz2 := HB2.out.size
        have hzx := hS2.out.size
        by_cases hlt2 : j < C.length
        · obtain ⟨m', hm⟩ : ∃ m, C.length = m + 1 := ⟨C.length - 1, by omega⟩
          obtain ⟨g2, rfl, -, hg2⟩ : ∃ g, A2 = some ⟨g, 0, none⟩ ∧ wr.heap.size ≤ g ∧ g < w2.heap.size := by have h1 := HO2.out; rw [hm] at h1; exact own_some h1
          have e2 := (hS2.out.cell (p := ⟨g2, j, none⟩) hg2).trans (own_one HO2.out (fun x hx => (HCL.out x hx).len) j hlt2)
          have hcall := HIH.out C[j] (List.getElem_mem hlt2) wx (HB2.out.trans (hS2.out.mono hz2))
          have hsn := cnt_snoc (f := fun l => cntL (l.flatMap (·.r 0))) (fun a b => by simp only [List.flatMap_append, cntL_app]) hlt2
          have hone : ∀ x : Tr, [x].flatMap (·.r 0) = x.r 0 := fun x => by simp
          simp only [hone] at hsn
          have hpj := HPJ.out (j + 1)
          rw [hsn] at hpj
          have HSN2 := Lib.hid hsn
          obtain ⟨qa, qc, qs, hq, -, -⟩ := (HCL.out C[j] (List.getElem_mem hlt2)).lst
          clear hsn hone hm
          generalize C[j] = q at *
          subst hq
          simp only [Tr.cs, List.getElem?_cons_zero] at e2
          generalize hP2 : cntL ((C.take j).flatMap (·.r 0)) = n2 at *
          generalize hD2 : cntL ((Tr.mk [.slice qa qs.length qc] [qs]).r 0) = m2 at *
          have HCALL : Hid (Calls Try.prog 28 #[.slice qa qs.length qc] wx fun e w' => e = .returned (.int .i64 m2) ∧ Below wx.heap.size wx w') := Lib.hid hcall
          clear hcall hP2 hD2
          go_wp2_with (go_at_call 28; refine HCALL.out.mono ?_; rintro e w3 ⟨rfl, hb3⟩
                       have HB3 := Lib.hid (hS2.out.trans (hb3.mono hzx))
                       clear hb3)
          go_roundw
          case rel => exact ⟨j + 1, by omega, by go_num, by rw [HSN2.out]; go_num, HB3⟩
          case measure => simp [intOf]; omega
        · obtain rfl : j = C.length := by omega
          rw [List.take_length, HD.out]
          go_wp2
          go_roundw
          case rel => exact ⟨k + 1, by omega, by go_num, by rw [HSN.out], Lib.hid (HB2.out.trans (hS2.out.mono hz2))⟩
          case measure => simp [intOf]; omega
    · obtain rfl : k = l.length := by omega
      rw [List.take_length]
      go_wp2
      go_ret
      exact ⟨rfl, hS.out⟩
end Go.Proofs.Ytpjcmhlgdgadjaa

namespace Go.Proofs.Ytpjcmhlgdgadjaa
open Go.RowKit
set_option linter.unusedVariables false
theorem count_redir {N : Nat} (ih : CountOK N) {A : Nat → Prop} {y : World} {x : Tr} (hN : x.sz ≤ N) (hsz : x.sz ≤ 1048576) (hA : ∀ b, A b → b < y.heap.size) (hl : Lies A y .redir x) :
    Calls Try.prog 29 #[.slice (some ⟨y.heap.size, 0, none⟩) 1 1] (y.alloc (.cells #[x.c 2] 41)) fun e w' => e = .returned (.int .i64 (cntR [x])) ∧ Below y.heap.size y w' := by
  have hb := below_alloc y (.cells #[x.c 2] 41)
  have hlw : Lies A y .word (rwrd x) := .wordOf (hl.row (i := 2) (u := .part) rfl) (hl.kids (i := 2) (u := .part) rfl)
  have hlw' : Lies (fun b => A b ∨ b = y.heap.size) (y.alloc (.cells #[x.c 2] 41)) .word (rwrd x) := hlw.keep (fun b hb => .inl hb) hb.size (fun b hb' => hb.block b (hA b hb'))
  have hs : szL [rwrd x] ≤ x.sz := by
    have := x.sz_r 2
    simp only [szL, rwrd, wordOf, Tr.sz, szR]
    omega
  have hrow : RowAt (fun b => A b ∨ b = y.heap.size) (y.alloc (.cells #[x.c 2] 41)) 1 (.slice (some ⟨y.heap.size, 0, none⟩) 1 1) [rwrd x] := RowAt.own (B := y.heap.size) (e := 41) (own_blk (cs := [x.c 2]) (Blk.new y 41 _) (Nat.le_refl _) rfl) (by simp) (fun z hz => by rw [List.mem_singleton.1 hz]; rfl) (fun b hb => .inr (by simpa [Value.ownBlock] using hb.symm))
  exact (countWords_of ih (l := [rwrd x]) (c := 1) (Nat.le_trans hs hN) (Nat.le_trans hs hsz) (fun b hb' => by
    have h1 := hb.size
    rcases hb' with h | rfl
    · have := hA b h; omega
    · simp) hrow (fun z hz => by rw [List.mem_singleton.1 hz]; exact hlw')).mono fun e w' hh => ⟨hh.1, hb.trans (hh.2.mono hb.size)⟩
set_option maxRecDepth 100000 in
set_option maxHeartbeats 600000 in
theorem count_any (N : Nat) : CountOK N := by
  induction N with
  | zero => intro t ht; have := t.sz_pos; omega
  | succ N ih =>
  intro t hN hsz A w hA hl
  have hcnt := cnt_node t
  have hle := cntL_le [t]
  simp only [szL] at hle
  have hcl := hl.node
  obtain ⟨nk, ns, b1, b2, oa, oc, aa, ac, wa, wc, ra, rc, ma, mc, ka, kc, os, gs, ws, rs, ms, ks, et, q1, -, h5, h6, h7, h8, h9, -, k5, k6, k7, k8, k9⟩ := hcl
  have ecs : t.cs = [.int .i64 nk, .string ns, .bool b1, .bool b2, .slice oa os.length oc, .slice aa gs.length ac, .slice wa ws.length wc, .slice ra rs.length rc, .slice ma ms.length mc, .slice ka ks.length kc] := by rw [et]; rfl
  have e5 : t.r 5 = gs := by rw [et]; rfl
  have e6 : t.r 6 = ws := by rw [et]; rfl
  have e7 : t.r 7 = rs := by rw [et]; rfl
  have e8 : t.r 8 = ms := by rw [et]; rfl
  have e9 : t.r 9 = ks := by rw [et]; rfl
  have s5 := t.sz_r 5
  have s6 := t.sz_r 6
  have s7 := t.sz_r 7
  have s8 := t.sz_r 8
  have s9 := t.sz_r 9
  rw [e5, e6, e7, e8, e9] at hcnt
  rw [e5] at s5
  rw [e6] at s6
  rw [e7] at s7
  rw [e8] at s8
  rw [e9] at s9
  obtain ⟨W, hW⟩ : ∃ W, w.alloc (.cells t.cs.toArray 28) = W := ⟨_, rfl⟩
  have hbW : Below w.heap.size w W := by rw [← hW]; exact below_alloc _ _
  have hxW : Blk W w.heap.size 28 t.cs.toArray := by rw [← hW]; exact Blk.new _ _ _
  have hWs : W.heap.size = w.heap.size + 1 := by rw [← hW]; simp
  have hY : ∀ y, Below W.heap.size W y → Below w.heap.size w y := fun y hy => hbW.trans (hy.mono (by omega))
  have hAy : ∀ y, Below W.heap.size W y → ∀ b, A b → b < y.heap.size := fun y hy b hb => by have := hA b hb; have := hy.size; omega
  have C5 : Hid (∀ y, Below W.heap.size W y → Calls Try.prog 29 #[.slice aa gs.length ac] y fun e w' => e = .returned (.int .i64 (cntW gs)) ∧ Below y.heap.size y w') := Lib.hid (fun y hy => countWords_of ih (by omega) (by omega) (hAy y hy) (h5.later hA (hY y hy)) (fun x hx => (k5 x hx).later hA (hY y hy)))
  have C6 : Hid (∀ y, Below W.heap.size W y → Calls Try.prog 29 #[.slice wa ws.length wc] y fun e w' => e = .returned (.int .i64 (cntW ws)) ∧ Below y.heap.size y w') := Lib.hid (fun y hy => countWords_of ih (by omega) (by omega) (hAy y hy) (h6.later hA (hY y hy)) (fun x hx => (k6 x hx).later hA (hY y hy)))
  have C9 : Hid (∀ y, Below W.heap.size W y → Calls Try.prog 28 #[.slice ka ks.length kc] y fun e w' => e = .returned (.int .i64 (cntL ks)) ∧ Below y.heap.size y w') := Lib.hid (fun y hy => countAll_of ih (by omega) (by omega) (hAy y hy) (h9.later hA (hY y hy)) (fun x hx => (k9 x hx).later hA (hY y hy)))
  have C7 : Hid (∀ x ∈ rs, ∀ y, Below W.heap.size W y → Calls Try.prog 29 #[.slice (some ⟨y.heap.size, 0, none⟩) 1 1] (y.alloc (.cells #[x.c 2] 41)) fun e w' => e = .returned (.int .i64 (cntR [x])) ∧ Below y.heap.size y w') := Lib.hid (fun x hx y hy => by
    have := szL_mem hx
    exact count_redir ih (by omega) (by omega) (hAy y hy) ((k7 x hx).later hA (hY y hy)))
  have C8 : Hid (∀ x ∈ ms, ∀ y, Below W.heap.size W y → Calls Try.prog 29 #[x.c 0] y fun e w' => e = .returned (.int .i64 (cntW (x.r 0))) ∧ Below y.heap.size y w') := Lib.hid (fun x hx y hy => by
    have h1 := szL_mem hx
    have h2 := x.sz_r 0
    have h3 := (k8 x hx).later hA (hY y hy)
    have h4 := h3.row (i := 0) (u := .word) rfl
    have h5 := h3.kids (i := 0) (u := .word) rfl
    obtain ⟨a, c, ha⟩ := h4.form
    rw [ha] at h4 ⊢
    exact countWords_of ih (by omega) (by omega) (hAy y hy) h4 h5)
  have CB : Hid (∀ x ∈ ms, ∀ y, Below W.heap.size W y → Calls Try.prog 7 #[.agg x.body.cs.toArray] y fun e w' => e = .returned (.int .i64 (cntL [x.body])) ∧ Below y.heap.size y w') := Lib.hid (fun x hx y hy => by
    have h1 := szL_mem hx
    have h2 := x.sz_body
    exact ih x.body (by omega) (by omega) A y (hAy y hy) ((k8 x hx).body.later hA (hY y hy)))
  have hrl := h7.len
  have hml := h8.len
  have PR : Hid (∀ k, cntR (rs.take k) ≤ cntR rs) := Lib.hid (cnt_take cntR_app rs)
  have PA : Hid (∀ k, cntA (ms.take k) ≤ cntA ms) := Lib.hid (cnt_take cntA_app ms)
  obtain ⟨T, hT⟩ : ∃ T, cntL [t] = T := ⟨_, rfl⟩
  rw [hT] at hcnt hle ⊢
  rw [ecs] at hxW hW ⊢
  clear et ecs e5 e6 e7 e8 e9 hl hT
  have H7 := Lib.hid h7
  have H8 := Lib.hid h8
  have K7 := Lib.hid k7
  have K8 := Lib.hid k8
  have HA := Lib.hid hA
  have HY := Lib.hid hY
  have HBW := Lib.hid hbW
  have hW2 := Lib.hid hW
  have hwW : w.heap.size < W.heap.size := by omega
  have c5 := hxW.cell 5
  have c6 := hxW.cell 6
  have c7 := hxW.cell 7
  have c8 := hxW.cell 8
  have c9 := hxW.cell 9
  simp at c5 c6 c7 c8 c9
  generalize hn9 : cntL ks = n9 at *
  generalize hn5 : cntW gs = n5 at *
  generalize hn6 : cntW ws = n6 at *
  generalize hn7 : cntR rs = n7 at *
  generalize hn8 : cntA ms = n8 at *
  have N7 := Lib.hid hn7
  have N8 := Lib.hid hn8
  obtain ⟨I, hI1, hI2⟩ : ∃ I : World → Prop, (∀ w', I w' → Below W.heap.size W w') ∧ (∀ w', Below W.heap.size W w' → I w') := ⟨_, fun _ h => h, fun _ h => h⟩
  have hI : I W.drew := hI2 _ ⟨rfl, rfl, rfl, Nat.le_refl _, fun _ _ => rfl⟩
  have hne : Nonempty (Wd I) := ⟨⟨_, hI⟩⟩
  have XI := Lib.hid (fun x : Wd I => hI1 _ x.ok)
  have XJ := Lib.hid hI2
  have g5 := fun y : Wd I => ((XI.out y).cell (p := ⟨w.heap.size, 5, none⟩) hwW).trans c5
  have g6 := fun y : Wd I => ((XI.out y).cell (p := ⟨w.heap.size, 6, none⟩) hwW).trans c6
  have g9 := fun y : Wd I => ((XI.out y).cell (p := ⟨w.heap.size, 9, none⟩) hwW).trans c9
  have X5 := Lib.hid (fun y : Wd I => wd_call (I := I) (v := .int .i64 n5) ((C5.out y.w (XI.out y)).mono fun e w' hh => ⟨hh.1, XJ.out _ ((XI.out y).trans (hh.2.mono (XI.out y).size))⟩))
  have X6 := Lib.hid (fun y : Wd I => wd_call (I := I) (v := .int .i64 n6) ((C6.out y.w (XI.out y)).mono fun e w' hh => ⟨hh.1, XJ.out _ ((XI.out y).trans (hh.2.mono (XI.out y).size))⟩))
  have X9 := Lib.hid (fun y : Wd I => wd_call (I := I) (v := .int .i64 n9) ((C9.out y.w (XI.out y)).mono fun e w' hh => ⟨hh.1, XJ.out _ ((XI.out y).trans (hh.2.mono (XI.out y).size))⟩))
  have hbd : 1 + n9 + n5 + n6 + n7 + n8 ≤ 1048576 := by omega
  have HCNT := Lib.hid hcnt
  clear hcnt hWs hle
  clear h5 h6 h7 h8 h9 k5 k6 k7 k8 k9 hA hY hAy hbW hxW hW C5 C6 C9 ih hn9 hn5 hn6 hn7 hn8 hI1 hI2 c5 c6 c9 s5 s6 s7 s8 s9 hN
  go_enter Try.func7, Try.ntmps7
  go_wp2_with fail
  rw [hW2.out]
  refine wp_region_wd I (by kernel_rfl) (by kernel_rfl) hI ?_
  repeat (go_big_quiet_step (first | (go_at_call 28; with_reducible exact X9.out _) | (go_at_call 29; first | with_reducible exact X5.out _ | with_reducible exact X6.out _)))
  refine wpQuiet_nil ?_
  intro _ hw'
  obtain ⟨x, rfl⟩ := hw'
  have HBX := Lib.hid (XI.out x)
  generalize x.w = w1 at *
  clear g5 g6 g9 X5 X6 X9 XI XJ
  go_wp2
  go_loopw [3, 4] (fun d i wr => ∃ k : Nat, k ≤ rs.length ∧ i = .int .i64 k ∧ d = .int .i64 (1 + n9 + n5 + n6 + cntR (rs.take k) : Nat) ∧ Hid (Below W.heap.size W wr)) (fun _ i _ => rs.length - (intOf i).toNat)
  case atStart => exact ⟨0, Nat.zero_le _, rfl, by rw [List.take_zero, cntR_nil]; go_num, HBX⟩
  case round =>
    obtain ⟨k, hk, rfl, rfl, hS⟩ := hrel
    have d7 := (hS.out.cell (p := ⟨w.heap.size, 7, none⟩) hwW).trans c7
    by_cases hlt : k < rs.length
    · have hx := List.getElem?_eq_getElem hlt
      obtain ⟨b, off, rfl, hAb, hb0, hcell⟩ := cells_at H7.out hx
      have hp := K7.out rs[k] (List.getElem_mem hlt)
      have hsn := cnt_snoc cntR_app hlt
      have hpl := PR.out (k + 1)
      rw [hsn] at hpl
      have HSN := Lib.hid hsn
      have hwx := HY.out wr hS.out
      have hcall := C7.out rs[k] (List.getElem_mem hlt) wr hS.out
      have e2 := (hwx.cell (p := ⟨b, off + k * 4 + 2, none⟩) hb0).trans (hcell 2 (by omega))
      clear hsn hx
      generalize rs[k] = p at *
      generalize hP : cntR (rs.take k) = n at *
      generalize hD : cntR [p] = m at *
      obtain ⟨zn, zk, pa, pc, ps, zs, rfl, -, -, -, -⟩ := hp.redir
      simp only [Tr.cs, List.getElem?_cons_zero, List.getElem?_cons_succ] at e2
      have HCALL : Hid (Calls Try.prog 29 #[.slice (some ⟨wr.heap.size, 0, none⟩) 1 1] (wr.alloc (.cells #[.slice pa ps.length pc] 41)) fun e w' => e = .returned (.int .i64 m) ∧ Below wr.heap.size wr w') := Lib.hid hcall
      have hzr := hS.out.size
      clear hp hcell hcall hwx hP hD hAb
      go_wp2_with (go_at_call 29; refine HCALL.out.mono ?_; rintro e w3 ⟨rfl, hb3⟩
                   have HB3 := Lib.hid (hS.out.trans (hb3.mono hzr))
                   clear hb3)
      go_roundw
      case rel => exact ⟨k + 1, by omega, by go_num, by rw [HSN.out]; go_num, HB3⟩
      case measure => simp [intOf]; omega
    · obtain rfl : k = rs.length := by omega
      rw [List.take_length, N7.out]
      have HB5 := hS
      clear hS c7
      go_wp2
      go_loopw [3, 5] (fun d i wr => ∃ k : Nat, k ≤ ms.length ∧ i = .int .i64 k ∧ d = .int .i64 (1 + n9 + n5 + n6 + n7 + cntA (ms.take k) : Nat) ∧ Hid (Below W.heap.size W wr)) (fun _ i _ => ms.length - (intOf i).toNat)
      case atStart => exact ⟨0, Nat.zero_le _, rfl, by rw [List.take_zero, cntA_nil]; go_num, HB5⟩
      case round =>
        rename World => wx
        obtain ⟨k, hk, rfl, rfl, hS⟩ := hrel
        have d8 := (hS.out.cell (p := ⟨w.heap.size, 8, none⟩) hwW).trans c8
        by_cases hlt : k < ms.length
        · have hx := List.getElem?_eq_getElem hlt
          obtain ⟨b, off, rfl, hAb, hb0, hcell⟩ := cells_at H8.out hx
          have hp := K8.out ms[k] (List.getElem_mem hlt)
          have hsn := cnt_snoc cntA_app hlt
          have hpl := PA.out (k + 1)
          rw [hsn] at hpl
          rw [cntA_one] at hsn hpl
          have HSN := Lib.hid hsn
          obtain ⟨I, hI1, hI2⟩ : ∃ I : World → Prop, (∀ w', I w' → Below W.heap.size W w') ∧ (∀ w', Below W.heap.size W w' → I w') := ⟨_, fun _ h => h, fun _ h => h⟩
          have hI : I wx.drew := hI2 _ (hS.out.trans ⟨rfl, rfl, rfl, Nat.le_refl _, fun _ _ => rfl⟩)
          have hne : Nonempty (Wd I) := ⟨⟨_, hI⟩⟩
          have XI := Lib.hid (fun x : Wd I => hI1 _ x.ok)
          have XJ := Lib.hid hI2
          have XP := Lib.hid (fun y : Wd I => wd_call (I := I) (v := .int .i64 (cntW (ms[k].r 0))) ((C8.out ms[k] (List.getElem_mem hlt) y.w (XI.out y)).mono fun e w' hh => ⟨hh.1, XJ.out _ ((XI.out y).trans (hh.2.mono (XI.out y).size))⟩))
          have XB := Lib.hid (fun y : Wd I => wd_call (I := I) (v := .int .i64 (cntL [ms[k].body])) ((CB.out ms[k] (List.getElem_mem hlt) y.w (XI.out y)).mono fun e w' hh => ⟨hh.1, XJ.out _ ((XI.out y).trans (hh.2.mono (XI.out y).size))⟩))
          clear hsn hx hI1 hI2
          generalize ms[k] = p at *
          obtain ⟨pa, pc, ps, zk, zs, z1, z2, zoa, zon, zoc, zaa, zan, zac, zwa, zwn, zwc, zra, zrn, zrc, zma, zmn, zmc, zka, zkn, zkc, hr0, hcs, hbc, -, -⟩ := hp.arm11
          have hc0 : p.c 0 = .slice pa ps.length pc := by unfold Tr.c; rw [hcs]; rfl
          rw [hcs] at hcell
          have g8 := fun y : Wd I => ((XI.out y).cell (p := ⟨w.heap.size, 8, none⟩) hwW).trans c8
          have e0 := fun y : Wd I => ((HY.out _ (XI.out y)).cell (p := ⟨b, off + k * 11, none⟩) hb0).trans (hcell 0 (by omega))
          have e1 := fun y : Wd I => ((HY.out _ (XI.out y)).cell (p := ⟨b, off + k * 11 + 1, none⟩) hb0).trans (hcell 1 (by omega))
          have e2 := fun y : Wd I => ((HY.out _ (XI.out y)).cell (p := ⟨b, off + k * 11 + 2, none⟩) hb0).trans (hcell 2 (by omega))
          have e3 := fun y : Wd I => ((HY.out _ (XI.out y)).cell (p := ⟨b, off + k * 11 + 3, none⟩) hb0).trans (hcell 3 (by omega))
          have e4 := fun y : Wd I => ((HY.out _ (XI.out y)).cell (p := ⟨b, off + k * 11 + 4, none⟩) hb0).trans (hcell 4 (by omega))
          have e5 := fun y : Wd I => ((HY.out _ (XI.out y)).cell (p := ⟨b, off + k * 11 + 5, none⟩) hb0).trans (hcell 5 (by omega))
          have e6 := fun y : Wd I => ((HY.out _ (XI.out y)).cell (p := ⟨b, off + k * 11 + 6, none⟩) hb0).trans (hcell 6 (by omega))
          have e7 := fun y : Wd I => ((HY.out _ (XI.out y)).cell (p := ⟨b, off + k * 11 + 7, none⟩) hb0).trans (hcell 7 (by omega))
          have e8 := fun y : Wd I => ((HY.out _ (XI.out y)).cell (p := ⟨b, off + k * 11 + 8, none⟩) hb0).trans (hcell 8 (by omega))
          have e9 := fun y : Wd I => ((HY.out _ (XI.out y)).cell (p := ⟨b, off + k * 11 + 9, none⟩) hb0).trans (hcell 9 (by omega))
          have e10 := fun y : Wd I => ((HY.out _ (XI.out y)).cell (p := ⟨b, off + k * 11 + 10, none⟩) hb0).trans (hcell 10 (by omega))
          simp only [List.getElem?_cons_zero, List.getElem?_cons_succ] at e0 e1 e2 e3 e4 e5 e6 e7 e8 e9 e10
          rw [hc0] at XP
          rw [hbc] at XB
          generalize hP : cntA (ms.take k) = n at *
          generalize hD : cntL [p.body] = m at *
          generalize hD2 : cntW (p.r 0) = m2 at *
          clear hp hcell hP hD hD2 hAb hr0 hcs hbc hc0 c8
          go_wp2_with fail
          refine wp_region_wd I (by kernel_rfl) (by kernel_rfl) hI ?_
          repeat (go_big_quiet_step (first | (go_at_call 29; with_reducible exact XP.out _) | (go_at_call 7; with_reducible exact XB.out _)))
          refine wpQuiet_nil ?_
          intro _ hw'
          obtain ⟨x, rfl⟩ := hw'
          have HB3 := Lib.hid (XI.out x)
          clear g8 e0 e1 e2 e3 e4 e5 e6 e7 e8 e9 e10
          go_wp2
          go_roundw
          case rel => exact ⟨k + 1, by omega, by go_num, by rw [HSN.out]; go_num, HB3⟩
          case measure => simp [intOf]; omega
        · obtain rfl : k = ms.length := by omega
          rw [List.take_length, N8.out]
          go_wp2
          go_ret
          exact ⟨by rw [HCNT.out]; rfl, HY.out _ hS.out⟩
end Go.Proofs.Ytpjcmhlgdgadjaa
