/- The document's side: all words. PRINTED by gen29.py. The document's side: Plain, Calls. PRINTED by gen30.py. The document's side: Heres. PRINTED by gen31.py. -/
import Derived.Test.YtpjcmhlgdgadjaaKl
import Derived.Test.YtpjcmhlgdgadjaaKe
import Derived.Test.YtpjcmhlgdgadjaaKf
import Derived.Test.YtpjcmhlgdgadjaaKg
namespace Go.Proofs.Ytpjcmhlgdgadjaa
open Go.RowKit
set_option linter.unusedVariables false
def ownV (x : Tr) : List Value := (own x).flatMap Tr.cs
theorem ownV_open {A : Nat → Prop} {w : World} {t : Tr} (h : Lies A w .node t) : ∃ (nk : Int) (ns : ByteArray) (b1 b2 : Bool) (oa : Option Addr) (on oc : Nat) (aa : Option Addr) (an ac : Nat) (wa : Option Addr) (wn wc : Nat) (ra : Option Addr) (rn rc : Nat) (ma : Option Addr) (mn mc : Nat) (ka : Option Addr) (kn kc : Nat),
    t.cs = [.int .i64 nk, .string ns, .bool b1, .bool b2, .slice oa on oc, .slice aa an ac, .slice wa wn wc, .slice ra rn rc, .slice ma mn mc, .slice ka kn kc] ∧ ownV t = ownV t ∧ True := by
  obtain ⟨nk, ns, b1, b2, oa, on, oc, aa, an, ac, wa, wn, wc, ra, rn, rc, ma, mn, mc, ka, kn, kc, h⟩ := h.node10
  exact ⟨nk, ns, b1, b2, oa, on, oc, aa, an, ac, wa, wn, wc, ra, rn, rc, ma, mn, mc, ka, kn, kc, h, rfl, trivial⟩
theorem ownV_sz {A : Nat → Prop} {w : World} {t : Tr} (h : Lies A w .node t) : ((all t).flatMap ownV).length ≤ t.sz := by
  have h1 := wordsOf_len t
  have h2 : (all t).flatMap ownV = (wordsOf t).flatMap Tr.cs := by unfold ownV wordsOf; rw [List.flatMap_assoc]
  have h3 : ∀ u ∈ wordsOf t, u.cs.length = 1 := fun u hu => by
    unfold wordsOf at hu
    obtain ⟨x, hx, hu⟩ := List.mem_flatMap.1 hu
    exact (own_lies (all_lies _ [t] (Nat.le_refl _) (by simpa using h) x hx) u hu).len
  rw [h2, flat_one _ h3]
  exact h1
set_option maxRecDepth 100000 in
set_option maxHeartbeats 3200000 in
theorem rWords_any0 {A : Nat → Prop} {w : World} {t : Tr} (hsz : t.sz ≤ 1048576) (hA : ∀ b, A b → b < w.heap.size) (hl : Lies A w .node t) :
    Calls Try.prog 14 #[.agg t.cs.toArray] w fun e w' => ∃ o, e = .returned o ∧ OutAt 41 1 w ((all t).flatMap ownV).length ((all t).flatMap ownV) o w' := by
  obtain ⟨W, hW⟩ : ∃ W, w.alloc (.cells t.cs.toArray 28) = W := ⟨_, rfl⟩
  have hbW : Below w.heap.size w W := by rw [← hW]; exact below_alloc _ _
  have hWs : W.heap.size = w.heap.size + 1 := by rw [← hW]; simp
  have hall := rall_any _ t (Nat.le_refl _) hsz A W (fun b hb => by have := hA b hb; omega) (hl.later hA hbW)
  have hlies : ∀ x ∈ all t, Lies A w .node x := all_lies _ [t] (Nat.le_refl _) (by simpa using hl)
  have hlen : ((all t).flatMap ownV).length ≤ t.sz := ownV_sz hl
  have hn : (all t).length ≤ 1048576 := Nat.le_trans (all_sz t) hsz
  have hxsz : ∀ x ∈ all t, x.sz ≤ 1048576 := fun x hx => by
    have h1 := szAll _ [t] (Nat.le_refl _) x hx
    simp [szL] at h1
    omega
  have HPL : Hid (∀ pre, pre <+: all t → (pre.flatMap ownV).length ≤ 1048576) := Lib.hid (fun pre hp => by have := flat_pre (f := ownV) hp; omega)
  obtain ⟨zk, zs, z1, z2, zoa, zon, zoc, zaa, zan, zac, zwa, zwn, zwc, zra, zrn, zrc, zma, zmn, zmc, zka, zkn, zkc, hcs⟩ := hl.node10
  rw [hcs] at hW hall ⊢
  generalize all t = xs at *
  have HALL := Lib.hid hall
  have HLIES := Lib.hid hlies
  have HXSZ := Lib.hid hxsz
  have HA := Lib.hid hA
  have HBW := Lib.hid hbW
  have HW := Lib.hid hW
  have hEl := ElWord
  clear hall hlies hxsz hA hbW hW hcs hl hlen
  go_enter Try.func14, Try.ntmps14
  go_wp2_with (go_at_call 11; rw [HW.out]; refine HALL.out.mono ?_; rintro e w1 ⟨o, rfl, Ab, cb, rfl, hob, hb1⟩
               have HOB := Lib.hid hob
               have HB1 := Lib.hid (HBW.out.trans (hb1.mono (by omega)))
               have hz1 := hb1.size
               clear hob hb1)
  clear HALL HW
  go_loopw [3, 5] (fun o i wr => ∃ k : Nat, k ≤ xs.length ∧ i = .int .i64 k ∧ Hid (OutAt 41 1 w1 ((xs.take k).flatMap ownV).length ((xs.take k).flatMap ownV) o wr)) (fun _ i _ => xs.length - (intOf i).toNat)
  case atStart => exact ⟨0, Nat.zero_le _, rfl, Lib.hid (by simpa using OutAt.nil _ _ _)⟩
  case round =>
    obtain ⟨k, hk, rfl, hS⟩ := hrel
    by_cases hlt : k < xs.length
    · have hO := hS.out
      obtain ⟨m, hm⟩ : ∃ m, xs.length = m + 1 := ⟨xs.length - 1, by omega⟩
      obtain ⟨gb, rfl, -, hgb⟩ : ∃ g, Ab = some ⟨g, 0, none⟩ ∧ W.heap.size ≤ g ∧ g < w1.heap.size := by have h1 := HOB.out; rw [hm] at h1; exact own_some h1
      have hx := HLIES.out xs[k] (List.getElem_mem hlt)
      have hxz := HXSZ.out xs[k] (List.getElem_mem hlt)
      have hcell := own_tree HOB.out (fun x hx => (HLIES.out x hx).len) rfl k hlt
      have hsn := flat_snoc (f := ownV) hlt
      have hpl := HPL.out _ (List.take_prefix (k + 1) xs)
      rw [hsn, List.length_append] at hpl
      have HSN := Lib.hid hsn
      clear hsn hm
      generalize xs[k] = p at *
      obtain ⟨zk2, zs2, y1, y2, yoa, yon, yoc, yaa, yan, yac, ywa, ywn, ywc, yra, yrn, yrc, yma, ymn, ymc, yka, ykn, ykc, hpc, hpg, hpr⟩ := ownV_open hx
      have HPG := Lib.hid hpg
      have HPR := Lib.hid hpr
      have hbo := hO.below
      have e0 := (hbo.cell (p := ⟨gb, k * 10, none⟩) hgb).trans (hcell 0 (by omega))
      have e1 := (hbo.cell (p := ⟨gb, k * 10 + 1, none⟩) hgb).trans (hcell 1 (by omega))
      have e2 := (hbo.cell (p := ⟨gb, k * 10 + 2, none⟩) hgb).trans (hcell 2 (by omega))
      have e3 := (hbo.cell (p := ⟨gb, k * 10 + 3, none⟩) hgb).trans (hcell 3 (by omega))
      have e4 := (hbo.cell (p := ⟨gb, k * 10 + 4, none⟩) hgb).trans (hcell 4 (by omega))
      have e5 := (hbo.cell (p := ⟨gb, k * 10 + 5, none⟩) hgb).trans (hcell 5 (by omega))
      have e6 := (hbo.cell (p := ⟨gb, k * 10 + 6, none⟩) hgb).trans (hcell 6 (by omega))
      have e7 := (hbo.cell (p := ⟨gb, k * 10 + 7, none⟩) hgb).trans (hcell 7 (by omega))
      have e8 := (hbo.cell (p := ⟨gb, k * 10 + 8, none⟩) hgb).trans (hcell 8 (by omega))
      have e9 := (hbo.cell (p := ⟨gb, k * 10 + 9, none⟩) hgb).trans (hcell 9 (by omega))
      rw [hpc] at e0 e1 e2 e3 e4 e5 e6 e7 e8 e9
      simp only [List.getElem?_cons_zero, List.getElem?_cons_succ] at e0 e1 e2 e3 e4 e5 e6 e7 e8 e9
      have hwr : Below w.heap.size w wr := HB1.out.trans (hbo.mono (by omega))
      have hw1z := HB1.out.size
      have HWR := Lib.hid hwr
      have HPC := Lib.hid hpc
      have HX := Lib.hid hx
      generalize hP : (xs.take k).flatMap ownV = P at *
      generalize hpn : P.length = n at *
      have HPN := Lib.hid hpn
      obtain ⟨Ao, oo, rfl, ho, hbo'⟩ := hO
      have hzr := hbo.size
      have HO := Lib.hid ho
      have HB := Lib.hid hbo
      clear hpg hpr hx hcell hP hpn ho hbo hbo' hS hwr hpc
      have hones : ∀ u ∈ (own p).flatMap Tr.cs, u.oneCell' = true := flat_ones (own_lies HX.out)
      have hyl := flat_one (own p) (fun y hy => (own_lies HX.out y hy).len)
      have hcall := rwords_any hxz (w := wr) (fun b hb => by have := HA.out b hb; omega) (HX.out.later HA.out HWR.out)
      have hgp : ownV p = (own p).flatMap Tr.cs := rfl
      rw [HPC.out] at hcall
      rw [hgp] at hpl HSN
      rw [hyl] at hpl
      generalize hys : (own p).flatMap Tr.cs = ys at *
      generalize hmm : (own p).length = mm at *
      have HCALL := Lib.hid hcall
      have HONES := Lib.hid hones
      have HYL := Lib.hid hyl
      clear hcall hones hyl hgp hys hmm
      go_wp2_with (first
        | (go_at_call 37; refine HCALL.out.mono ?_; rintro e w3 ⟨o3, rfl, A3, c3, rfl, ho3, hb3⟩
           have HO3 := Lib.hid (own_below HO.out hb3)
           have HS3 := Lib.hid (SrcOK.own ho3 HONES.out)
           have hz3 := hb3.size
           have HB3 := Lib.hid hb3
           clear ho3 hb3)
        | (at_builtin; refine wpList_app ElWord (.tmp 14) (.tmp 19) rfl rfl (base := w1.heap.size) (n := n) (m := mm) (N := n + mm) (v := .slice Ao n oo) (src := .slice A3 mm c3) (xs := P) (news := ys) rfl rfl HO3.out HS3.out rfl (by unfold maxLen; omega) (by omega) (by omega) ?_
           intro A9 c9 w9 r1 r2 r3
           have HF := Lib.hid (out_app HB.out r1 ((Keeps.of_below HB3.out).trans r2))
           clear r1 r2 r3))
      go_roundw
      case rel => exact ⟨k + 1, by omega, by go_num, Lib.hid (by rw [HSN.out, List.length_append, HPN.out, HYL.out]; exact HF.out)⟩
      case measure => simp [intOf]; omega
    · obtain rfl : k = xs.length := by omega
      rw [List.take_length] at hS
      go_wp2
      go_ret
      exact ⟨_, rfl, hS.out.base HB1.out⟩
theorem rWords_any {A : Nat → Prop} {w : World} {t : Tr} (hsz : t.sz ≤ 1048576) (hA : ∀ b, A b → b < w.heap.size) (hl : Lies A w .node t) :
    Calls Try.prog 14 #[.agg t.cs.toArray] w fun e w' => ∃ o, e = .returned o ∧ OutAt 41 1 w (wordsOf t).length ((wordsOf t).flatMap Tr.cs) o w' := by
  have h2 : (all t).flatMap ownV = (wordsOf t).flatMap Tr.cs := by unfold ownV wordsOf; rw [List.flatMap_assoc]
  have h3 : ∀ u ∈ wordsOf t, u.cs.length = 1 := fun u hu => by
    unfold wordsOf at hu
    obtain ⟨x, hx, hu⟩ := List.mem_flatMap.1 hu
    exact (own_lies (all_lies _ [t] (Nat.le_refl _) (by simpa using hl) x hx) u hu).len
  have h4 := rWords_any0 hsz hA hl
  rw [h2, flat_one _ h3] at h4
  exact h4
end Go.Proofs.Ytpjcmhlgdgadjaa

namespace Go.Proofs.Ytpjcmhlgdgadjaa
open Go.RowKit
set_option linter.unusedVariables false
theorem rplain_any {A : Nat → Prop} {w : World} {t : Tr} (hA : ∀ b, A b → b < w.heap.size) (h : Lies A w .word t) : Calls Try.prog 38 #[.agg t.cs.toArray] w fun e w' => e = .returned (plainV t) ∧ Below w.heap.size w w' := by
  obtain ⟨pa, pc, ps, rfl, hr, hk⟩ := h.word
  simp only [Tr.cs]
  have e0 : (Tr.mk [.slice pa ps.length pc] [ps]).r 0 = ps := rfl
  unfold plainV plainOf
  rw [e0]
  clear e0
  match ps, hr, hk with
  | [], hr, hk =>
    clear hr hk
    go_enter Try.func38, Try.ntmps38
    go_wp2
    go_ret2
    exact ⟨rfl, below_alloc _ _⟩
  | [p], hr, hk =>
    have hp := hk p (by simp)
    obtain ⟨b, off, rfl, hAb, hb0, hcell⟩ := cells_at hr (k := 0) (x := p) rfl
    obtain ⟨k0, k1, k2⟩ := part_k hp
    have c0 := hcell 0 (by omega)
    have c1 := hcell 1 (by omega)
    rw [k0] at c0
    rw [k1] at c1
    simp only [Nat.zero_mul, Nat.add_zero] at c0 c1
    clear hr hk hp hcell k0 k1
    by_cases hk1 : p.k 0 = 1
    · have hq : (p.k 0 == 1) = true := by simp [hk1]
      simp only [if_pos hk1]
      generalize p.k 0 = pk at *
      subst hk1
      go_enter Try.func38, Try.ntmps38
      go_wp2
      go_ret2
      exact ⟨rfl, below_alloc _ _⟩
    · have hq : (p.k 0 == 1) = false := by simpa using hk1
      simp only [if_neg hk1]
      generalize p.k 0 = pk at *
      go_enter Try.func38, Try.ntmps38
      go_wp2
      go_ret2
      exact ⟨rfl, below_alloc _ _⟩
  | p :: q :: r, hr, hk =>
    have hl := hr.len
    have hn : ((p :: q :: r).length : Int) ≠ 1 := by simp; omega
    have hn2 : (((p :: q :: r).length : Int) == 1) = false := by simpa using hn
    generalize (p :: q :: r).length = n at *
    clear hr hk
    go_enter Try.func38, Try.ntmps38
    go_wp2
    go_ret2
    exact ⟨rfl, below_alloc _ _⟩
set_option maxRecDepth 100000 in
set_option maxHeartbeats 3200000 in
theorem rcalls_any {A : Nat → Prop} {w : World} {t : Tr} (hsz : t.sz ≤ 1048576) (hA : ∀ b, A b → b < w.heap.size) (hl : Lies A w .node t) :
    Calls Try.prog 17 #[.agg t.cs.toArray] w fun e w' => ∃ o, e = .returned o ∧ OutAt 9 1 w ((all t).flatMap callV).length ((all t).flatMap callV) o w' := by
  obtain ⟨W, hW⟩ : ∃ W, w.alloc (.cells t.cs.toArray 28) = W := ⟨_, rfl⟩
  have hbW : Below w.heap.size w W := by rw [← hW]; exact below_alloc _ _
  have hWs : W.heap.size = w.heap.size + 1 := by rw [← hW]; simp
  have hall := rall_any _ t (Nat.le_refl _) hsz A W (fun b hb => by have := hA b hb; omega) (hl.later hA hbW)
  have hlies : ∀ x ∈ all t, Lies A w .node x := all_lies _ [t] (Nat.le_refl _) (by simpa using hl)
  have hlen : ((all t).flatMap callV).length ≤ t.sz := calls_sz t
  have hn : (all t).length ≤ 1048576 := Nat.le_trans (all_sz t) hsz
  have hxsz : ∀ x ∈ all t, x.sz ≤ 1048576 := fun x hx => by
    have h1 := szAll _ [t] (Nat.le_refl _) x hx
    simp [szL] at h1
    omega
  have HPL : Hid (∀ pre, pre <+: all t → (pre.flatMap callV).length ≤ 1048576) := Lib.hid (fun pre hp => by have := flat_pre (f := callV) hp; omega)
  obtain ⟨zk, zs, z1, z2, zoa, zon, zoc, zaa, zan, zac, zwa, zwn, zwc, zra, zrn, zrc, zma, zmn, zmc, zka, zkn, zkc, hcs⟩ := hl.node10
  rw [hcs] at hW hall ⊢
  generalize all t = xs at *
  have HALL := Lib.hid hall
  have HLIES := Lib.hid hlies
  have HXSZ := Lib.hid hxsz
  have HA := Lib.hid hA
  have HBW := Lib.hid hbW
  have HW := Lib.hid hW
  have hEl := ElStr
  clear hall hlies hxsz hA hbW hW hcs hl hlen
  go_enter Try.func17, Try.ntmps17
  go_wp2_with (go_at_call 11; rw [HW.out]; refine HALL.out.mono ?_; rintro e w1 ⟨o, rfl, Ab, cb, rfl, hob, hb1⟩
               have HOB := Lib.hid hob
               have HB1 := Lib.hid (HBW.out.trans (hb1.mono (by omega)))
               have hz1 := hb1.size
               clear hob hb1)
  clear HALL HW
  go_loopw [3, 5] (fun o i wr => ∃ k : Nat, k ≤ xs.length ∧ i = .int .i64 k ∧ Hid (OutAt 9 1 w1 ((xs.take k).flatMap callV).length ((xs.take k).flatMap callV) o wr)) (fun _ i _ => xs.length - (intOf i).toNat)
  case atStart => exact ⟨0, Nat.zero_le _, rfl, Lib.hid (by simpa using OutAt.nil _ _ _)⟩
  case round =>
    obtain ⟨k, hk, rfl, hS⟩ := hrel
    by_cases hlt : k < xs.length
    · have hO := hS.out
      obtain ⟨m, hm⟩ : ∃ m, xs.length = m + 1 := ⟨xs.length - 1, by omega⟩
      obtain ⟨gb, rfl, -, hgb⟩ : ∃ g, Ab = some ⟨g, 0, none⟩ ∧ W.heap.size ≤ g ∧ g < w1.heap.size := by have h1 := HOB.out; rw [hm] at h1; exact own_some h1
      have hx := HLIES.out xs[k] (List.getElem_mem hlt)
      have hxz := HXSZ.out xs[k] (List.getElem_mem hlt)
      have hcell := own_tree HOB.out (fun x hx => (HLIES.out x hx).len) rfl k hlt
      have hsn := flat_snoc (f := callV) hlt
      have hpl := HPL.out _ (List.take_prefix (k + 1) xs)
      rw [hsn, List.length_append] at hpl
      have HSN := Lib.hid hsn
      clear hsn hm
      generalize xs[k] = p at *
      obtain ⟨yk, ys, y1, y2, yoa, yos, yoc, yaa, yas, yac, ywa, yws, ywc, yra, yrs, yrc, yma, yms, ymc, yka, yks, ykc, hpc, hpg, hpr⟩ := callV_open hx
      have HPG := Lib.hid hpg
      have HPR := Lib.hid hpr
      have hbo := hO.below
      have e0 := (hbo.cell (p := ⟨gb, k * 10, none⟩) hgb).trans (hcell 0 (by omega))
      have e1 := (hbo.cell (p := ⟨gb, k * 10 + 1, none⟩) hgb).trans (hcell 1 (by omega))
      have e2 := (hbo.cell (p := ⟨gb, k * 10 + 2, none⟩) hgb).trans (hcell 2 (by omega))
      have e3 := (hbo.cell (p := ⟨gb, k * 10 + 3, none⟩) hgb).trans (hcell 3 (by omega))
      have e4 := (hbo.cell (p := ⟨gb, k * 10 + 4, none⟩) hgb).trans (hcell 4 (by omega))
      have e5 := (hbo.cell (p := ⟨gb, k * 10 + 5, none⟩) hgb).trans (hcell 5 (by omega))
      have e6 := (hbo.cell (p := ⟨gb, k * 10 + 6, none⟩) hgb).trans (hcell 6 (by omega))
      have e7 := (hbo.cell (p := ⟨gb, k * 10 + 7, none⟩) hgb).trans (hcell 7 (by omega))
      have e8 := (hbo.cell (p := ⟨gb, k * 10 + 8, none⟩) hgb).trans (hcell 8 (by omega))
      have e9 := (hbo.cell (p := ⟨gb, k * 10 + 9, none⟩) hgb).trans (hcell 9 (by omega))
      rw [hpc] at e0 e1 e2 e3 e4 e5 e6 e7 e8 e9
      simp only [List.getElem?_cons_zero, List.getElem?_cons_succ] at e0 e1 e2 e3 e4 e5 e6 e7 e8 e9
      have hwr : Below w.heap.size w wr := HB1.out.trans (hbo.mono (by omega))
      have hw1z := HB1.out.size
      have HWR := Lib.hid hwr
      have HPC := Lib.hid hpc
      have HX := Lib.hid hx
      generalize hP : (xs.take k).flatMap callV = P at *
      generalize hpn : P.length = n at *
      have HPN := Lib.hid hpn
      obtain ⟨Ao, oo, rfl, ho, hbo'⟩ := hO
      have hzr := hbo.size
      have HO := Lib.hid ho
      have HB := Lib.hid hbo
      clear hpg hpr hx hcell hP hpn ho hbo hbo' hS hwr hpc
      by_cases hk4 : yk = 4
      · subst hk4
        obtain ⟨hw6, hkw⟩ := HPR.out
        match hyws : yws, HPG.out, hw6, hkw with
        | [], hkg, hw6, hkw =>
          have hgx : callV p = [] := by rw [hkg]; rfl
          have HGX := Lib.hid hgx
          clear hkg hw6 hkw hgx hyws hpl
          go_wp2
          go_roundw
          case rel => exact ⟨k + 1, by omega, by go_num, Lib.hid (by rw [HSN.out, HGX.out, List.append_nil, HPN.out]; exact ⟨Ao, oo, rfl, HO.out, HB.out⟩)⟩
          case measure => simp [intOf]; omega
        | u :: ur, hkg, hw6, hkw =>
          have hu := hkw u (by simp)
          have hA' : ∀ b, A b → b < wr.heap.size := fun b hb => by have := HA.out b hb; omega
          have hpw := rplain_any hA' (hu.later HA.out HWR.out)
          obtain ⟨b, off, rfl, hAb, hb0, hcellu⟩ := cells_at (hw6.later HA.out HWR.out) (k := 0) (x := u) rfl
          have e0' := hcellu 0 (by omega)
          obtain ⟨pa, pc, ps, hue, -, -⟩ := hu.word
          have huc : u.cs = [.slice pa ps.length pc] := by rw [hue]; rfl
          rw [huc] at e0' hpw
          simp only [Nat.zero_mul, Nat.add_zero, List.getElem?_cons_zero] at e0'
          clear hcellu hu hue huc hkw hw6 hAb hb0 hyws hA'
          have hlen0 : (u :: ur).length = ur.length + 1 := rfl
          rw [hlen0] at *
          have hpos : (0 : Int) < (ur.length : Int) + 1 := by omega
          have hne : ¬ ((ur.length : Int) + 1 = 0) := by omega
          have hneb : (((ur.length : Int) + 1) == 0) = false := by simpa using hne
          clear hlen0
          generalize ur.length = q at *
          cases hpo : plainOf u with
          | none =>
            have hgx : callV p = [] := by rw [hkg, if_pos rfl]; simp [hpo]
            have hv : plainV u = .tuple #[.string ⟨#[]⟩, .bool false] := by unfold plainV; rw [hpo]; rfl
            rw [hv] at hpw
            have HPW := Lib.hid hpw
            have HGX := Lib.hid hgx
            clear hkg hgx hpl hpw hv hpo
            go_wp2_with (go_at_call 38; refine HPW.out.mono ?_; rintro e w8 ⟨rfl, hb8⟩
                         have HB8 := Lib.hid hb8
                         have hz8 := hb8.size
                         clear hb8)
            go_roundw
            case rel => exact ⟨k + 1, by omega, by go_num, Lib.hid (by rw [HSN.out, HGX.out, List.append_nil, HPN.out]; exact OutAt.later ⟨Ao, oo, rfl, HO.out, HB.out⟩ HB8.out)⟩
            case measure => simp [intOf]; omega
          | some s =>
            have hgx : callV p = [.string s] := by rw [hkg, if_pos rfl]; simp [hpo]
            have hv : plainV u = .tuple #[.string s, .bool true] := by unfold plainV; rw [hpo]; rfl
            rw [hv] at hpw
            rw [hgx] at hpl
            simp only [List.length_cons, List.length_nil] at hpl
            have HPW := Lib.hid hpw
            have HGX := Lib.hid hgx
            clear hkg hgx hpw hv hpo
            go_wp2_with (first
              | (go_at_call 38; refine HPW.out.mono ?_; rintro e w8 ⟨rfl, hb8⟩
                 have HB8 := Lib.hid hb8
                 have HO8 := Lib.hid (own_below HO.out hb8)
                 have hz8 := hb8.size
                 clear hb8)
              | (at_builtin; refine wpList_app ElStr (.tmp 43) (.tmp 45) rfl rfl (base := w1.heap.size) (n := n) (m := 1) (N := n + 1) (v := .slice Ao n oo) (src := .slice (some ⟨w8.heap.size, 0, none⟩) 1 1) (xs := P) (news := [.string s]) rfl rfl (HO8.out.alloc _) (one_src (e := 0) rfl) rfl (by unfold maxLen; omega) (by omega) (by simp; omega) ?_
                 intro A9 c9 w9 r1 r2 r3
                 have HF := Lib.hid (out_app HB.out r1 (((Keeps.of_below HB8.out).alloc _).trans r2))
                 clear r1 r2 r3))
            go_roundw
            case rel => exact ⟨k + 1, by omega, by go_num, Lib.hid (by rw [HSN.out, HGX.out, List.length_append, HPN.out]; exact HF.out)⟩
            case measure => simp [intOf]; omega
      · have hgx : callV p = [] := by rw [HPG.out, if_neg hk4]
        have hq : (yk == 4) = false := by simpa using hk4
        have hq2 : (yk != 4) = true := by simpa using hk4
        have HGX := Lib.hid hgx
        clear hgx hpl
        go_wp2
        go_roundw
        case rel => exact ⟨k + 1, by omega, by go_num, Lib.hid (by rw [HSN.out, HGX.out, List.append_nil, HPN.out]; exact ⟨Ao, oo, rfl, HO.out, HB.out⟩)⟩
        case measure => simp [intOf]; omega
    · obtain rfl : k = xs.length := by omega
      rw [List.take_length] at hS
      go_wp2
      go_ret
      exact ⟨_, rfl, hS.out.base HB1.out⟩
end Go.Proofs.Ytpjcmhlgdgadjaa

namespace Go.Proofs.Ytpjcmhlgdgadjaa
open Go.RowKit
set_option linter.unusedVariables false
set_option maxRecDepth 100000 in
set_option maxHeartbeats 3200000 in
theorem rheres_any {A : Nat → Prop} {w : World} {t : Tr} (hsz : t.sz ≤ 1048576) (hA : ∀ b, A b → b < w.heap.size) (hl : Lies A w .node t) :
    Calls Try.prog 23 #[.agg t.cs.toArray] w fun e w' => ∃ o, e = .returned o ∧ OutAt 9 1 w ((all t).flatMap hereV).length ((all t).flatMap hereV) o w' := by
  obtain ⟨W, hW⟩ : ∃ W, w.alloc (.cells t.cs.toArray 28) = W := ⟨_, rfl⟩
  have hbW : Below w.heap.size w W := by rw [← hW]; exact below_alloc _ _
  have hWs : W.heap.size = w.heap.size + 1 := by rw [← hW]; simp
  have hall := rall_any _ t (Nat.le_refl _) hsz A W (fun b hb => by have := hA b hb; omega) (hl.later hA hbW)
  have hlies : ∀ x ∈ all t, Lies A w .node x := all_lies _ [t] (Nat.le_refl _) (by simpa using hl)
  have hlen : ((all t).flatMap hereV).length ≤ t.sz := heres_sz t
  have hn : (all t).length ≤ 1048576 := Nat.le_trans (all_sz t) hsz
  have hxsz : ∀ x ∈ all t, x.sz ≤ 1048576 := fun x hx => by
    have h1 := szAll _ [t] (Nat.le_refl _) x hx
    simp [szL] at h1
    omega
  have HPL : Hid (∀ pre, pre <+: all t → (pre.flatMap hereV).length ≤ 1048576) := Lib.hid (fun pre hp => by have := flat_pre (f := hereV) hp; omega)
  obtain ⟨zk, zs, z1, z2, zoa, zon, zoc, zaa, zan, zac, zwa, zwn, zwc, zra, zrn, zrc, zma, zmn, zmc, zka, zkn, zkc, hcs⟩ := hl.node10
  rw [hcs] at hW hall ⊢
  generalize all t = xs at *
  have HALL := Lib.hid hall
  have HLIES := Lib.hid hlies
  have HXSZ := Lib.hid hxsz
  have HA := Lib.hid hA
  have HBW := Lib.hid hbW
  have HW := Lib.hid hW
  have hEl := ElStr
  clear hall hlies hxsz hA hbW hW hcs hl hlen
  go_enter Try.func23, Try.ntmps23
  go_wp2_with (go_at_call 11; rw [HW.out]; refine HALL.out.mono ?_; rintro e w1 ⟨o, rfl, Ab, cb, rfl, hob, hb1⟩
               have HOB := Lib.hid hob
               have HB1 := Lib.hid (HBW.out.trans (hb1.mono (by omega)))
               have hz1 := hb1.size
               clear hob hb1)
  clear HALL HW
  go_loopw [3, 5] (fun o i wr => ∃ k : Nat, k ≤ xs.length ∧ i = .int .i64 k ∧ Hid (OutAt 9 1 w1 ((xs.take k).flatMap hereV).length ((xs.take k).flatMap hereV) o wr)) (fun _ i _ => xs.length - (intOf i).toNat)
  case atStart => exact ⟨0, Nat.zero_le _, rfl, Lib.hid (by simpa using OutAt.nil _ _ _)⟩
  case round =>
    obtain ⟨k, hk, rfl, hS⟩ := hrel
    by_cases hlt : k < xs.length
    · have hO := hS.out
      obtain ⟨m, hm⟩ : ∃ m, xs.length = m + 1 := ⟨xs.length - 1, by omega⟩
      obtain ⟨gb, rfl, -, hgb⟩ : ∃ g, Ab = some ⟨g, 0, none⟩ ∧ W.heap.size ≤ g ∧ g < w1.heap.size := by have h1 := HOB.out; rw [hm] at h1; exact own_some h1
      have hx := HLIES.out xs[k] (List.getElem_mem hlt)
      have hxz := HXSZ.out xs[k] (List.getElem_mem hlt)
      have hcell := own_tree HOB.out (fun x hx => (HLIES.out x hx).len) rfl k hlt
      have hsn := flat_snoc (f := hereV) hlt
      have hpl := HPL.out _ (List.take_prefix (k + 1) xs)
      rw [hsn, List.length_append] at hpl
      have HSN := Lib.hid hsn
      clear hsn hm
      generalize xs[k] = p at *
      have HCELL := Lib.hid hcell
      obtain ⟨yk, ys, y1, y2, yoa, yos, yoc, yaa, yas, yac, ywa, yws, ywc, yra, yrs, yrc, yma, yms, ymc, yka, yks, ykc, hpc, hpg, hpr⟩ := hereV_open hx
      have HPG := Lib.hid hpg
      have HPR := Lib.hid hpr
      have hbo := hO.below
      have e0 := (hbo.cell (p := ⟨gb, k * 10, none⟩) hgb).trans (hcell 0 (by omega))
      have e1 := (hbo.cell (p := ⟨gb, k * 10 + 1, none⟩) hgb).trans (hcell 1 (by omega))
      have e2 := (hbo.cell (p := ⟨gb, k * 10 + 2, none⟩) hgb).trans (hcell 2 (by omega))
      have e3 := (hbo.cell (p := ⟨gb, k * 10 + 3, none⟩) hgb).trans (hcell 3 (by omega))
      have e4 := (hbo.cell (p := ⟨gb, k * 10 + 4, none⟩) hgb).trans (hcell 4 (by omega))
      have e5 := (hbo.cell (p := ⟨gb, k * 10 + 5, none⟩) hgb).trans (hcell 5 (by omega))
      have e6 := (hbo.cell (p := ⟨gb, k * 10 + 6, none⟩) hgb).trans (hcell 6 (by omega))
      have e7 := (hbo.cell (p := ⟨gb, k * 10 + 7, none⟩) hgb).trans (hcell 7 (by omega))
      have e8 := (hbo.cell (p := ⟨gb, k * 10 + 8, none⟩) hgb).trans (hcell 8 (by omega))
      have e9 := (hbo.cell (p := ⟨gb, k * 10 + 9, none⟩) hgb).trans (hcell 9 (by omega))
      rw [hpc] at e0 e1 e2 e3 e4 e5 e6 e7 e8 e9
      simp only [List.getElem?_cons_zero, List.getElem?_cons_succ] at e0 e1 e2 e3 e4 e5 e6 e7 e8 e9
      have hwr : Below w.heap.size w wr := HB1.out.trans (hbo.mono (by omega))
      have hw1z := HB1.out.size
      have HWR := Lib.hid hwr
      have HPC := Lib.hid hpc
      have HX := Lib.hid hx
      generalize hP : (xs.take k).flatMap hereV = P at *
      generalize hpn : P.length = n at *
      have HPN := Lib.hid hpn
      obtain ⟨Ao, oo, rfl, ho, hbo'⟩ := hO
      have hzr := hbo.size
      have HO := Lib.hid ho
      have HB := Lib.hid hbo
      clear hpg hpr hx hcell hP hpn ho hbo hbo' hS hwr hpc
      have HO0 : Hid (OutAt 9 1 w1 n P (.slice Ao n oo) wr) := Lib.hid ⟨Ao, oo, rfl, HO.out, HB.out⟩
      have HLE : Hid (∀ j, ((yrs.take j).flatMap hereR).length ≤ (yrs.flatMap hereR).length) := Lib.hid (fun j => flat_pre (List.take_prefix j yrs))
      rw [HPG.out] at hpl
      obtain ⟨Lm, hLm⟩ : ∃ Lm, (yrs.flatMap hereR).length = Lm := ⟨_, rfl⟩
      rw [hLm] at hpl HLE
      have HLM := Lib.hid hLm
      have HC7 := Lib.hid (HCELL.out 7 (by omega))
      have hrl := HPR.out.1.len
      have hg7 := HC7.out
      rw [HPC.out] at hg7
      simp only [List.getElem?_cons_zero, List.getElem?_cons_succ] at hg7
      clear hLm HO HB hzr
      go_wp2
      go_loopw [3, 6] (fun o i wx => ∃ j : Nat, j ≤ yrs.length ∧ i = .int .i64 j ∧ Hid (OutAt 9 1 w1 (n + ((yrs.take j).flatMap hereR).length) (P ++ (yrs.take j).flatMap hereR) o wx)) (fun _ i _ => yrs.length - (intOf i).toNat)
      case atStart => exact ⟨0, Nat.zero_le _, rfl, Lib.hid (by simpa using HO0.out)⟩
      case round =>
        rename World => wx
        obtain ⟨j, hj, rfl, hS⟩ := hrel
        have hbx := hS.out.below
        have d7 := (hbx.cell (p := ⟨gb, k * 10 + 7, none⟩) hgb).trans hg7
        by_cases hlt2 : j < yrs.length
        · have hO := hS.out
          have hx := List.getElem?_eq_getElem hlt2
          obtain ⟨b, off, rfl, hAb0, hb0, hcellr⟩ := cells_at HPR.out.1 hx
          have hp := HPR.out.2 yrs[j] (List.getElem_mem hlt2)
          have htk := flat_snoc (f := hereR) hlt2
          have hle := HLE.out (j + 1)
          rw [htk, List.length_append] at hle
          have HTK := Lib.hid htk
          clear htk hx
          generalize yrs[j] = r at *
          obtain ⟨rn, rk, pa, pc, ps, rh, rfl, q2, q3, h3, h4⟩ := hp.redir
          have hwx : Below w.heap.size w wx := HB1.out.trans (hbx.mono (by omega))
          have r0 := (hwx.cell (p := ⟨b, off + j * 4, none⟩) hb0).trans (hcellr 0 (by omega))
          have r1 := (hwx.cell (p := ⟨b, off + j * 4 + 1, none⟩) hb0).trans (hcellr 1 (by omega))
          have r2 := (hwx.cell (p := ⟨b, off + j * 4 + 2, none⟩) hb0).trans (hcellr 2 (by omega))
          have r3 := (hwx.cell (p := ⟨b, off + j * 4 + 3, none⟩) hb0).trans (hcellr 3 (by omega))
          simp only [Tr.cs, List.getElem?_cons_zero, List.getElem?_cons_succ] at r0 r1 r2 r3
          have hgr : hereR (.mk [.string rn, .int .i64 rk, .slice pa ps.length pc, .string rh] [[], [], ps, []]) = if rk = 12 ∨ rk = 13 then [.string rh] else [] := rfl
          rw [hgr] at HTK hle
          generalize hys : (yrs.take j).flatMap hereR = ys' at *
          generalize hmm : ys'.length = mm at *
          have HOX := Lib.hid hO
          obtain ⟨Ao, oo, rfl, ho, hbo⟩ := hO
          have hzx := hbo.size
          have HO := Lib.hid ho
          have HBX := Lib.hid hbo
          have hsrc : SrcOK ((wx.alloc (.cells #[.string rn, .int .i64 rk, .slice pa ps.length pc, .string rh] 47)).alloc (.cells #[.string rh] 9)) (.slice (some ⟨wx.heap.size + 1, 0, none⟩) 1 1) 1 1 [.string rh] := by
            have := one_src (w := wx.alloc (.cells #[.string rn, .int .i64 rk, .slice pa ps.length pc, .string rh] 47)) (t := 9) (e := 0) (u := .string rh) rfl
            rwa [World.size_alloc] at this
          clear hcellr hp h3 h4 hgr ho hbo hS hb0 hAb0 hys hbx hwx
          by_cases h12 : rk = 12
          · subst h12
            rw [if_pos (.inl rfl)] at HTK hle
            have HTN : Hid (n + ((yrs.take (j + 1)).flatMap hereR).length = n + (mm + 1)) := Lib.hid (by rw [HTK.out, List.length_append, hmm]; rfl)
            simp only [List.length_cons, List.length_nil] at hle
            clear hmm
            go_wp2_with (at_builtin; refine wpList_app ElStr (.tmp 42) (.tmp 45) rfl rfl (base := w1.heap.size) (n := n + mm) (m := 1) (N := n + (mm + 1)) (v := .slice Ao (n + mm) oo) (src := .slice (some ⟨wx.heap.size + 1, 0, none⟩) 1 1) (xs := P ++ ys') (news := [.string rh]) rfl rfl ((HO.out.alloc _).alloc _) (hsrc) (by omega) (by unfold maxLen; omega) (by omega) (by simp; omega) ?_
                         intro A9 c9 w9 r1 r2 r3
                         have HF := Lib.hid (out_app HBX.out r1 ((((Keeps.refl w1.heap.size [9] wx).alloc _).alloc _).trans r2))
                         clear r1 r2 r3)
            go_roundw
            case rel => exact ⟨j + 1, by omega, by go_num, Lib.hid (by rw [HTN.out, HTK.out, ← List.append_assoc]; exact HF.out)⟩
            case measure => simp [intOf]; omega
          · by_cases h13 : rk = 13
            · subst h13
              rw [if_pos (.inr rfl)] at HTK hle
              have HTN : Hid (n + ((yrs.take (j + 1)).flatMap hereR).length = n + (mm + 1)) := Lib.hid (by rw [HTK.out, List.length_append, hmm]; rfl)
              simp only [List.length_cons, List.length_nil] at hle
              clear hmm h12
              go_wp2_with (at_builtin; refine wpList_app ElStr (.tmp 42) (.tmp 45) rfl rfl (base := w1.heap.size) (n := n + mm) (m := 1) (N := n + (mm + 1)) (v := .slice Ao (n + mm) oo) (src := .slice (some ⟨wx.heap.size + 1, 0, none⟩) 1 1) (xs := P ++ ys') (news := [.string rh]) rfl rfl ((HO.out.alloc _).alloc _) (hsrc) (by omega) (by unfold maxLen; omega) (by omega) (by simp; omega) ?_
                           intro A9 c9 w9 r1 r2 r3
                           have HF := Lib.hid (out_app HBX.out r1 ((((Keeps.refl w1.heap.size [9] wx).alloc _).alloc _).trans r2))
                           clear r1 r2 r3)
              go_roundw
              case rel => exact ⟨j + 1, by omega, by go_num, Lib.hid (by rw [HTN.out, HTK.out, ← List.append_assoc]; exact HF.out)⟩
              case measure => simp [intOf]; omega
            · rw [if_neg (by omega)] at HTK
              have HTN : Hid (n + ((yrs.take (j + 1)).flatMap hereR).length = n + mm) := Lib.hid (by rw [HTK.out, List.length_append, hmm]; rfl)
              have g12 : (rk == 12) = false := by simpa using h12
              have g13 : (rk == 13) = false := by simpa using h13
              clear hmm hle
              go_wp2
              go_roundw
              case rel => exact ⟨j + 1, by omega, by go_num, Lib.hid (by rw [HTN.out, HTK.out, List.append_nil]; exact HOX.out.later (below_alloc wx _))⟩
              case measure => simp [intOf]; omega
        · obtain rfl : j = yrs.length := by omega
          rw [List.take_length] at hS
          go_wp2
          go_roundw
          case rel => exact ⟨k + 1, by omega, by go_num, Lib.hid (by rw [HSN.out, List.length_append, HPN.out, HPG.out]; exact hS.out)⟩
          case measure => simp [intOf]; omega
    · obtain rfl : k = xs.length := by omega
      rw [List.take_length] at hS
      go_wp2
      go_ret
      exact ⟨_, rfl, hS.out.base HB1.out⟩
end Go.Proofs.Ytpjcmhlgdgadjaa
