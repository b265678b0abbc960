/- The document's side: a name that is given something. PRINTED by gen32.py out of H24. The document's side: Sets. PRINTED by gen33.py. -/
import Derived.Test.YtpjcmhlgdgadjaaKk
import Derived.Test.YtpjcmhlgdgadjaaKl
namespace Go.Proofs.Ytpjcmhlgdgadjaa
open Go.RowKit
set_option linter.unusedVariables false
set_option maxRecDepth 100000 in
theorem rwassign_any {A : Nat → Prop} {w : World} {t : Tr} (hA : ∀ b, A b → b < w.heap.size) (h : Lies A w .word t) : Calls Try.prog 42 #[.agg t.cs.toArray] w (AssignEnd w t) := by
  obtain ⟨pa, pc, ps, rfl, hr, hk⟩ := h.word
  simp only [Tr.cs]
  have e0 : (Tr.mk [.slice pa ps.length pc] [ps]).r 0 = ps := rfl
  unfold AssignEnd assignOf
  rw [e0]
  clear e0
  match ps, hr, hk with
  | [], hr, hk =>
    clear hr hk
    go_enter Try.func42, Try.ntmps42
    go_wp2
    refine bodyPost_ret (results_mid rfl rfl (load_word (b := w.heap.size + 1) (A := none) (N := 0) (C := 0) ?_)) rfl ?_
    · simp
    · exact ⟨⟨_, _, _, rfl⟩, (below_alloc w _).alloc (by simp) _⟩
  | p :: tl, hr, hk =>
    rw [assignP_cons]
    have hp := hk p (by simp)
    have hlen := hr.len
    have hlen2 : tl.length + 1 ≤ 1048576 := hlen
    obtain ⟨b, off, rfl, hAb, hb0, hcell⟩ := cells_at hr (k := 0) (x := p) rfl
    obtain ⟨k0, k1, k2⟩ := part_k hp
    have c0 := hcell 0 (by omega)
    have c1 := hcell 1 (by omega)
    rw [k0] at c0
    rw [k1] at c1
    simp only [Nat.zero_mul, Nat.add_zero] at c0 c1
    have hl1 : (p :: tl).length = tl.length + 1 := rfl
    rw [hl1] at *
    have hpos : (0 : Int) < (tl.length : Int) + 1 := by omega
    have hne : ¬ ((tl.length : Int) + 1 = 0) := by omega
    have hneb : (((tl.length : Int) + 1) == 0) = false := by simpa using hne
    have hw2 : IntKind.i64.wrap (1 : Int) = 1 := by decide
    have hw3 : (1 : Int) ≤ (tl.length : Int) + 1 := by omega
    have hrl : tl.length + 1 ≤ pc ∧ pc ≤ maxLen := by
      obtain ⟨a', c', e, _, h1, h2, _⟩ := hr.lies
      cases e
      exact ⟨h1, h2⟩
    obtain ⟨ad, had, hT⟩ : ∃ ad : Addr, (if pc = 1 then some (⟨b, off, none⟩ : Addr) else some ⟨b, off + 5, none⟩) = some ad ∧ ∀ y, Below w.heap.size w y → SrcOK y (.slice (some ad) tl.length (pc - 1)) tl.length 5 (tl.flatMap Tr.cs) := by
      by_cases h1 : pc = 1
      · have h0 : tl = [] := List.eq_nil_of_length_eq_zero (by omega)
        subst h0
        exact ⟨_, if_pos h1, fun y hy => ⟨fun u hu => (by cases hu), .inr ⟨_, _, rfl, rfl, fun j u hj => by cases hj⟩⟩⟩
      · exact ⟨_, if_neg h1, fun y hy => (hr.tail.later hA hy).src (ty := .part) (fun x hx => (hk x (by simp [hx])).later hA hy) rfl⟩
    have hones : ∀ u ∈ tl.flatMap Tr.cs, u.oneCell' = true := flat_ones (fun x hx => hk x (by simp [hx]))
    have HT := Lib.hid hT
    have HONES := Lib.hid hones
    have hai := assignI_lt (p.s 1)
    clear hr hk hp hcell hAb k0 k1 hT hones hl1 hA
    by_cases hk1 : p.k 0 = 1
    · have hq : (p.k 0 == 1) = true := by simp [hk1]
      have HCA := Lib.hid (rassign_any (p.s 1) k2)
      by_cases hneg : assignI (p.s 1) < 0
      · have hm1 : assignI (p.s 1) = -1 := by omega
        rw [if_neg (by omega)]
        rw [hm1] at HCA
        generalize p.k 0 = pk at *
        subst hk1
        clear hai hneg hm1
        generalize p.s 1 = s at *
        go_enter Try.func42, Try.ntmps42
        go_wp2_with (go_at_call 58; refine (HCA.out _).mono ?_; rintro e w1 ⟨rfl, hw1⟩; subst hw1)
        refine bodyPost_ret (results_mid rfl rfl (load_word (b := w.heap.size + 1) (A := none) (N := 0) (C := 0) ?_)) rfl ?_
        · simp
        · exact ⟨⟨_, _, _, rfl⟩, (below_alloc w _).alloc (by simp) _⟩
      · obtain ⟨kk, hkk⟩ : ∃ kk : Nat, assignI (p.s 1) = kk := ⟨(assignI (p.s 1)).toNat, by omega⟩
        rw [if_pos ⟨hk1, by omega⟩, hkk, Int.toNat_natCast]
        rw [hkk] at HCA hai
        have hks : kk < (p.s 1).size := by omega
        generalize p.k 0 = pk at *
        subst hk1
        generalize p.s 1 = s at *
        have hneg2 : ¬ ((kk : Int) < 0) := by omega
        clear hneg hkk hai
        go_enter Try.func42, Try.ntmps42
        obtain ⟨W2, hW2⟩ : ∃ W2, (w.alloc (.cells #[.slice (some ⟨b, off, none⟩) (tl.length + 1) pc] 41)).alloc (.cells #[.slice none 0 0] 41) = W2 := ⟨_, rfl⟩
        have hb2 : Below w.heap.size w W2 := by rw [← hW2]; exact (below_alloc w _).alloc (by simp) _
        have hs2 : W2.heap.size = w.heap.size + 2 := by rw [← hW2]; simp
        have hx1 : Blk W2 w.heap.size 41 #[.slice (some ⟨b, off, none⟩) (tl.length + 1) pc] := by rw [← hW2]; exact (Blk.new w 41 _).alloc _
        have hx2 : Blk W2 (w.heap.size + 1) 41 #[.slice none 0 0] := by
          rw [← hW2]
          have := Blk.new (w.alloc (.cells #[.slice (some ⟨b, off, none⟩) (tl.length + 1) pc] 41)) 41 #[.slice none 0 0]
          rwa [World.size_alloc] at this
        have d0 := hx1.cell 0
        have d1 := hx2.cell 0
        have f1 := hx2.frozen 0
        simp at d0 d1
        have HB2 := Lib.hid hb2
        have HX1 := Lib.hid hx1
        have HX2 := Lib.hid hx2
        have HW2 := Lib.hid hW2
        clear hW2 hx1 hx2 hb2
        by_cases hlast : kk + 1 < s.size
        · have hl2 : (kk : Int) + 1 < (s.size : Int) := by omega
          have hw5 : IntKind.i64.wrap ((kk : Int) + 1) = (kk : Int) + 1 := by rw [IntKind.wrap_i64]; omega
          have hw6 : IntKind.i64.wrap (kk : Int) = (kk : Int) := by rw [IntKind.wrap_i64]; omega
          have hk1' : (kk : Int) ≤ (s.size : Int) := by omega
          go_wp2_with (first
            | (go_at_call 58; rw [HW2.out]; refine (HCA.out _).mono ?_; rintro e w1 ⟨rfl, hw1⟩; subst hw1)
            | (at_builtin; refine wpList_app ElPart (.tmp 36) (.tmp 42) rfl rfl (base := w.heap.size + 2) (n := 0) (m := 1) (N := 1) (v := .slice none 0 0) (src := .slice (some ⟨w.heap.size + 2, 0, none⟩) 1 1) (xs := []) (news := [.int .i64 1, .string (s.extract (kk + 1) s.size), .string ⟨#[]⟩, .slice none 0 0, .slice none 0 0]) rfl rfl (World.ownsRow_nil _ _ _ _) (by have := part_src W2 (s.extract (kk + 1) s.size); rw [hs2] at this; exact this) rfl (by unfold maxLen; omega) (by omega) (by simp; omega) ?_
               intro A8 c8 w8 r1 r2 r3
               have hb8 : Below W2.heap.size W2 w8 := (below_alloc W2 _).trans ((r2.below (by simp; omega)).mono (by omega))
               have hx8 := HX1.out.below hb8 (by omega)
               have hx9 := HX2.out.below hb8 (by omega)
               have HBB : Hid (Below w.heap.size w w8) := Lib.hid (HB2.out.trans (hb8.mono (by omega)))
               have a0 := hx8.cell 0
               have a1 := hx9.cell 0
               have g1 := hx9.frozen 0
               simp at a0 a1
               have HX9 := Lib.hid hx9
               have HR8 := Lib.hid r1
               have HSRC := Lib.hid (HT.out w8 HBB.out)
               have hz8 := hb8.size
               clear r1 r2 r3 hb8 hx8 hx9))
          go_region_law (first
            | (refine step_app ElPart (.tmp 47) (.tmp 50) ?_ ?_ (base := w.heap.size + 2) (n := 1) (m := tl.length) (N := 1 + tl.length) (v := .slice A8 1 c8) (src := .slice (some ad) tl.length (pc - 1)) (xs := [.int .i64 1, .string (s.extract (kk + 1) s.size), .string ⟨#[]⟩, .slice none 0 0, .slice none 0 0]) (news := tl.flatMap Tr.cs) ?_ ?_ ?_ ?_ ?_ ?_ ?_ ?_ ?_
               · rfl
               · rfl
               · rfl
               · rfl
               · exact HR8.out
               · exact HSRC.out
               · omega
               · unfold maxLen; omega
               · omega
               · exact (show w.heap.size + 2 ≤ w8.heap.size by omega)
               intro A9 c9 w9 r1 r2 r3
               have hx9 := r2.blk (g := w.heap.size + 1) (t := 41) (cs := #[.slice none 0 0]) HX9.out (.inl (by omega))
               have d9 := hx9.cell 0
               have f9 := hx9.frozen 0
               simp at d9
               have HX10 := Lib.hid hx9
               have HB9 : Hid (Below w.heap.size w w9) := Lib.hid (HBB.out.trans ((below_drew (Below.refl w.heap.size _)).trans ((r2.below (show w.heap.size + 2 ≤ w8.heap.size by omega)).mono (by omega))))
               clear r1 r2 r3 hx9))
          all_goals go_wp2
          all_goals
            refine bodyPost_ret (results_mid rfl rfl (load_word (b := w.heap.size + 1) (A := A9) (N := 1 + tl.length) (C := c9) ?_)) rfl ?_
            · have := (HX10.out.set_ 0 (.slice A9 (1 + tl.length) c9)).cell 0
              simpa using this
            · exact ⟨⟨_, _, _, rfl⟩, HB9.out.setCell (p := ⟨w.heap.size + 1, 0, none⟩) (by simp) _⟩
        · have hl2 : ¬ ((kk : Int) + 1 < (s.size : Int)) := by omega
          have hw6 : IntKind.i64.wrap (kk : Int) = (kk : Int) := by rw [IntKind.wrap_i64]; omega
          have hk1' : (kk : Int) ≤ (s.size : Int) := by omega
          go_wp2_with (go_at_call 58; rw [HW2.out]; refine (HCA.out _).mono ?_; rintro e w1 ⟨rfl, hw1⟩; subst hw1)
          have HX9 := HX2
          have HBB := HB2
          have HSRC := Lib.hid (HT.out W2 HBB.out)
          go_region_law (first
            | (refine step_app ElPart (.tmp 47) (.tmp 50) ?_ ?_ (base := w.heap.size + 2) (n := 0) (m := tl.length) (N := tl.length) (v := .slice none 0 0) (src := .slice (some ad) tl.length (pc - 1)) (xs := []) (news := tl.flatMap Tr.cs) ?_ ?_ ?_ ?_ ?_ ?_ ?_ ?_ ?_
               · rfl
               · rfl
               · rfl
               · rfl
               · exact World.ownsRow_nil _ _ _ _
               · exact HSRC.out
               · omega
               · unfold maxLen; omega
               · omega
               · exact (show w.heap.size + 2 ≤ W2.heap.size by omega)
               intro A9 c9 w9 r1 r2 r3
               have hx9 := r2.blk (g := w.heap.size + 1) (t := 41) (cs := #[.slice none 0 0]) HX9.out (.inl (by omega))
               have d9 := hx9.cell 0
               have f9 := hx9.frozen 0
               simp at d9
               have HX10 := Lib.hid hx9
               have HB9 : Hid (Below w.heap.size w w9) := Lib.hid (HBB.out.trans ((below_drew (Below.refl w.heap.size _)).trans ((r2.below (show w.heap.size + 2 ≤ W2.heap.size by omega)).mono (by omega))))
               clear r1 r2 r3 hx9))
          all_goals go_wp2
          all_goals
            refine bodyPost_ret (results_mid rfl rfl (load_word (b := w.heap.size + 1) (A := A9) (N := tl.length) (C := c9) ?_)) rfl ?_
            · have := (HX10.out.set_ 0 (.slice A9 (tl.length) c9)).cell 0
              simpa using this
            · exact ⟨⟨_, _, _, rfl⟩, HB9.out.setCell (p := ⟨w.heap.size + 1, 0, none⟩) (by simp) _⟩
    · have hq : (p.k 0 == 1) = false := by simpa using hk1
      rw [if_neg (fun h => hk1 h.1)]
      generalize p.k 0 = pk at *
      go_enter Try.func42, Try.ntmps42
      go_wp2
      refine bodyPost_ret (results_mid rfl rfl (load_word (b := w.heap.size + 1) (A := none) (N := 0) (C := 0) ?_)) rfl ?_
      · simp
      · exact ⟨⟨_, _, _, rfl⟩, (below_alloc w _).alloc (by simp) _⟩
end Go.Proofs.Ytpjcmhlgdgadjaa

namespace Go.Proofs.Ytpjcmhlgdgadjaa
open Go.RowKit
set_option linter.unusedVariables false
set_option maxRecDepth 100000 in
set_option maxHeartbeats 3200000 in
theorem rsets_any {A : Nat → Prop} {w : World} {t : Tr} (hsz : t.sz ≤ 1048576) (hA : ∀ b, A b → b < w.heap.size) (hl : Lies A w .node t) :
    Calls Try.prog 21 #[.agg t.cs.toArray] w fun e w' => ∃ o, e = .returned o ∧ OutAt 9 1 w ((all t).flatMap setV).length ((all t).flatMap setV) o w' := by
  obtain ⟨W, hW⟩ : ∃ W, w.alloc (.cells t.cs.toArray 28) = W := ⟨_, rfl⟩
  have hbW : Below w.heap.size w W := by rw [← hW]; exact below_alloc _ _
  have hWs : W.heap.size = w.heap.size + 1 := by rw [← hW]; simp
  have hall := rall_any _ t (Nat.le_refl _) hsz A W (fun b hb => by have := hA b hb; omega) (hl.later hA hbW)
  have hlies : ∀ x ∈ all t, Lies A w .node x := all_lies _ [t] (Nat.le_refl _) (by simpa using hl)
  have hlen : ((all t).flatMap setV).length ≤ t.sz := sets_sz t
  have hn : (all t).length ≤ 1048576 := Nat.le_trans (all_sz t) hsz
  have hxsz : ∀ x ∈ all t, x.sz ≤ 1048576 := fun x hx => by
    have h1 := szAll _ [t] (Nat.le_refl _) x hx
    simp [szL] at h1
    omega
  have HPL : Hid (∀ pre, pre <+: all t → (pre.flatMap setV).length ≤ 1048576) := Lib.hid (fun pre hp => by have := flat_pre (f := setV) hp; omega)
  obtain ⟨zk, zs, z1, z2, zoa, zon, zoc, zaa, zan, zac, zwa, zwn, zwc, zra, zrn, zrc, zma, zmn, zmc, zka, zkn, zkc, hcs⟩ := hl.node10
  rw [hcs] at hW hall ⊢
  generalize all t = xs at *
  have HALL := Lib.hid hall
  have HLIES := Lib.hid hlies
  have HXSZ := Lib.hid hxsz
  have HA := Lib.hid hA
  have HBW := Lib.hid hbW
  have HW := Lib.hid hW
  have hEl := ElStr
  clear hall hlies hxsz hA hbW hW hcs hl hlen
  go_enter Try.func21, Try.ntmps21
  go_wp2_with (go_at_call 11; rw [HW.out]; refine HALL.out.mono ?_; rintro e w1 ⟨o, rfl, Ab, cb, rfl, hob, hb1⟩
               have HOB := Lib.hid hob
               have HB1 := Lib.hid (HBW.out.trans (hb1.mono (by omega)))
               have hz1 := hb1.size
               clear hob hb1)
  clear HALL HW
  go_loopw [3, 5] (fun o i wr => ∃ k : Nat, k ≤ xs.length ∧ i = .int .i64 k ∧ Hid (OutAt 9 1 w1 ((xs.take k).flatMap setV).length ((xs.take k).flatMap setV) o wr)) (fun _ i _ => xs.length - (intOf i).toNat)
  case atStart => exact ⟨0, Nat.zero_le _, rfl, Lib.hid (by simpa using OutAt.nil _ _ _)⟩
  case round =>
    obtain ⟨k, hk, rfl, hS⟩ := hrel
    by_cases hlt : k < xs.length
    · have hO := hS.out
      obtain ⟨m, hm⟩ : ∃ m, xs.length = m + 1 := ⟨xs.length - 1, by omega⟩
      obtain ⟨gb, rfl, -, hgb⟩ : ∃ g, Ab = some ⟨g, 0, none⟩ ∧ W.heap.size ≤ g ∧ g < w1.heap.size := by have h1 := HOB.out; rw [hm] at h1; exact own_some h1
      have hx := HLIES.out xs[k] (List.getElem_mem hlt)
      have hxz := HXSZ.out xs[k] (List.getElem_mem hlt)
      have hcell := own_tree HOB.out (fun x hx => (HLIES.out x hx).len) rfl k hlt
      have hsn := flat_snoc (f := setV) hlt
      have hpl := HPL.out _ (List.take_prefix (k + 1) xs)
      rw [hsn, List.length_append] at hpl
      have HSN := Lib.hid hsn
      clear hsn hm
      generalize xs[k] = p at *
      have HCELL := Lib.hid hcell
      obtain ⟨yk, ys, y1, y2, yoa, yos, yoc, yaa, yas, yac, ywa, yws, ywc, yra, yrs, yrc, yma, yms, ymc, yka, yks, ykc, hpc, hpg, hpr⟩ := setV_open hx
      have HPG := Lib.hid hpg
      have HPR := Lib.hid hpr
      have hbo := hO.below
      have e0 := (hbo.cell (p := ⟨gb, k * 10, none⟩) hgb).trans (hcell 0 (by omega))
      have e1 := (hbo.cell (p := ⟨gb, k * 10 + 1, none⟩) hgb).trans (hcell 1 (by omega))
      have e2 := (hbo.cell (p := ⟨gb, k * 10 + 2, none⟩) hgb).trans (hcell 2 (by omega))
      have e3 := (hbo.cell (p := ⟨gb, k * 10 + 3, none⟩) hgb).trans (hcell 3 (by omega))
      have e4 := (hbo.cell (p := ⟨gb, k * 10 + 4, none⟩) hgb).trans (hcell 4 (by omega))
      have e5 := (hbo.cell (p := ⟨gb, k * 10 + 5, none⟩) hgb).trans (hcell 5 (by omega))
      have e6 := (hbo.cell (p := ⟨gb, k * 10 + 6, none⟩) hgb).trans (hcell 6 (by omega))
      have e7 := (hbo.cell (p := ⟨gb, k * 10 + 7, none⟩) hgb).trans (hcell 7 (by omega))
      have e8 := (hbo.cell (p := ⟨gb, k * 10 + 8, none⟩) hgb).trans (hcell 8 (by omega))
      have e9 := (hbo.cell (p := ⟨gb, k * 10 + 9, none⟩) hgb).trans (hcell 9 (by omega))
      rw [hpc] at e0 e1 e2 e3 e4 e5 e6 e7 e8 e9
      simp only [List.getElem?_cons_zero, List.getElem?_cons_succ] at e0 e1 e2 e3 e4 e5 e6 e7 e8 e9
      have hwr : Below w.heap.size w wr := HB1.out.trans (hbo.mono (by omega))
      have hw1z := HB1.out.size
      have HWR := Lib.hid hwr
      have HPC := Lib.hid hpc
      have HX := Lib.hid hx
      generalize hP : (xs.take k).flatMap setV = P at *
      generalize hpn : P.length = n at *
      have HPN := Lib.hid hpn
      obtain ⟨Ao, oo, rfl, ho, hbo'⟩ := hO
      have hzr := hbo.size
      have HO := Lib.hid ho
      have HB := Lib.hid hbo
      clear hpg hpr hx hcell hP hpn ho hbo hbo' hS hwr hpc
      have HO0 : Hid (OutAt 9 1 w1 n P (.slice Ao n oo) wr) := Lib.hid ⟨Ao, oo, rfl, HO.out, HB.out⟩
      have HLE : Hid (∀ j, ((yas.take j).flatMap setR).length ≤ (yas.flatMap setR).length) := Lib.hid (fun j => flat_pre (List.take_prefix j yas))
      rw [HPG.out, List.length_append] at hpl
      obtain ⟨Lm, hLm⟩ : ∃ Lm, (yas.flatMap setR).length = Lm := ⟨_, rfl⟩
      rw [hLm] at hpl HLE
      have HLM := Lib.hid hLm
      have hrl := HPR.out.1.len
      have hg0 := HCELL.out 0 (by omega)
      have hg1 := HCELL.out 1 (by omega)
      have hg5 := HCELL.out 5 (by omega)
      rw [HPC.out] at hg0 hg1 hg5
      simp only [List.getElem?_cons_zero, List.getElem?_cons_succ] at hg0 hg1 hg5
      clear hLm HO HB hzr
      go_wp2
      go_loopw [3, 6] (fun o i wx => ∃ j : Nat, j ≤ yas.length ∧ i = .int .i64 j ∧ Hid (OutAt 9 1 w1 (n + ((yas.take j).flatMap setR).length) (P ++ (yas.take j).flatMap setR) o wx)) (fun _ i _ => yas.length - (intOf i).toNat)
      case atStart => exact ⟨0, Nat.zero_le _, rfl, Lib.hid (by simpa using HO0.out)⟩
      case round =>
        rename World => wx
        obtain ⟨j, hj, rfl, hS⟩ := hrel
        have hbx := hS.out.below
        have d5 := (hbx.cell (p := ⟨gb, k * 10 + 5, none⟩) hgb).trans hg5
        by_cases hlt2 : j < yas.length
        · have hO := hS.out
          have hx := List.getElem?_eq_getElem hlt2
          obtain ⟨b, off, rfl, hAb0, hb0, hcellr⟩ := cells_at HPR.out.1 hx
          have hp := HPR.out.2 yas[j] (List.getElem_mem hlt2)
          have htk := flat_snoc (f := setR) hlt2
          have hle := HLE.out (j + 1)
          rw [htk, List.length_append] at hle
          have HTK := Lib.hid htk
          clear htk hx
          generalize yas[j] = r at *
          have hwx : Below w.heap.size w wx := HB1.out.trans (hbx.mono (by omega))
          have hzx := hbx.size
          have r0 := (hwx.cell (p := ⟨b, off + j, none⟩) hb0).trans (by simpa using hcellr 0 (by omega))
          have HAS := Lib.hid (rwassign_any (A := A) (w := wx) (fun b hb => by have := HA.out b hb; omega) (hp.later HA.out hwx))
          obtain ⟨pa, pc, ps, hpe, -, -⟩ := hp.word
          have hpcw : r.cs = [.slice pa ps.length pc] := by rw [hpe]; rfl
          rw [hpcw] at r0 HAS
          simp only [List.getElem?_cons_zero] at r0
          unfold AssignEnd at HAS
          have hgr : setR r = (assignOf r).toList.map Value.string := rfl
          rw [hgr] at HTK hle
          generalize hys : (yas.take j).flatMap setR = ys' at *
          generalize hmm : ys'.length = mm at *
          have HOX := Lib.hid hO
          clear hcellr hp hpe hpcw hgr hS hb0 hAb0 hys hwx
          cases hao : assignOf r with
          | none =>
            rw [hao] at HAS HTK
            have HTN : Hid (n + ((yas.take (j + 1)).flatMap setR).length = n + mm) := Lib.hid (by rw [HTK.out, List.length_append, hmm]; rfl)
            obtain ⟨Ao, oo, rfl, -, -⟩ := hO
            clear hmm hle hao
            go_wp2_with (go_at_call 42; refine HAS.out.mono ?_; rintro e w8 ⟨⟨A8, N8, C8, rfl⟩, hb8⟩
                         have HB8 := Lib.hid hb8
                         have hz8 := hb8.size
                         clear hb8)
            go_roundw
            case rel => exact ⟨j + 1, by omega, by go_num, Lib.hid (by rw [HTN.out, HTK.out]; simpa using HOX.out.later (HB8.out.alloc hz8 _))⟩
            case measure => simp [intOf]; omega
          | some s =>
            rw [hao] at HAS HTK hle
            have HTN : Hid (n + ((yas.take (j + 1)).flatMap setR).length = n + (mm + 1)) := Lib.hid (by rw [HTK.out, List.length_append, hmm]; rfl)
            simp only [Option.toList, List.map_cons, List.map_nil, List.length_cons, List.length_nil] at hle
            obtain ⟨Ao, oo, rfl, ho, hbo⟩ := hO
            have HO := Lib.hid ho
            have HBX := Lib.hid hbo
            clear hmm hao ho hbo
            go_wp2_with (first
              | (go_at_call 42; refine HAS.out.mono ?_; rintro e w8 ⟨⟨A8, N8, C8, rfl⟩, hb8⟩
                 have HB8 := Lib.hid hb8
                 have hz8 := hb8.size
                 have HO8 := Lib.hid (own_below HO.out hb8)
                 have hsrc : SrcOK ((w8.alloc (.cells #[.slice A8 N8 C8] 41)).alloc (.cells #[.string s] 9)) (.slice (some ⟨w8.heap.size + 1, 0, none⟩) 1 1) 1 1 [.string s] := by
                   have := one_src (w := w8.alloc (.cells #[.slice A8 N8 C8] 41)) (t := 9) (e := 0) (u := .string s) rfl
                   rwa [World.size_alloc] at this
                 have HSRC := Lib.hid hsrc
                 clear hb8 hsrc)
              | (at_builtin; refine wpList_app ElStr (.tmp 42) (.tmp 44) rfl rfl (base := w1.heap.size) (n := n + mm) (m := 1) (N := n + (mm + 1)) (v := .slice Ao (n + mm) oo) (src := .slice (some ⟨w8.heap.size + 1, 0, none⟩) 1 1) (xs := P ++ ys') (news := [.string s]) rfl rfl ((HO8.out.alloc _).alloc _) HSRC.out (by omega) (by unfold maxLen; omega) (by omega) (by simp; omega) ?_
                 intro A9 c9 w9 r1 r2 r3
                 have HF := Lib.hid (out_app HBX.out r1 ((((Keeps.of_below HB8.out).alloc _).alloc _).trans r2))
                 clear r1 r2 r3))
            go_roundw
            case rel => exact ⟨j + 1, by omega, by go_num, Lib.hid (by rw [HTN.out, HTK.out, ← List.append_assoc]; exact HF.out)⟩
            case measure => simp [intOf]; omega
        · obtain rfl : j = yas.length := by omega
          rw [List.take_length] at hS
          have hO := hS.out
          have hmm := HLM.out
          rw [hmm] at hO
          have d0 := (hbx.cell (p := ⟨gb, k * 10, none⟩) hgb).trans hg0
          have d1 := (hbx.cell (p := ⟨gb, k * 10 + 1, none⟩) hgb).trans hg1
          generalize yas.flatMap setR = ys' at *
          have hpg := HPG.out
          have HOX := Lib.hid hO
          obtain ⟨Ao, oo, rfl, ho, hbo⟩ := hO
          have hzx := hbo.size
          have HO := Lib.hid ho
          have HBX := Lib.hid hbo
          clear ho hbo hS HPG
          by_cases h7 : yk = 7
          · subst h7
            rw [if_pos rfl] at hpg hpl
            simp only [List.length_cons, List.length_nil] at hpl
            have HPG := Lib.hid hpg
            clear hpg
            go_wp2_with (at_builtin; refine wpList_app ElStr (.tmp 52) (.tmp 58) rfl rfl (base := w1.heap.size) (n := n + Lm) (m := 1) (N := n + (Lm + 1)) (v := .slice Ao (n + Lm) oo) (src := .slice (some ⟨wx.heap.size, 0, none⟩) 1 1) (xs := P ++ ys') (news := [.string ys]) rfl rfl (HO.out.alloc _) (one_src (e := 0) rfl) (by omega) (by unfold maxLen; omega) (by omega) (by simp; omega) ?_
                         intro A9 c9 w9 r1 r2 r3
                         have HF := Lib.hid (out_app HBX.out r1 (((Keeps.refl w1.heap.size [9] wx).alloc _).trans r2))
                         clear r1 r2 r3)
            go_roundw
            case rel => exact ⟨k + 1, by omega, by go_num, Lib.hid (by rw [HSN.out, List.length_append, HPN.out, HPG.out, List.length_append, HLM.out, ← List.append_assoc]; exact HF.out)⟩
            case measure => simp [intOf]; omega
          · have hq : (yk == 7) = false := by simpa using h7
            rw [if_neg h7, List.append_nil] at hpg
            have HPG := Lib.hid hpg
            clear hpg
            go_wp2
            go_roundw
            case rel => exact ⟨k + 1, by omega, by go_num, Lib.hid (by rw [HSN.out, List.length_append, HPN.out, HPG.out, HLM.out]; exact HOX.out)⟩
            case measure => simp [intOf]; omega
    · obtain rfl : k = xs.length := by omega
      rw [List.take_length] at hS
      go_wp2
      go_ret
      exact ⟨_, rfl, hS.out.base HB1.out⟩
end Go.Proofs.Ytpjcmhlgdgadjaa
