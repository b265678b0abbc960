/- Rows of strings, of numbers: the same row is the same. PRINTED by gen38.py. The same parts are the same. Rows of nodes, of words, of parts: the same row is the same. PRINTED by gen40.py. -/
import Derived.Test.YtpjcmhlgdgadjaaKp
import Derived.Deep.QuietTactic
namespace Go.Proofs.Ytpjcmhlgdgadjaa
open Go.RowKit
set_option linter.unusedVariables false
theorem below_draws {B : Nat} {w w' : World} (h : Below B w w') (n : Nat) : Below B w (w'.drewN n) := ⟨h.os, h.tape, h.output, h.size, h.block⟩
def strT (s : ByteArray) : Tr := .mk [.string s] [[]]
theorem strT_cs (l : List ByteArray) : (l.map strT).flatMap Tr.cs = l.map Value.string := by
  induction l with
  | nil => rfl
  | cons s l ih => simp only [List.map_cons, List.flatMap_cons, ih]; rfl
set_option maxRecDepth 100000 in
set_option maxHeartbeats 1600000 in
theorem rsame4_any {A : Nat → Prop} {w : World} {u v : Value} {l : List Tr} (hu : RowAt A w 1 u l) (hv : RowAt A w 1 v l) (hl : ∀ x ∈ l, ∃ s : ByteArray, x.cs = [.string s]) :
    Calls Try.prog 16 #[u, v] w fun e w' => e = .returned (.bool true) ∧ Below w.heap.size w w' := by
  obtain ⟨a, c, rfl⟩ := hu.form
  obtain ⟨b, d, rfl⟩ := hv.form
  have hlen := hu.len
  have HU := Lib.hid hu
  have HV := Lib.hid hv
  have HL := Lib.hid hl
  clear hu hv hl
  go_enter Try.func16, Try.ntmps16
  go_wp2
  go_loopw [5] (fun i wr => ∃ k : Nat, k ≤ l.length ∧ i = .int .i64 k ∧ Hid (Below w.heap.size w wr)) (fun i _ => l.length - (intOf i).toNat)
  case atStart => exact ⟨0, Nat.zero_le _, rfl, Lib.hid (Below.refl _ _)⟩
  case round =>
    obtain ⟨k, hk, rfl, hS⟩ := hrel
    by_cases hlt : k < l.length
    · have hx := List.getElem?_eq_getElem hlt
      obtain ⟨b1, off1, rfl, -, hlt1, hc1⟩ := cells_at HU.out hx
      obtain ⟨b2, off2, rfl, -, hlt2, hc2⟩ := cells_at HV.out hx
      obtain ⟨x, hxe⟩ := HL.out l[k] (List.getElem_mem hlt)
      have e1 := (hS.out.cell (p := ⟨b1, off1 + k, none⟩) hlt1).trans (by simpa using hc1 0 (by omega))
      have e2 := (hS.out.cell (p := ⟨b2, off2 + k, none⟩) hlt2).trans (by simpa using hc2 0 (by omega))
      rw [hxe] at e1 e2
      simp only [List.getElem?_cons_zero] at e1 e2
      have hb : (x.toList != x.toList) = false := by simp
      clear hx hc1 hc2 hxe
      go_wp2
      go_quiet (fail)
      have HDD := Lib.hid (below_draws hS.out nq)
      go_wp2
      go_roundw
      case rel => exact ⟨k + 1, by omega, by go_num, HDD⟩
      case measure => simp [intOf]; omega
    · obtain rfl : k = l.length := by omega
      go_wp2
      go_ret
      exact ⟨rfl, hS.out⟩
set_option maxRecDepth 100000 in
set_option maxHeartbeats 1600000 in
theorem rints_any {A : Nat → Prop} {w : World} {u v : Value} {l : List Tr} (hu : RowAt A w 1 u l) (hv : RowAt A w 1 v l) (hl : ∀ x ∈ l, ∃ k : Int, x.cs = [.int .i64 k]) :
    Calls Try.prog 49 #[u, v] w fun e w' => e = .returned (.bool true) ∧ Below w.heap.size w w' := by
  obtain ⟨a, c, rfl⟩ := hu.form
  obtain ⟨b, d, rfl⟩ := hv.form
  have hlen := hu.len
  have HU := Lib.hid hu
  have HV := Lib.hid hv
  have HL := Lib.hid hl
  clear hu hv hl
  go_enter Try.func49, Try.ntmps49
  go_wp2
  go_loopw [5] (fun i wr => ∃ k : Nat, k ≤ l.length ∧ i = .int .i64 k ∧ Hid (Below w.heap.size w wr)) (fun i _ => l.length - (intOf i).toNat)
  case atStart => exact ⟨0, Nat.zero_le _, rfl, Lib.hid (Below.refl _ _)⟩
  case round =>
    obtain ⟨k, hk, rfl, hS⟩ := hrel
    by_cases hlt : k < l.length
    · have hx := List.getElem?_eq_getElem hlt
      obtain ⟨b1, off1, rfl, -, hlt1, hc1⟩ := cells_at HU.out hx
      obtain ⟨b2, off2, rfl, -, hlt2, hc2⟩ := cells_at HV.out hx
      obtain ⟨x, hxe⟩ := HL.out l[k] (List.getElem_mem hlt)
      have e1 := (hS.out.cell (p := ⟨b1, off1 + k, none⟩) hlt1).trans (by simpa using hc1 0 (by omega))
      have e2 := (hS.out.cell (p := ⟨b2, off2 + k, none⟩) hlt2).trans (by simpa using hc2 0 (by omega))
      rw [hxe] at e1 e2
      simp only [List.getElem?_cons_zero] at e1 e2
      have hb : (x != x) = false := by simp
      clear hx hc1 hc2 hxe
      go_wp2
      go_quiet (fail)
      have HDD := Lib.hid (below_draws hS.out nq)
      go_wp2
      go_roundw
      case rel => exact ⟨k + 1, by omega, by go_num, HDD⟩
      case measure => simp [intOf]; omega
    · obtain rfl : k = l.length := by omega
      go_wp2
      go_ret
      exact ⟨rfl, hS.out⟩
end Go.Proofs.Ytpjcmhlgdgadjaa

namespace Go.Proofs.Ytpjcmhlgdgadjaa
open Go.RowKit
set_option linter.unusedVariables false
set_option maxRecDepth 100000 in
set_option maxHeartbeats 1600000 in
theorem rsame24_any (N : Nat) : ∀ l : List Tr, szL l ≤ N → ∀ (A : Nat → Prop) (w : World) (v : Value), (∀ b, A b → b < w.heap.size) → RowAt A w 5 v l → (∀ x ∈ l, Lies A w .part x) →
    Calls Try.prog 15 #[v, v] w fun e w' => e = .returned (.bool true) ∧ Below w.heap.size w w' := by
  induction N with
  | zero =>
    intro l hl A w v hA hr hk
    have hn : l = [] := by
      cases l with
      | nil => rfl
      | cons p r => have := p.sz_pos; simp only [szL] at hl; omega
    subst hn
    obtain ⟨a, c, rfl⟩ := hr.form
    clear hl hk hr hA
    go_enter Try.func15, Try.ntmps15
    go_wp2
    go_loopw [5] (fun i wr => i = .int .i64 0 ∧ Hid (wr = w)) (fun i _ => 0)
    case atStart => exact ⟨rfl, Lib.hid rfl⟩
    case round =>
      obtain ⟨rfl, hS⟩ := hrel
      go_wp2
      go_ret
      exact ⟨rfl, by rw [hS.out]; exact Below.refl _ _⟩
  | succ N ih =>
  intro l hN A w v hA hr hk
  obtain ⟨a, c, rfl⟩ := hr.form
  have hlen := hr.len
  have HIH : Hid (∀ x ∈ l, ∀ y, Below w.heap.size w y → Calls Try.prog 15 #[x.c 3, x.c 3] y fun e w' => e = .returned (.bool true) ∧ Below y.heap.size y w') := Lib.hid (fun x hx y hy => by
    have h1 := szL_mem hx
    have h2 := x.sz_r 3
    have h3 := (hk x hx).later hA hy
    exact ih (x.r 3) (by omega) A y _ (fun b hb => by have := hA b hb; have := hy.size; omega) (h3.row (i := 3) (u := .part) rfl) (h3.kids (i := 3) (u := .part) rfl))
  have HR := Lib.hid hr
  have HK := Lib.hid hk
  clear hr hk hA ih hN
  go_enter Try.func15, Try.ntmps15
  go_wp2
  go_loopw [5] (fun i wr => ∃ k : Nat, k ≤ l.length ∧ i = .int .i64 k ∧ Hid (Below w.heap.size w wr)) (fun i _ => l.length - (intOf i).toNat)
  case atStart => exact ⟨0, Nat.zero_le _, rfl, Lib.hid (Below.refl _ _)⟩
  case round =>
    obtain ⟨k, hk, rfl, hS⟩ := hrel
    by_cases hlt : k < l.length
    · have hx := List.getElem?_eq_getElem hlt
      obtain ⟨b, off, rfl, -, hb0, hcell⟩ := cells_at HR.out hx
      have hp := HK.out l[k] (List.getElem_mem hlt)
      obtain ⟨I, hI1, hI2⟩ : ∃ I : World → Prop, (∀ w', I w' → Below w.heap.size w w') ∧ (∀ w', Below w.heap.size w w' → I w') := ⟨_, fun _ h => h, fun _ h => h⟩
      have hI : I wr.drew := hI2 _ (below_drew hS.out)
      have hne : Nonempty (Wd I) := ⟨⟨_, hI⟩⟩
      have XI := Lib.hid (fun x : Wd I => hI1 _ x.ok)
      have XS := Lib.hid (fun y : Wd I => wd_call (I := I) (v := .bool true) ((HIH.out l[k] (List.getElem_mem hlt) y.w (XI.out y)).mono fun e w' hh => ⟨hh.1, hI2 _ ((XI.out y).trans (hh.2.mono (XI.out y).size))⟩))
      clear hx hI1 hI2
      generalize l[k] = p at *
      obtain ⟨zk, zs, zo, pa, pc, na, nc, ps, ns, rfl, -⟩ := hp.part
      simp only [Tr.c, Tr.cs, List.getD_cons_succ, List.getD_cons_zero] at XS
      simp only [Tr.cs] at hcell
      have d0 := fun y : Wd I => ((XI.out y).cell (p := ⟨b, off + k * 5, none⟩) hb0).trans (hcell 0 (by omega))
      have d1 := fun y : Wd I => ((XI.out y).cell (p := ⟨b, off + k * 5 + 1, none⟩) hb0).trans (hcell 1 (by omega))
      have d2 := fun y : Wd I => ((XI.out y).cell (p := ⟨b, off + k * 5 + 2, none⟩) hb0).trans (hcell 2 (by omega))
      have d3 := fun y : Wd I => ((XI.out y).cell (p := ⟨b, off + k * 5 + 3, none⟩) hb0).trans (hcell 3 (by omega))
      simp only [List.getElem?_cons_zero, List.getElem?_cons_succ] at d0 d1 d2 d3
      have q0 : (zk != zk) = false := by simp
      have q1 : (zs.toList != zs.toList) = false := by simp
      have q2 : (zo.toList != zo.toList) = false := by simp
      clear hp hcell
      go_wp2_with fail
      refine wp_region_wd I (by kernel_rfl) (by kernel_rfl) hI ?_
      repeat (go_big_quiet_step (first | (go_at_call 15; with_reducible exact XS.out _)))
      refine wpQuiet_nil ?_
      intro _ hw'
      obtain ⟨x, rfl⟩ := hw'
      have HB3 := Lib.hid (XI.out x)
      clear d0 d1 d2 d3
      go_wp2
      go_roundw
      case rel => exact ⟨k + 1, by omega, by go_num, HB3⟩
      case measure => simp [intOf]; omega
    · obtain rfl : k = l.length := by omega
      go_wp2
      go_ret
      exact ⟨rfl, hS.out⟩
end Go.Proofs.Ytpjcmhlgdgadjaa

namespace Go.Proofs.Ytpjcmhlgdgadjaa
open Go.RowKit
set_option linter.unusedVariables false
/-- Same answers for nodes of so many at most. -/
def SameOK (N : Nat) : Prop := ∀ t : Tr, t.sz ≤ N → t.sz ≤ 1048576 → ∀ (A : Nat → Prop) (w : World), (∀ b, A b → b < w.heap.size) → Lies A w .node t →
    Calls Try.prog 35 #[.agg t.cs.toArray, .agg t.cs.toArray] w fun e w' => e = .returned (.bool true) ∧ Below w.heap.size w w'
set_option maxRecDepth 100000 in
set_option maxHeartbeats 1600000 in
theorem sameAll_each {N : Nat} (ih : SameOK N) {A : Nat → Prop} {w : World} {u v : Value} {l : List Tr} (hN : ∀ x ∈ l, x.sz ≤ N ∧ x.sz ≤ 1048576) (hA : ∀ b, A b → b < w.heap.size) (hu : RowAt A w 10 u l) (hv : RowAt A w 10 v l) (hl : ∀ x ∈ l, Lies A w .node x) :
    Calls Try.prog 12 #[u, v] w fun e w' => e = .returned (.bool true) ∧ Below w.heap.size w w' := by
  obtain ⟨a, c, rfl⟩ := hu.form
  obtain ⟨a2, c2, rfl⟩ := hv.form
  have hlen := hu.len
  have HIH : Hid (∀ x ∈ l, ∀ y, Below w.heap.size w y → Calls Try.prog 35 #[.agg x.cs.toArray, .agg x.cs.toArray] y fun e w' => e = .returned (.bool true) ∧ Below y.heap.size y w') := Lib.hid (fun x hx y hy =>
    ih x (hN x hx).1 (hN x hx).2 A y (fun b hb => by have := hA b hb; have := hy.size; omega) ((hl x hx).later hA hy))
  have HR := Lib.hid hu
  have HR2 := Lib.hid hv
  have HK := Lib.hid hl
  clear hu hv hl hA ih hN
  go_enter Try.func12, Try.ntmps12
  go_wp2
  go_loopw [5] (fun i wr => ∃ k : Nat, k ≤ l.length ∧ i = .int .i64 k ∧ Hid (Below w.heap.size w wr)) (fun i _ => l.length - (intOf i).toNat)
  case atStart => exact ⟨0, Nat.zero_le _, rfl, Lib.hid (Below.refl _ _)⟩
  case round =>
    obtain ⟨k, hk, rfl, hS⟩ := hrel
    by_cases hlt : k < l.length
    · have hx := List.getElem?_eq_getElem hlt
      obtain ⟨b, off, rfl, -, hb0, hcell⟩ := cells_at HR.out hx
      obtain ⟨b2, off2, rfl, -, hb2, hcell2⟩ := cells_at HR2.out hx
      have hp := HK.out l[k] (List.getElem_mem hlt)
      obtain ⟨I, hI1, hI2⟩ : ∃ I : World → Prop, (∀ w', I w' → Below w.heap.size w w') ∧ (∀ w', Below w.heap.size w w' → I w') := ⟨_, fun _ h => h, fun _ h => h⟩
      have hI : I wr.drew := hI2 _ (below_drew hS.out)
      have hne : Nonempty (Wd I) := ⟨⟨_, hI⟩⟩
      have XI := Lib.hid (fun x : Wd I => hI1 _ x.ok)
      have XS := Lib.hid (fun y : Wd I => wd_call (I := I) (v := .bool true) ((HIH.out l[k] (List.getElem_mem hlt) y.w (XI.out y)).mono fun e w' hh => ⟨hh.1, hI2 _ ((XI.out y).trans (hh.2.mono (XI.out y).size))⟩))
      clear hx hI1 hI2
      generalize l[k] = p at *
      obtain ⟨yk, ys, y1, y2, yoa, yon, yoc, yaa, yan, yac, ywa, ywn, ywc, yra, yrn, yrc, yma, ymn, ymc, yka, ykn, ykc, hpc⟩ := hp.node10
      rw [hpc] at hcell hcell2 XS
      have d0 := fun y : Wd I => ((XI.out y).cell (p := ⟨b, off + k * 10, none⟩) hb0).trans (hcell 0 (by omega))
      have d1 := fun y : Wd I => ((XI.out y).cell (p := ⟨b, off + k * 10 + 1, none⟩) hb0).trans (hcell 1 (by omega))
      have d2 := fun y : Wd I => ((XI.out y).cell (p := ⟨b, off + k * 10 + 2, none⟩) hb0).trans (hcell 2 (by omega))
      have d3 := fun y : Wd I => ((XI.out y).cell (p := ⟨b, off + k * 10 + 3, none⟩) hb0).trans (hcell 3 (by omega))
      have d4 := fun y : Wd I => ((XI.out y).cell (p := ⟨b, off + k * 10 + 4, none⟩) hb0).trans (hcell 4 (by omega))
      have d5 := fun y : Wd I => ((XI.out y).cell (p := ⟨b, off + k * 10 + 5, none⟩) hb0).trans (hcell 5 (by omega))
      have d6 := fun y : Wd I => ((XI.out y).cell (p := ⟨b, off + k * 10 + 6, none⟩) hb0).trans (hcell 6 (by omega))
      have d7 := fun y : Wd I => ((XI.out y).cell (p := ⟨b, off + k * 10 + 7, none⟩) hb0).trans (hcell 7 (by omega))
      have d8 := fun y : Wd I => ((XI.out y).cell (p := ⟨b, off + k * 10 + 8, none⟩) hb0).trans (hcell 8 (by omega))
      have d9 := fun y : Wd I => ((XI.out y).cell (p := ⟨b, off + k * 10 + 9, none⟩) hb0).trans (hcell 9 (by omega))
      have f0 := fun y : Wd I => ((XI.out y).cell (p := ⟨b2, off2 + k * 10, none⟩) hb2).trans (hcell2 0 (by omega))
      have f1 := fun y : Wd I => ((XI.out y).cell (p := ⟨b2, off2 + k * 10 + 1, none⟩) hb2).trans (hcell2 1 (by omega))
      have f2 := fun y : Wd I => ((XI.out y).cell (p := ⟨b2, off2 + k * 10 + 2, none⟩) hb2).trans (hcell2 2 (by omega))
      have f3 := fun y : Wd I => ((XI.out y).cell (p := ⟨b2, off2 + k * 10 + 3, none⟩) hb2).trans (hcell2 3 (by omega))
      have f4 := fun y : Wd I => ((XI.out y).cell (p := ⟨b2, off2 + k * 10 + 4, none⟩) hb2).trans (hcell2 4 (by omega))
      have f5 := fun y : Wd I => ((XI.out y).cell (p := ⟨b2, off2 + k * 10 + 5, none⟩) hb2).trans (hcell2 5 (by omega))
      have f6 := fun y : Wd I => ((XI.out y).cell (p := ⟨b2, off2 + k * 10 + 6, none⟩) hb2).trans (hcell2 6 (by omega))
      have f7 := fun y : Wd I => ((XI.out y).cell (p := ⟨b2, off2 + k * 10 + 7, none⟩) hb2).trans (hcell2 7 (by omega))
      have f8 := fun y : Wd I => ((XI.out y).cell (p := ⟨b2, off2 + k * 10 + 8, none⟩) hb2).trans (hcell2 8 (by omega))
      have f9 := fun y : Wd I => ((XI.out y).cell (p := ⟨b2, off2 + k * 10 + 9, none⟩) hb2).trans (hcell2 9 (by omega))
      simp only [List.getElem?_cons_zero, List.getElem?_cons_succ] at d0 d1 d2 d3 d4 d5 d6 d7 d8 d9 f0 f1 f2 f3 f4 f5 f6 f7 f8 f9
      clear hp hcell hcell2 hpc
      go_wp2_with fail
      refine wp_region_wd I (by kernel_rfl) (by kernel_rfl) hI ?_
      repeat (go_big_quiet_step (first | (go_at_call 35; with_reducible exact XS.out _)))
      refine wpQuiet_nil ?_
      intro _ hw'
      obtain ⟨x, rfl⟩ := hw'
      have HB3 := Lib.hid (XI.out x)
      clear d0 d1 d2 d3 d4 d5 d6 d7 d8 d9 f0 f1 f2 f3 f4 f5 f6 f7 f8 f9
      go_wp2
      go_roundw
      case rel => exact ⟨k + 1, by omega, by go_num, HB3⟩
      case measure => simp [intOf]; omega
    · obtain rfl : k = l.length := by omega
      go_wp2
      go_ret
      exact ⟨rfl, hS.out⟩
theorem sameAll_of {N : Nat} (ih : SameOK N) {A : Nat → Prop} {w : World} {u v : Value} {l : List Tr} (hN : szL l ≤ N) (hsz : szL l ≤ 1048576) (hA : ∀ b, A b → b < w.heap.size) (hu : RowAt A w 10 u l) (hv : RowAt A w 10 v l) (hl : ∀ x ∈ l, Lies A w .node x) :
    Calls Try.prog 12 #[u, v] w fun e w' => e = .returned (.bool true) ∧ Below w.heap.size w w' :=
  sameAll_each ih (fun x hx => ⟨Nat.le_trans (szL_mem hx) hN, Nat.le_trans (szL_mem hx) hsz⟩) hA hu hv hl
set_option maxRecDepth 100000 in
set_option maxHeartbeats 1600000 in
theorem sameParts_of {N : Nat} (ih : SameOK N) {A : Nat → Prop} {w : World} {v : Value} {l : List Tr} (hN : szL l ≤ N) (hsz : szL l ≤ 1048576) (hA : ∀ b, A b → b < w.heap.size) (hr : RowAt A w 5 v l) (hl : ∀ x ∈ l, Lies A w .part x) :
    Calls Try.prog 61 #[v, v] w fun e w' => e = .returned (.bool true) ∧ Below w.heap.size w w' := by
  have HS := Lib.hid (rsame24_any _ l (Nat.le_refl _) A w v hA hr hl)
  have hin := sz_inParts _ l (Nat.le_refl _)
  have hip : inParts l = (cmdsL l).flatMap (·.r 0) := rfl
  rw [hip] at hin
  have HCL : Hid (∀ x ∈ cmdsL l, Lies A w .lst x) := Lib.hid (cmds_lies _ l (Nat.le_refl _) hl)
  have hcl : (cmdsL l).length ≤ 1048576 := Nat.le_trans (cmdsL_len l) hsz
  have HC : Hid (∀ y, Below w.heap.size w y → Calls Try.prog 45 #[v] y fun e w' => ∃ o, e = .returned o ∧ OutAt 26 1 y (cmdsL l).length ((cmdsL l).flatMap Tr.cs) o w') := Lib.hid (fun y hy =>
    rcmds_any _ l (Nat.le_refl _) hsz A y _ (fun b hb => by have := hA b hb; have := hy.size; omega) (hr.later hA hy) (fun x hx => (hl x hx).later hA hy))
  have HIH : Hid (∀ x ∈ cmdsL l, ∀ y, Below w.heap.size w y → Calls Try.prog 12 #[x.c 0, x.c 0] y fun e w' => e = .returned (.bool true) ∧ Below y.heap.size y w') := Lib.hid (fun x hx y hy => by
    have h1 := szL_in (f := (·.r 0)) hx
    have h3 := (HCL.out x hx).later hA hy
    have h4 := h3.row (i := 0) (u := .node) rfl
    exact sameAll_of ih (by omega) (by omega) (fun b hb => by have := hA b hb; have := hy.size; omega) h4 h4 (h3.kids (i := 0) (u := .node) rfl))
  obtain ⟨a, c, rfl⟩ := hr.form
  generalize cmdsL l = C at *
  clear hr hl hA ih hN hin hip
  go_enter Try.func61, Try.ntmps61
  go_wp2_with (first
    | (go_at_call 15; refine HS.out.mono ?_; rintro e w1 ⟨rfl, hb1⟩
       have HB1 := Lib.hid hb1
       clear hb1)
    | fail)
  clear HS
  go_wp2_with fail
  refine (HC.out w1 HB1.out).mono ?_
  rintro e w2 ⟨o2, rfl, A2, c2, rfl, ho2, hb2⟩
  have HB2 := Lib.hid (HB1.out.trans (hb2.mono HB1.out.size))
  have hz2 := hb2.size
  clear hb2
  go_wp2_with fail
  refine (HC.out w2 HB2.out).mono ?_
  rintro e w3 ⟨o3, rfl, A3, c3, rfl, ho3, hb3⟩
  have HB3 := Lib.hid (HB2.out.trans (hb3.mono HB2.out.size))
  have HO2 := Lib.hid (own_below ho2 hb3)
  have HO3 := Lib.hid ho3
  clear hb3 ho2 ho3 HC
  have q0 : ((C.length : Int) == (C.length : Int)) = true := by simp
  go_wp2
  go_loopw [7] (fun i wr => ∃ k : Nat, k ≤ C.length ∧ i = .int .i64 k ∧ Hid (Below w3.heap.size w3 wr)) (fun i _ => C.length - (intOf i).toNat)
  case atStart => exact ⟨0, Nat.zero_le _, rfl, Lib.hid (Below.refl _ _)⟩
  case round =>
    obtain ⟨k, hk, rfl, hS⟩ := hrel
    by_cases hlt : k < C.length
    · obtain ⟨m', hm⟩ : ∃ m, C.length = m + 1 := ⟨C.length - 1, by omega⟩
      obtain ⟨g2, rfl, -, hg2⟩ : ∃ g, A2 = some ⟨g, 0, none⟩ ∧ w1.heap.size ≤ g ∧ g < w3.heap.size := by have h1 := HO2.out; rw [hm] at h1; exact own_some h1
      obtain ⟨g3, rfl, -, hg3⟩ : ∃ g, A3 = some ⟨g, 0, none⟩ ∧ w2.heap.size ≤ g ∧ g < w3.heap.size := by have h1 := HO3.out; rw [hm] at h1; exact own_some h1
      have hd := own_one HO2.out (fun x hx => (HCL.out x hx).len) k hlt
      have hf := own_one HO3.out (fun x hx => (HCL.out x hx).len) k hlt
      have hp := HCL.out C[k] (List.getElem_mem hlt)
      obtain ⟨I, hI1, hI2⟩ : ∃ I : World → Prop, (∀ w', I w' → Below w3.heap.size w3 w') ∧ (∀ w', Below w3.heap.size w3 w' → I w') := ⟨_, fun _ h => h, fun _ h => h⟩
      have hI : I wr.drew := hI2 _ (below_drew hS.out)
      have hne : Nonempty (Wd I) := ⟨⟨_, hI⟩⟩
      have XI := Lib.hid (fun x : Wd I => hI1 _ x.ok)
      have XS := Lib.hid (fun y : Wd I => wd_call (I := I) (v := .bool true) ((HIH.out C[k] (List.getElem_mem hlt) y.w (HB3.out.trans ((XI.out y).mono HB3.out.size))).mono fun e w' hh => ⟨hh.1, hI2 _ ((XI.out y).trans (hh.2.mono (XI.out y).size))⟩))
      clear hI1 hI2 hm
      generalize C[k] = p at *
      obtain ⟨pa, pc, ps, rfl, -, -⟩ := hp.lst
      simp only [Tr.c, Tr.cs, List.getD_cons_zero] at XS
      simp only [Tr.cs, List.getElem?_cons_zero] at hd hf
      have d0 := fun y : Wd I => ((XI.out y).cell (p := ⟨g2, k, none⟩) hg2).trans hd
      have f0 := fun y : Wd I => ((XI.out y).cell (p := ⟨g3, k, none⟩) hg3).trans hf
      clear hp hd hf
      go_wp2_with fail
      refine wp_region_wd I (by kernel_rfl) (by kernel_rfl) hI ?_
      repeat (go_big_quiet_step (first | (go_at_call 12; with_reducible exact XS.out _)))
      refine wpQuiet_nil ?_
      intro _ hw'
      obtain ⟨x, rfl⟩ := hw'
      have HB4 := Lib.hid (XI.out x)
      clear d0 f0
      go_wp2
      go_roundw
      case rel => exact ⟨k + 1, by omega, by go_num, HB4⟩
      case measure => simp [intOf]; omega
    · obtain rfl : k = C.length := by omega
      go_wp2
      go_ret
      exact ⟨by first | rfl | (rw [q0]; rfl), HB3.out.trans (hS.out.mono HB3.out.size)⟩
set_option maxRecDepth 100000 in
set_option maxHeartbeats 1600000 in
theorem sameWords_of {N : Nat} (ih : SameOK N) {A : Nat → Prop} {w : World} {v : Value} {l : List Tr} (hN : szL l ≤ N) (hsz : szL l ≤ 1048576) (hA : ∀ b, A b → b < w.heap.size) (hr : RowAt A w 1 v l) (hl : ∀ x ∈ l, Lies A w .word x) :
    Calls Try.prog 50 #[v, v] w fun e w' => e = .returned (.bool true) ∧ Below w.heap.size w w' := by
  obtain ⟨a, c, rfl⟩ := hr.form
  have hlen := hr.len
  have HIH : Hid (∀ x ∈ l, ∀ y, Below w.heap.size w y → Calls Try.prog 61 #[x.c 0, x.c 0] y fun e w' => e = .returned (.bool true) ∧ Below y.heap.size y w') := Lib.hid (fun x hx y hy => by
    have h1 := szL_mem hx
    have h2 := x.sz_r 0
    have h3 := (hl x hx).later hA hy
    exact sameParts_of ih (by omega) (by omega) (fun b hb => by have := hA b hb; have := hy.size; omega) (h3.row (i := 0) (u := .part) rfl) (h3.kids (i := 0) (u := .part) rfl))
  have HR := Lib.hid hr
  have HK := Lib.hid hl
  clear hr hl hA ih hN
  go_enter Try.func50, Try.ntmps50
  go_wp2
  go_loopw [5] (fun i wr => ∃ k : Nat, k ≤ l.length ∧ i = .int .i64 k ∧ Hid (Below w.heap.size w wr)) (fun i _ => l.length - (intOf i).toNat)
  case atStart => exact ⟨0, Nat.zero_le _, rfl, Lib.hid (Below.refl _ _)⟩
  case round =>
    obtain ⟨k, hk, rfl, hS⟩ := hrel
    by_cases hlt : k < l.length
    · have hx := List.getElem?_eq_getElem hlt
      obtain ⟨b, off, rfl, -, hb0, hcell⟩ := cells_at HR.out hx
      have hp := HK.out l[k] (List.getElem_mem hlt)
      obtain ⟨I, hI1, hI2⟩ : ∃ I : World → Prop, (∀ w', I w' → Below w.heap.size w w') ∧ (∀ w', Below w.heap.size w w' → I w') := ⟨_, fun _ h => h, fun _ h => h⟩
      have hI : I wr.drew := hI2 _ (below_drew hS.out)
      have hne : Nonempty (Wd I) := ⟨⟨_, hI⟩⟩
      have XI := Lib.hid (fun x : Wd I => hI1 _ x.ok)
      have XS := Lib.hid (fun y : Wd I => wd_call (I := I) (v := .bool true) ((HIH.out l[k] (List.getElem_mem hlt) y.w (XI.out y)).mono fun e w' hh => ⟨hh.1, hI2 _ ((XI.out y).trans (hh.2.mono (XI.out y).size))⟩))
      clear hx hI1 hI2
      generalize l[k] = p at *
      obtain ⟨pa, pc, ps, rfl, -, -⟩ := hp.word
      simp only [Tr.c, Tr.cs, List.getD_cons_zero] at XS
      have hd : w.cell? ⟨b, off + k, none⟩ = some (.slice pa ps.length pc) := by simpa [Tr.cs] using hcell 0 (by omega)
      have d0 := fun y : Wd I => ((XI.out y).cell (p := ⟨b, off + k, none⟩) hb0).trans hd
      clear hp hcell hd
      go_wp2_with fail
      refine wp_region_wd I (by kernel_rfl) (by kernel_rfl) hI ?_
      repeat (go_big_quiet_step (first | (go_at_call 61; with_reducible exact XS.out _)))
      refine wpQuiet_nil ?_
      intro _ hw'
      obtain ⟨x, rfl⟩ := hw'
      have HB3 := Lib.hid (XI.out x)
      clear d0
      go_wp2
      go_roundw
      case rel => exact ⟨k + 1, by omega, by go_num, HB3⟩
      case measure => simp [intOf]; omega
    · obtain rfl : k = l.length := by omega
      go_wp2
      go_ret
      exact ⟨rfl, hS.out⟩
end Go.Proofs.Ytpjcmhlgdgadjaa
