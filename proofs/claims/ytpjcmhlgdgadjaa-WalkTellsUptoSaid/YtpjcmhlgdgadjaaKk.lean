/- A name that is given something: unquote.Assign. Names that are given something. PRINTED by gen25.py. -/
import Derived.Test.YtpjcmhlgdgadjaaKj
namespace Go.Proofs.Ytpjcmhlgdgadjaa
open Go.RowKit
set_option linter.unusedVariables false
/-- The name that a word gives something. -/
def assignP : List Tr → Option ByteArray
  | p :: _ => if p.k 0 = 1 ∧ 0 ≤ assignI (p.s 1) then some ((p.s 1).extract 0 (assignI (p.s 1)).toNat) else none
  | [] => none
theorem assignP_cons (p : Tr) (l : List Tr) : assignP (p :: l) = if p.k 0 = 1 ∧ 0 ≤ assignI (p.s 1) then some ((p.s 1).extract 0 (assignI (p.s 1)).toNat) else none := rfl
def assignOf (t : Tr) : Option ByteArray := assignP (t.r 0)
def AssignEnd (w : World) (t : Tr) (e : Ending) (w' : World) : Prop := (∃ A N C, e = .returned (.tuple #[.string ((assignOf t).getD ⟨#[]⟩), .agg #[.slice A N C], .bool (assignOf t).isSome])) ∧ Below w.heap.size w w'
theorem RowAt.tail {A : Nat → Prop} {w : World} {m b off c : Nat} {x : Tr} {l : List Tr} (h : RowAt A w m (.slice (some ⟨b, off, none⟩) (l.length + 1) c) (x :: l)) : RowAt A w m (.slice (some ⟨b, off + m, none⟩) l.length (c - 1)) l := by
  obtain ⟨hl, a, c', e, h0, h1, h2, h3⟩ := h
  cases e
  simp only [List.length_cons] at hl h1
  refine ⟨by omega, _, _, rfl, (fun h => (by cases h)), by omega, by omega, fun k y hy => ?_⟩
  obtain ⟨b', off', e, hA, hlt, hc⟩ := h3 (k + 1) y (by simpa using hy)
  cases e
  refine ⟨_, _, rfl, hA, hlt, fun j hj => ?_⟩
  rw [← hc j hj]
  congr 2
  rw [Nat.succ_mul]; omega
theorem results_mid {fn : Func} {t p u : Tmp} {ty : TypeId} {P : Program} {w : World} {tmps : Array Value} {a : Addr} {v : Value} (h : fn.results = #[.tmp t, .cell p ty, .tmp u]) (hp : tmps.getD p undef = .pointer (some a)) (hl : (loadVar ty a).run P w = .ok v w) :
    (results fn tmps).run P w = .ok (.tuple #[tmps.getD t undef, v, tmps.getD u undef]) w := by
  rw [Array.getD_eq_getD_getElem?] at hp
  simp only [results, h]
  simp [Result.andThen, hp, asAddr, hl]
theorem load_word {y : World} {b : Nat} {A : Option Addr} {N C : Nat} (h : y.cell? ⟨b, 0, none⟩ = some (.slice A N C)) : (loadVar 41 ⟨b, 0, none⟩).run Try.prog y = .ok (.agg #[.slice A N C]) y := by
  simp [go_sem, h]
theorem part_src (w : World) (s : ByteArray) : SrcOK (w.alloc (.cells #[.int .i64 1, .string s, .string ⟨#[]⟩, .slice none 0 0, .slice none 0 0] 52)) (.slice (some ⟨w.heap.size, 0, none⟩) 1 1) 1 5 (Tr.mk [.int .i64 1, .string s, .string ⟨#[]⟩, .slice none 0 0, .slice none 0 0] []).cs :=
  SrcOK.blk (c := 1) (cs := [.int .i64 1, .string s, .string ⟨#[]⟩, .slice none 0 0, .slice none 0 0]) (Blk.new w 52 _) rfl (fun x hx => by simp at hx; rcases hx with rfl | rfl | rfl | rfl <;> rfl)
set_option maxRecDepth 100000 in
theorem fassign_any {A : Nat → Prop} {w : World} {t : Tr} (hA : ∀ b, A b → b < w.heap.size) (h : Lies A w .word t) : Calls Try.prog 41 #[.agg t.cs.toArray] w (AssignEnd w t) := by
  obtain ⟨pa, pc, ps, rfl, hr, hk⟩ := h.word
  simp only [Tr.cs]
  have e0 : (Tr.mk [.slice pa ps.length pc] [ps]).r 0 = ps := rfl
  unfold AssignEnd assignOf
  rw [e0]
  clear e0
  match ps, hr, hk with
  | [], hr, hk =>
    clear hr hk
    go_enter Try.func41, Try.ntmps41
    go_wp2
    refine bodyPost_ret (results_mid rfl rfl (load_word (b := w.heap.size + 1) (A := none) (N := 0) (C := 0) ?_)) rfl ?_
    · simp
    · exact ⟨⟨_, _, _, rfl⟩, (below_alloc w _).alloc (by simp) _⟩
  | p :: tl, hr, hk =>
    rw [assignP_cons]
    have hp := hk p (by simp)
    have hlen := hr.len
    have hlen2 : tl.length + 1 ≤ 1048576 := hlen
    obtain ⟨b, off, rfl, hAb, hb0, hcell⟩ := cells_at hr (k := 0) (x := p) rfl
    obtain ⟨k0, k1, k2⟩ := part_k hp
    have c0 := hcell 0 (by omega)
    have c1 := hcell 1 (by omega)
    rw [k0] at c0
    rw [k1] at c1
    simp only [Nat.zero_mul, Nat.add_zero] at c0 c1
    have hl1 : (p :: tl).length = tl.length + 1 := rfl
    rw [hl1] at *
    have hpos : (0 : Int) < (tl.length : Int) + 1 := by omega
    have hne : ¬ ((tl.length : Int) + 1 = 0) := by omega
    have hneb : (((tl.length : Int) + 1) == 0) = false := by simpa using hne
    have hw2 : IntKind.i64.wrap (1 : Int) = 1 := by decide
    have hw3 : (1 : Int) ≤ (tl.length : Int) + 1 := by omega
    have hrl : tl.length + 1 ≤ pc ∧ pc ≤ maxLen := by
      obtain ⟨a', c', e, _, h1, h2, _⟩ := hr.lies
      cases e
      exact ⟨h1, h2⟩
    obtain ⟨ad, had, hT⟩ : ∃ ad : Addr, (if pc = 1 then some (⟨b, off, none⟩ : Addr) else some ⟨b, off + 5, none⟩) = some ad ∧ ∀ y, Below w.heap.size w y → SrcOK y (.slice (some ad) tl.length (pc - 1)) tl.length 5 (tl.flatMap Tr.cs) := by
      by_cases h1 : pc = 1
      · have h0 : tl = [] := List.eq_nil_of_length_eq_zero (by omega)
        subst h0
        exact ⟨_, if_pos h1, fun y hy => ⟨fun u hu => (by cases hu), .inr ⟨_, _, rfl, rfl, fun j u hj => by cases hj⟩⟩⟩
      · exact ⟨_, if_neg h1, fun y hy => (hr.tail.later hA hy).src (ty := .part) (fun x hx => (hk x (by simp [hx])).later hA hy) rfl⟩
    have hones : ∀ u ∈ tl.flatMap Tr.cs, u.oneCell' = true := flat_ones (fun x hx => hk x (by simp [hx]))
    have HT := Lib.hid hT
    have HONES := Lib.hid hones
    have hai := assignI_lt (p.s 1)
    clear hr hk hp hcell hAb k0 k1 hT hones hl1 hA
    by_cases hk1 : p.k 0 = 1
    · have hq : (p.k 0 == 1) = true := by simp [hk1]
      have HCA := Lib.hid (cassign_any (p.s 1) k2)
      by_cases hneg : assignI (p.s 1) < 0
      · have hm1 : assignI (p.s 1) = -1 := by omega
        rw [if_neg (by omega)]
        rw [hm1] at HCA
        generalize p.k 0 = pk at *
        subst hk1
        clear hai hneg hm1
        generalize p.s 1 = s at *
        go_enter Try.func41, Try.ntmps41
        go_wp2_with (go_at_call 55; refine (HCA.out _).mono ?_; rintro e w1 ⟨rfl, hb1⟩
                     have hx1 : Blk w1 w.heap.size 41 #[.slice (some ⟨b, off, none⟩) (tl.length + 1) pc] := ((Blk.new w 41 _).alloc _).below hb1 (by simp; omega)
                     have hx2 : Blk w1 (w.heap.size + 1) 41 #[.slice none 0 0] := by
                       have := Blk.new (w.alloc (.cells #[.slice (some ⟨b, off, none⟩) (tl.length + 1) pc] 41)) 41 #[.slice none 0 0]
                       rw [World.size_alloc] at this
                       exact this.below hb1 (by simp)
                     have hbb : Below w.heap.size w w1 := ((below_alloc w _).alloc (by simp) _).trans (hb1.mono (by simp; omega))
                     have d0 := hx1.cell 0
                     have d1 := hx2.cell 0
                     have f1 := hx2.frozen 0
                     have hz1 := hx2.lt
                     simp at d0 d1
                     have HX1 := Lib.hid hx1
                     have HX2 := Lib.hid hx2
                     have HBB := Lib.hid hbb
                     clear hx1 hx2 hbb hb1)
        refine bodyPost_ret (results_mid rfl rfl (load_word (b := w.heap.size + 1) (A := none) (N := 0) (C := 0) ?_)) rfl ?_
        · have := (HX2.out.set_ 0 (.slice none 0 0)).cell 0
          simpa using this
        · exact ⟨⟨_, _, _, rfl⟩, HBB.out.setCell (p := ⟨w.heap.size + 1, 0, none⟩) (by simp) _⟩
      · obtain ⟨kk, hkk⟩ : ∃ kk : Nat, assignI (p.s 1) = kk := ⟨(assignI (p.s 1)).toNat, by omega⟩
        rw [if_pos ⟨hk1, by omega⟩, hkk, Int.toNat_natCast]
        rw [hkk] at HCA hai
        have hks : kk < (p.s 1).size := by omega
        generalize p.k 0 = pk at *
        subst hk1
        generalize p.s 1 = s at *
        have hneg2 : ¬ ((kk : Int) < 0) := by omega
        have HCL : Hid (∀ y, Below w.heap.size w y → Calls Try.prog 56 #[.slice (some ad) tl.length (pc - 1)] y fun e w' => ∃ o, e = .returned o ∧ OutAt 52 5 y tl.length (tl.flatMap Tr.cs) o w') := Lib.hid (fun y hy =>
          clone_any (fun z hz => HT.out z (hy.trans (hz.mono hy.size))) (by omega))
        clear hneg hkk hai
        go_enter Try.func41, Try.ntmps41
        by_cases hlast : kk + 1 < s.size
        · have hl2 : (kk : Int) + 1 < (s.size : Int) := by omega
          have hw5 : IntKind.i64.wrap ((kk : Int) + 1) = (kk : Int) + 1 := by rw [IntKind.wrap_i64]; omega
          go_wp2_with (first
            | (go_at_call 55; refine (HCA.out _).mono ?_; rintro e w1 ⟨rfl, hb1⟩
               have hx1 : Blk w1 w.heap.size 41 #[.slice (some ⟨b, off, none⟩) (tl.length + 1) pc] := ((Blk.new w 41 _).alloc _).below hb1 (by simp; omega)
               have hx2 : Blk w1 (w.heap.size + 1) 41 #[.slice none 0 0] := by
                 have := Blk.new (w.alloc (.cells #[.slice (some ⟨b, off, none⟩) (tl.length + 1) pc] 41)) 41 #[.slice none 0 0]
                 rw [World.size_alloc] at this
                 exact this.below hb1 (by simp)
               have hbb : Below w.heap.size w w1 := ((below_alloc w _).alloc (by simp) _).trans (hb1.mono (by simp; omega))
               have d0 := hx1.cell 0
               have d1 := hx2.cell 0
               have f1 := hx2.frozen 0
               have hz1 := hx2.lt
               simp at d0 d1
               have HX1 := Lib.hid hx1
               have HX2 := Lib.hid hx2
               have HBB := Lib.hid hbb
               clear hx1 hx2 hbb hb1)
            | (go_at_call 56; refine (HCL.out _ HBB.out).mono ?_; rintro e w2 ⟨o, rfl, A2, c2, rfl, ho2, hb2⟩
               have hx3 := HX2.out.below hb2 hz1
               have d3 := hx3.cell 0
               have f3 := hx3.frozen 0
               have hz2 := hb2.size
               simp at d3
               have HX3 := Lib.hid hx3
               have HO2 := Lib.hid ho2
               have HB2 := Lib.hid hb2
               clear hx3 ho2 hb2))
          have hmid : Calls Try.prog 57 #[.slice A2 tl.length c2, .int .i64 0, .slice (some ⟨w2.heap.size, 0, none⟩) 1 1] (w2.alloc (.cells #[.int .i64 1, .string (s.extract (kk + 1) s.size), .string ⟨#[]⟩, .slice none 0 0, .slice none 0 0] 52)) (InsEnd w1.heap.size _) :=
            insert_any (u := .mk [.int .i64 1, .string (s.extract (kk + 1) s.size), .string ⟨#[]⟩, .slice none 0 0, .slice none 0 0] []) (HO2.out.alloc _) HONES.out (by simp; omega) (part_src _ _) (Blk.new w2 52 _) (fun g hg => by
              subst hg
              have : g < w2.heap.size := (own_lt HO2.out rfl).2
              omega) hz2 (by omega)
          refine hmid.mono ?_
          rintro e w5 ⟨⟨A5, N5, C5, rfl⟩, hb5⟩
          have hx5 := (HX3.out.alloc _).below hb5 hz1
          have d5 := hx5.cell 0
          have f5 := hx5.frozen 0
          simp at d5
          have HX5 := Lib.hid hx5
          have HB5 : Hid (Below w1.heap.size w1 w5) := Lib.hid ((HB2.out.trans ((below_alloc w2 _).mono hz2)).trans hb5)
          clear hx5 hb5 hmid
          go_wp2
          refine bodyPost_ret (results_mid rfl rfl (load_word (b := w.heap.size + 1) (A := A5) (N := N5) (C := C5) ?_)) rfl ?_
          · have := (HX5.out.set_ 0 (.slice A5 N5 C5)).cell 0
            simpa using this
          · exact ⟨⟨_, _, _, rfl⟩, (HBB.out.trans (HB5.out.mono (by omega))).setCell (p := ⟨w.heap.size + 1, 0, none⟩) (by simp) _⟩
        · have hl2 : ¬ ((kk : Int) + 1 < (s.size : Int)) := by omega
          go_wp2_with (first
            | (go_at_call 55; refine (HCA.out _).mono ?_; rintro e w1 ⟨rfl, hb1⟩
               have hx1 : Blk w1 w.heap.size 41 #[.slice (some ⟨b, off, none⟩) (tl.length + 1) pc] := ((Blk.new w 41 _).alloc _).below hb1 (by simp; omega)
               have hx2 : Blk w1 (w.heap.size + 1) 41 #[.slice none 0 0] := by
                 have := Blk.new (w.alloc (.cells #[.slice (some ⟨b, off, none⟩) (tl.length + 1) pc] 41)) 41 #[.slice none 0 0]
                 rw [World.size_alloc] at this
                 exact this.below hb1 (by simp)
               have hbb : Below w.heap.size w w1 := ((below_alloc w _).alloc (by simp) _).trans (hb1.mono (by simp; omega))
               have d0 := hx1.cell 0
               have d1 := hx2.cell 0
               have f1 := hx2.frozen 0
               have hz1 := hx2.lt
               simp at d0 d1
               have HX1 := Lib.hid hx1
               have HX2 := Lib.hid hx2
               have HBB := Lib.hid hbb
               clear hx1 hx2 hbb hb1)
            | (go_at_call 56; refine (HCL.out _ HBB.out).mono ?_; rintro e w2 ⟨o, rfl, A2, c2, rfl, ho2, hb2⟩
               have hx3 := HX2.out.below hb2 hz1
               have d3 := hx3.cell 0
               have f3 := hx3.frozen 0
               have hz2 := hb2.size
               simp at d3
               have HX3 := Lib.hid hx3
               have HO2 := Lib.hid ho2
               have HB2 := Lib.hid hb2
               clear hx3 ho2 hb2))
          refine bodyPost_ret (results_mid rfl rfl (load_word (b := w.heap.size + 1) (A := A2) (N := tl.length) (C := c2) ?_)) rfl ?_
          · have := (HX3.out.set_ 0 (.slice A2 tl.length c2)).cell 0
            simpa using this
          · exact ⟨⟨_, _, _, rfl⟩, (HBB.out.trans (HB2.out.mono (by omega))).setCell (p := ⟨w.heap.size + 1, 0, none⟩) (by simp) _⟩
    · have hq : (p.k 0 == 1) = false := by simpa using hk1
      rw [if_neg (fun h => hk1 h.1)]
      generalize p.k 0 = pk at *
      go_enter Try.func41, Try.ntmps41
      go_wp2
      refine bodyPost_ret (results_mid rfl rfl (load_word (b := w.heap.size + 1) (A := none) (N := 0) (C := 0) ?_)) rfl ?_
      · simp
      · exact ⟨⟨_, _, _, rfl⟩, (below_alloc w _).alloc (by simp) _⟩
end Go.Proofs.Ytpjcmhlgdgadjaa

namespace Go.Proofs.Ytpjcmhlgdgadjaa
open Go.RowKit
set_option linter.unusedVariables false
attribute [local go_sem] Oper.semAt_some
def setR (u : Tr) : List Value := (assignOf u).toList.map Value.string
def setV (x : Tr) : List Value := (x.r 5).flatMap setR ++ (if x.k 0 = 7 then [.string (x.s 1)] else [])
theorem setR_len (u : Tr) : (setR u).length ≤ 1 := by unfold setR; cases assignOf u <;> simp
theorem r5_below (n : Tr) : (n.r 5).length + 1 + szL (below n) ≤ n.sz := by
  have h0 : ∀ l : List Tr, szL (l.flatMap (fun w => inParts (w.r 0))) ≤ szL l := fun l => szL_flat1 sz_word l
  have h5 : ∀ l : List Tr, l.length + szL (l.flatMap (fun w => inParts (w.r 0))) ≤ szL l := fun l => by
    induction l with
    | nil => simp [szL]
    | cons r l ih =>
      have h1 := sz_inParts _ (r.r 0) (Nat.le_refl _)
      have h2 := r.sz_r 0
      simp only [List.length_cons, List.flatMap_cons, szL_append, szL]
      omega
  have h1 := h5 (n.r 5)
  have h1a := h0 (n.r 6)
  have h1b := h0 ((n.r 8).flatMap (·.r 0))
  have h1c := h0 ((n.r 7).map (fun r => wordOf (r.c 2) (r.r 2)))
  have h2 := sz_arms (n.r 8)
  have h3 := sz_redirs (n.r 7)
  have h4 : szL (n.r 5) + szL (n.r 6) + szL (n.r 7) + szL (n.r 8) + szL (n.r 9) < n.sz := by
    cases n with
    | mk cs rows => have := szR_five rows; simp only [Tr.sz, Tr.r, Tr.rows]; omega
  unfold below own
  simp only [szL_append, List.flatMap_append]
  omega
theorem sets_len (N : Nat) : ∀ l, szL l ≤ N → ((allL l).flatMap setV).length ≤ szL l := by
  induction N with
  | zero =>
    intro l h
    cases l with
    | nil => rw [allL_nil]; simp
    | cons p r => have := p.sz_pos; simp only [szL] at h; omega
  | succ N ih =>
    intro l
    induction l with
    | nil => intro _; rw [allL_nil]; simp
    | cons n r ihr =>
      intro h
      simp only [szL] at h ⊢
      have h1 := r5_below n
      have h2 := ih (below n) (by omega)
      have h3 := ihr (by omega)
      have h4 : (setV n).length ≤ (n.r 5).length + 1 := by
        have := flat_len1 setR_len (n.r 5)
        unfold setV
        rw [List.length_append]
        split <;> simp only [List.length_cons, List.length_nil] <;> omega
      rw [allL_cons, List.flatMap_cons, List.flatMap_append, List.length_append, List.length_append]
      omega
theorem sets_sz (t : Tr) : ((all t).flatMap setV).length ≤ t.sz := by
  have := sets_len _ [t] (Nat.le_refl _)
  simpa [szL, all] using this
/-- A node, as far as a loop's body looks at it. -/
theorem setV_open {A : Nat → Prop} {w : World} {t : Tr} (h : Lies A w .node t) : ∃ (k : Int) (s : ByteArray) (b1 b2 : Bool) (oa : Option Addr) (os oc : Nat) (aa : Option Addr) (gs : List Tr) (ac : Nat) (wa : Option Addr) (ws : Nat) (wc : Nat) (ra : Option Addr) (rs : Nat) (rc : Nat) (ma : Option Addr) (ms mc : Nat) (ka : Option Addr) (ks kc : Nat),
    t.cs = [.int .i64 k, .string s, .bool b1, .bool b2, .slice oa os oc, .slice aa gs.length ac, .slice wa ws wc, .slice ra rs rc, .slice ma ms mc, .slice ka ks kc] ∧
    (setV t = gs.flatMap setR ++ (if k = 7 then [.string s] else [])) ∧ (RowAt A w 1 (.slice aa gs.length ac) gs ∧ ∀ x ∈ gs, Lies A w .word x) := by
  obtain ⟨k, s, b1, b2, oa, oc, aa, ac, wa, wc, ra, rc, ma, mc, ka, kc, os, gs, ws, rs, ms, ks, rfl, q1, h4, h5, h6, h7, h8, h9, k4, k5, k6, k7, k8, k9⟩ := h.node
  exact ⟨k, s, b1, b2, oa, os.length, oc, aa, gs, ac, wa, ws.length, wc, ra, rs.length, rc, ma, ms.length, mc, ka, ks.length, kc, rfl, rfl, h5, k5⟩
set_option maxRecDepth 100000 in
set_option maxHeartbeats 3200000 in
theorem fsets_any {A : Nat → Prop} {w : World} {t : Tr} (hsz : t.sz ≤ 1048576) (hA : ∀ b, A b → b < w.heap.size) (hl : Lies A w .node t) :
    Calls Try.prog 20 #[.agg t.cs.toArray] w fun e w' => ∃ o, e = .returned o ∧ OutAt 9 1 w ((all t).flatMap setV).length ((all t).flatMap setV) o w' := by
  obtain ⟨W0, hW0⟩ : ∃ W0, (w.alloc (.cells t.cs.toArray 28)).alloc (.cells #[.slice none 0 0] 32) = W0 := ⟨_, rfl⟩
  obtain ⟨W, hW⟩ : ∃ W, W0.alloc (.cells t.cs.toArray 28) = W := ⟨_, rfl⟩
  have hb0 : Below w.heap.size w W0 := by rw [← hW0]; exact (below_alloc w _).alloc (by simp) _
  have hs0 : W0.heap.size = w.heap.size + 2 := by rw [← hW0]; simp
  have hs : W.heap.size = w.heap.size + 3 := by rw [← hW]; simp [hs0]
  have hbW : Below W0.heap.size W0 W := by rw [← hW]; exact below_alloc _ _
  have hx0 : Blk W0 w.heap.size 28 t.cs.toArray := by rw [← hW0]; exact (Blk.new w 28 _).alloc _
  have ho0 : Blk W0 (w.heap.size + 1) 32 #[.slice none 0 0] := by
    rw [← hW0]
    have := Blk.new (w.alloc (.cells t.cs.toArray 28)) 32 #[.slice none 0 0]
    rwa [World.size_alloc] at this
  have hxW : Blk W W0.heap.size 28 t.cs.toArray := by rw [← hW]; exact Blk.new _ _ _
  have hbw : Below w.heap.size w W := hb0.trans (hbW.mono hb0.size)
  have hlW : Lies (fun b => A b ∨ b = W0.heap.size) W .node t := hl.keep (fun _ => .inl) hbw.size (fun b hb => hbw.block b (hA b hb))
  have hfn := all_fn (w := W0) hl
  rw [hW] at hfn
  have hlen : ((all t).flatMap setV).length ≤ t.sz := sets_sz t
  have hltA : ∀ b, (A b ∨ b = W0.heap.size) → b < W.heap.size := fun b hb => hb.elim (fun h => by have := hA b h; omega) (fun h => by omega)
  have hseq := all1_seq _ t (Nat.le_refl _) hsz (fun b => A b ∨ b = W0.heap.size) W W0.heap.size hltA (.inr rfl) hlW hxW
  have hall : ∀ x ∈ all t, Lies A w .node x := all_lies _ [t] (Nat.le_refl _) (by simpa using hl)
  have hsm : Same A w W := fun b hb => hbw.block b (hA b hb)
  have hb1 : LoopI 9 32 w (w.heap.size + 1) setV A W [] (fun b => A b ∨ b = W0.heap.size) W := by
    refine ⟨⟨by omega, ?_, .slice none 0 0, ho0.below hbW (by omega), ⟨none, 0, rfl, ⟨by simp, .inl ⟨rfl, rfl⟩⟩, hbw⟩, fun b hb => by cases hb⟩, hsm, Nat.le_refl _⟩
    rintro (h | h)
    · have := hA _ h; omega
    · omega
  obtain ⟨zk, zs, z1, z2, zoa, zon, zoc, zaa, zan, zac, zwa, zwn, zwc, zra, zrn, zrc, zma, zmn, zmc, zka, zkn, zkc, hcs⟩ := hl.node10
  rw [hs0] at hseq hfn hb1
  rw [hcs] at hfn hW0 hx0
  have HSEQ := Lib.hid hseq
  have HFN := Lib.hid hfn
  have HALL := Lib.hid hall
  have HB1 := Lib.hid hb1
  have HA := Lib.hid hA
  have c0 := hx0.cell 0
  have c1 := hx0.cell 1
  have c2 := hx0.cell 2
  have c3 := hx0.cell 3
  have c4 := hx0.cell 4
  have c5 := hx0.cell 5
  have c6 := hx0.cell 6
  have c7 := hx0.cell 7
  have c8 := hx0.cell 8
  have c9 := hx0.cell 9
  simp at c0 c1 c2 c3 c4 c5 c6 c7 c8 c9
  rw [hcs]
  rw [hs0] at hltA
  have HLT := Lib.hid hltA
  have hEl := ElStr
  clear hseq hfn hall hsm hb1 hA hltA hb0 hbW hx0 ho0 hxW hbw hlW hcs hl
  refine (callsIn_wide (n := 0)).1 ?_
  refine callsIn_of_wp_marks Try.func20 rfl trivial ?_ rfl
  simp only [Try.ntmps20, List.size_toArray, List.length_cons, List.length_nil, Nat.reduceAdd, Nat.reduceSub, Array.replicate_succ, Array.replicate_zero, List.push_toArray, List.append_toArray, List.nil_append, List.cons_append]
  gi_wp2_with (refine ⟨trivial, rfl, ?_⟩; gi_at_call 30; refine (callsIn_wide.2 HFN.out).mono ?_; rintro e w1 ⟨rfl, hw1⟩; rw [hw1]; clear hw1)
  clear c0 c1 c2 c3 c4 c5 c6 c7 c8 c9 HFN
  refine range_top (gf := 46) (lb := #[.pointer (some ⟨w.heap.size + 2, 0, none⟩)]) rfl (fun _ _ => by kernel_rfl) HSEQ.out HLT.out (fun _ => rfl)
    (LoopI 9 32 w (w.heap.size + 1) setV A W) (fun c A' W' => False) ?hI ?hIx ?h0 ?hround ?hdone ?hstop
  case hI => exact fun s A1 A2 U U' h hc hA' => h.shy HA.out (by omega) (by omega) hc hA'
  case hIx => exact fun c s A1 A2 U U' h _ _ => h
  case h0 => exact HB1.out
  case hstop => exact fun D c A' W' _ _ _ _ h _ => h.elim
  case hdone =>
    rintro D A5 W5 hD hAD hsup hlt ⟨hj, -, -⟩ hK
    obtain ⟨o, b0, hoo⟩ := hj.fin2 (D := D) (by omega) hAD (.deferred none)
    have HO := Lib.hid hoo
    clear hoo hj
    gi_wp2
    refine ⟨by simp, .inl ⟨_, _, rfl, run_takeDeferred hK, ?_⟩⟩
    refine ⟨_, results_tmp rfl _ _ _, ?_⟩
    exact ⟨o, rfl, HO.out⟩
  case hround =>
    rintro l1 pre x A5 W5 hpre hl1 hl1W hAl hsup hlt ⟨hj, hsame, hsz5⟩
    have hxa : x ∈ all t := hpre.subset (by simp)
    have hlx := HALL.out x hxa
    have hnl := flat_pre (f := setV) hpre
    rw [List.flatMap_append, List.length_append, List.flatMap_cons, List.flatMap_nil, List.append_nil] at hnl
    have hnl2 : (pre.flatMap setV).length + (setV x).length ≤ 1048576 := by omega
    have hxs : x.sz ≤ 1048576 := by
      have h1 := szAll _ [t] (Nat.le_refl _) x hxa
      simp [szL] at h1
      omega
    obtain ⟨W6, hW6⟩ : ∃ W6, W5.alloc (.cells x.cs.toArray 28) = W6 := ⟨_, rfl⟩
    have hb6 : Below W5.heap.size W5 W6 := by rw [← hW6]; exact below_alloc _ _
    have hx6 : Blk W6 W5.heap.size 28 x.cs.toArray := by rw [← hW6]; exact Blk.new _ _ _
    have hs6 : W6.heap.size = W5.heap.size + 1 := by rw [← hW6]; simp
    obtain ⟨yk, ys, y1, y2, yoa, yos, yoc, yaa, yas, yac, ywa, yws, ywc, yra, yrs, yrc, yma, yms, ymc, yka, yks, ykc, hkc, hkg, hrw⟩ := setV_open hlx
    have HKG := Lib.hid hkg
    have HRW := Lib.hid hrw
    rw [hkc] at hW6
    have HB6 := Lib.hid hb6
    have HX6 := Lib.hid hx6
    have HJ := Lib.hid hj
    have HLT5 := Lib.hid hlt
    have HSM5 := Lib.hid hsame
    have HKC := Lib.hid hkc
    have HLX := Lib.hid hlx
    have HNL := Lib.hid hnl2
    simp only [enc1, hkc]
    clear hb6 hx6 hj hlt hsup hsame hpre hkc hlx hxa hnl hnl2 hkg hrw
    simp
    gi_wp2
    refine ⟨by omega, fun b hb => HB6.out.block b (HLT5.out b hb), fun W7 hc7 hs7 r hr => ?_⟩
    have hx7 : Blk W7 W5.heap.size 28 x.cs.toArray := hc7.blk HX6.out (by omega)
    have hj6 := HJ.out.shy (B := W5.heap.size) (A' := A5) (by have := HJ.out.2.1; omega) (Chg.of_below HB6.out) (fun _ => .inl)
    have hj7 := hj6.shy (B := w.heap.size) (A' := A5) (Nat.le_refl _) (hc7.mono (fun b hb => by subst hb; exact ⟨by omega, hAl⟩)) (fun _ => .inl)
    have hlt7 : ∀ b, A5 b → b < W7.heap.size := fun b hb => by have := HLT5.out b hb; omega
    have hsm7 : Same A w W7 := fun b hb => by
      have h3 := HA.out b hb
      exact (hc7.block b (by omega) (by omega)).trans ((HB6.out.block b (by omega)).trans (HSM5.out b hb))
    rw [HKC.out] at hx7
    have c0 := hx7.cell 0
    have c1 := hx7.cell 1
    have c2 := hx7.cell 2
    have c3 := hx7.cell 3
    have c4 := hx7.cell 4
    have c5 := hx7.cell 5
    have c6 := hx7.cell 6
    have c7 := hx7.cell 7
    have c8 := hx7.cell 8
    have c9 := hx7.cell 9
    simp at c0 c1 c2 c3 c4 c5 c6 c7 c8 c9
    have HX7 := Lib.hid hx7
    have HJ7 := Lib.hid hj7
    have hnl := HNL.out
    have HEND : Hid (∀ {N : Nat} {ys : List Value} {W' : World}, Chg (fun b => w.heap.size ≤ b ∧ ¬ A5 b) W7 W' → OutBox 9 1 32 w (w.heap.size + 1) N ys A5 W' → ys = pre.flatMap setV ++ setV x → N = (pre.flatMap setV).length + (setV x).length →
        W7.heap.size ≤ W'.heap.size ∧ Same A5 W7 W' ∧ LoopI 9 32 w (w.heap.size + 1) setV A W (pre ++ [x]) A5 W') := Lib.hid (fun hc ho hy hN => LoopI.next HA.out hlt7 hsm7 (by omega) (by omega) hc ho hy hN)
    have HLT7 := Lib.hid hlt7
    have HSM7 := Lib.hid hsm7
    have HLX7 : Hid (∀ {v : Value} {l : List Tr} {m : Nat} {y : World}, RowAt A w m v l → Below W7.heap.size W7 y → RowAt A y m v l) := Lib.hid (fun h hy => h.keep (fun _ => id) (by have := hy.size; omega) (fun b hb => (hy.block b (by have := HA.out b hb; omega)).trans (hsm7 b hb)))
    have HLW7 : Hid (∀ {ty : Ty} {u : Tr} {y : World}, Lies A w ty u → Below W7.heap.size W7 y → Lies A y ty u) := Lib.hid (fun h hy => h.keep (fun _ => id) (by have := hy.size; omega) (fun b hb => (hy.block b (by have := HA.out b hb; omega)).trans (hsm7 b hb)))
    have hA7 : ∀ b, A b → b < W7.heap.size := fun b hb => by have := HA.out b hb; omega
    have HA7 := Lib.hid hA7
    generalize hpx : pre.flatMap setV = xs at *
    generalize hpm : xs.length = n at *
    clear hx7 hj7 hlt7 hsm7 hj6 hr HX6 HB6 HSM5 HLT5 HSEQ HALL HB1 HLT hc7 HJ HNL hA7
    obtain ⟨hrw, hrk⟩ := HRW.out
    have hrl := hrw.len
    have hkg := HKG.out
    have HHW := Lib.hid hrw
    have HHK := Lib.hid hrk
    have HSW : Hid (∀ {y : World}, Chg (fun b => w.heap.size ≤ b ∧ ¬ A5 b) W7 y → Same A w y) := Lib.hid (fun hc => HSM7.out.trans (fun b hb => hc.block b (by have := HA.out b hb; omega) (fun h => by have := HA.out b hb; omega)))
    rw [hkg, List.length_append] at hnl
    obtain ⟨Lm, hLm⟩ : ∃ Lm, (yas.flatMap setR).length = Lm := ⟨_, rfl⟩
    rw [hLm] at hnl
    have HLM := Lib.hid hLm
    have HLE : Hid (∀ j, ((yas.take j).flatMap setR).length ≤ Lm) := Lib.hid (fun j => by rw [← hLm]; exact flat_pre (List.take_prefix j yas))
    clear hrw hrk hkg hLm
    gi_wp2
    gi_loopw [16] (fun i wr => ∃ k : Nat, k ≤ yas.length ∧ i = .int .i64 k ∧ Hid (Chg (fun b => w.heap.size ≤ b ∧ ¬ A5 b) W7 wr ∧ OutBox 9 1 32 w (w.heap.size + 1) (n + ((yas.take k).flatMap setR).length) (xs ++ (yas.take k).flatMap setR) A5 wr ∧ Blk wr W5.heap.size 28 #[.int .i64 yk, .string ys, .bool y1, .bool y2, .slice yoa yos yoc, .slice yaa yas.length yac, .slice ywa yws ywc, .slice yra yrs yrc, .slice yma yms ymc, .slice yka yks ykc])) (fun i _ => yas.length - (intOf i).toNat)
    case atStart => exact ⟨0, Nat.zero_le _, rfl, Lib.hid ⟨Chg.refl _ _, by simpa using HJ7.out, HX7.out⟩⟩
    case round =>
      obtain ⟨k, hk, rfl, hS⟩ := hrel
      by_cases hlt : k < yas.length
      · obtain ⟨hc, hj, hxr⟩ := hS.out
        have hx := List.getElem?_eq_getElem hlt
        obtain ⟨b, off, rfl, hAb0, hb0, hcell⟩ := cells_at HHW.out hx
        have hp := HHK.out yas[k] (List.getElem_mem hlt)
        have htk := flat_snoc (f := setR) hlt
        have hle := HLE.out (k + 1)
        rw [htk, List.length_append] at hle
        have HTK := Lib.hid htk
        clear htk hx
        generalize yas[k] = p at *
        have hblk0 := HSW.out hc b hAb0
        have e0 := (World.cell?_of_block (a := ⟨b, off + k, none⟩) hblk0).trans (by simpa using hcell 0 (by omega))
        have hzr := hc.size
        have hpw : Lies A wr .word p := hp.keep (fun _ => id) (by omega) (HSW.out hc)
        have HAS : Hid (∀ y, Below wr.heap.size wr y → Calls Try.prog 41 #[.agg p.cs.toArray] y (AssignEnd y p)) := Lib.hid (fun y hy =>
          fassign_any (A := A) (fun b hb => by have := HA.out b hb; have := hy.size; omega) (hpw.later (fun b hb => by have := HA.out b hb; omega) hy))
        obtain ⟨pa, pc, ps, hpe, -, -⟩ := hp.word
        have hpc : p.cs = [.slice pa ps.length pc] := by rw [hpe]; rfl
        rw [hpc] at e0 HAS
        simp only [List.getElem?_cons_zero] at e0
        unfold AssignEnd at HAS
        have hgr : setR p = (assignOf p).toList.map Value.string := rfl
        rw [hgr] at HTK hle
        generalize hys : (yas.take k).flatMap setR = ys' at *
        generalize hmm : ys'.length = mm at *
        obtain ⟨hbx, hAb, o, hblk, ⟨Ao, oc, rfl, ho, hbw⟩, hoA⟩ := hj
        have hws := hbw.size
        have hbl := hblk.lt
        have HOB : Hid (OutBox 9 1 32 w (w.heap.size + 1) (n + mm) (xs ++ ys') A5 wr) := Lib.hid ⟨hbx, hAb, _, hblk, ⟨Ao, oc, rfl, ho, hbw⟩, hoA⟩
        have HC := Lib.hid hc
        have HXR := Lib.hid hxr
        have hxl := hxr.lt
        clear hcell hp hpw hpe hpc hgr hc hS hblk0 hb0 hAb0 hys hblk ho hbw hoA hxr HHW HHK HLE
        cases hao : assignOf p with
        | none =>
          rw [hao] at HAS HTK
          have HTN : Hid (n + ((yas.take (k + 1)).flatMap setR).length = n + mm) := Lib.hid (by rw [HTK.out, List.length_append, hmm]; rfl)
          clear hmm hle hao
          gi_wp2_with (refine ⟨trivial, rfl, ?_⟩; gi_at_call 41; refine CallsIn.inRound l1 ((callsIn_wide.2 (HAS.out _ (below_alloc wr _))).mono ?_); rintro e w8 ⟨⟨A8, N8, C8, rfl⟩, hb8⟩
                       have hk8 : Chg (fun _ => False) wr w8 := ((Chg.refl _ wr).alloc _).next (Chg.of_below hb8)
                       have HK8 := Lib.hid hk8
                       have hz8 := hk8.size
                       clear hb8 hk8)
          go_roundw
          case rel => exact ⟨k + 1, by omega, by go_num, Lib.hid ⟨HC.out.next ((HK8.out.mono (fun _ => False.elim)).alloc _), by rw [HTN.out, HTK.out]; simpa using HOB.out.keep (HK8.out.alloc _), (HK8.out.blk HXR.out id).alloc _⟩⟩
          case measure => simp [intOf]; omega
        | some s =>
          rw [hao] at HAS HTK hle
          have HTN : Hid (n + ((yas.take (k + 1)).flatMap setR).length = n + (mm + 1)) := Lib.hid (by rw [HTK.out, List.length_append, hmm]; rfl)
          simp only [Option.toList, List.map_cons, List.map_nil, List.length_cons, List.length_nil] at hle
          clear hmm hao
          gi_wp2_with (first
            | (refine ⟨trivial, rfl, ?_⟩; gi_at_call 41; refine CallsIn.inRound l1 ((callsIn_wide.2 (HAS.out _ (below_alloc wr _))).mono ?_); rintro e w8 ⟨⟨A8, N8, C8, rfl⟩, hb8⟩
               have hk8 : Chg (fun _ => False) wr w8 := ((Chg.refl _ wr).alloc _).next (Chg.of_below hb8)
               have HK8 := Lib.hid hk8
               have hz8 := hk8.size
               have hj8 := HOB.out.keep hk8
               obtain ⟨hbx, hAb, o, hblk, ⟨Ao, oc, rfl, ho, hbw⟩, hoA⟩ := hj8
               have b0 := hblk.cell 0
               have f0 := hblk.frozen 0
               simp at b0
               have hws8 := hbw.size
               have hbl8 := hblk.lt
               have HBLK := Lib.hid hblk
               have HO := Lib.hid ho
               have HBW := Lib.hid hbw
               have HOA := Lib.hid hoA
               have hlt8 : ∀ b, A5 b → b < w8.heap.size := fun b hb => by have h1 := HLT7.out b hb; omega
               have HLT8 := Lib.hid hlt8
               have hsrc : SrcOK ((w8.alloc (.cells #[.slice A8 N8 C8] 41)).alloc (.cells #[.string s] 9)) (.slice (some ⟨w8.heap.size + 1, 0, none⟩) 1 1) 1 1 [.string s] := by
                 have := one_src (w := w8.alloc (.cells #[.slice A8 N8 C8] 41)) (t := 9) (e := 0) (u := .string s) rfl
                 rwa [World.size_alloc] at this
               have HSRC := Lib.hid hsrc
               clear hb8 hk8 hblk ho hbw hoA hlt8 hsrc)
            | (gi_at_builtin; refine wpListIn_app ElStr (.tmp 27) (.tmp 29) rfl rfl (base := w.heap.size) (n := n + mm) (m := 1) (N := n + (mm + 1)) (v := .slice Ao (n + mm) oc) (src := .slice (some ⟨w8.heap.size + 1, 0, none⟩) 1 1) (xs := xs ++ ys') (news := [.string s]) rfl rfl ((HO.out.alloc _).alloc _) HSRC.out (by omega) (by unfold maxLen; omega) (by omega) (by simp; omega) ?_
               intro A9 c9 w9 r1 r2 r3
               have hblk9 := r2.blk ((HBLK.out.alloc _).alloc _) (.inr (by decide))
               have b9 := hblk9.cell 0
               have f9 := hblk9.frozen 0
               simp at b9
               have hfin := OutBox.put hbx hAb HBLK.out HOA.out HLT8.out HO.out HBW.out (((Chg.refl _ w8).alloc _).alloc _) r3.1 r3.2 (Chg.refl _ w9) r1 (by decide)
               have HFIN := Lib.hid hfin
               have hxr9 := ((r2.blk (((HK8.out.blk HXR.out id).alloc _).alloc _) (.inr (by decide))).far (p := ⟨w.heap.size + 1, 0, none⟩) (show W5.heap.size ≠ w.heap.size + 1 by omega) (.slice A9 (n + (mm + 1)) c9))
               have HXR9 := Lib.hid hxr9
               clear r1 r2 r3 hblk9 hfin hxr9))
          go_roundw
          case rel => exact ⟨k + 1, by omega, by go_num, Lib.hid ⟨HC.out.next ((HK8.out.mono (fun _ => False.elim)).next HFIN.out.2), by rw [HTN.out, HTK.out, ← List.append_assoc]; exact HFIN.out.1, HXR9.out⟩⟩
          case measure => simp [intOf]; omega
      · obtain rfl : k = yas.length := by omega
        rw [List.take_length] at hS
        obtain ⟨hc, hj, hxr⟩ := hS.out
        have g0 := hxr.cell 0
        have g1 := hxr.cell 1
        simp at g0 g1
        have hle2 := hnl
        have hmm := HLM.out
        rw [hmm] at hj
        generalize hys : yas.flatMap setR = ys' at *
        have HC := Lib.hid hc
        have HOB := Lib.hid hj
        obtain ⟨hbx, hAb, o, hblk, ⟨Ao, oc, rfl, ho, hbw⟩, hoA⟩ := hj
        have b0 := hblk.cell 0
        have f0 := hblk.frozen 0
        simp at b0
        have hws := hbw.size
        have hbl := hblk.lt
        have hlt8 : ∀ b, A5 b → b < wr.heap.size := fun b hb => by have h1 := HLT7.out b hb; have h2 := HC.out.size; omega
        have HBLK := Lib.hid hblk
        have HO := Lib.hid ho
        have HBW := Lib.hid hbw
        have HOA := Lib.hid hoA
        have HLT8 := Lib.hid hlt8
        have hkg := HKG.out
        clear hc hxr hblk ho hbw hoA hlt8 hS HHW HHK HLE
        by_cases h7 : yk = 7
        · subst h7
          rw [if_pos rfl] at hkg hle2
          have HKG2 := Lib.hid hkg
          simp only [List.length_cons, List.length_nil] at hle2
          clear hkg
          gi_wp2_with (gi_at_builtin; refine wpListIn_app ElStr (.tmp 35) (.tmp 38) rfl rfl (base := w.heap.size) (n := n + Lm) (m := 1) (N := n + (Lm + 1)) (v := .slice Ao (n + Lm) oc) (src := .slice (some ⟨wr.heap.size, 0, none⟩) 1 1) (xs := xs ++ ys') (news := [.string ys]) rfl rfl (HO.out.alloc _) (one_src (e := 0) rfl) (by omega) (by unfold maxLen; omega) (by omega) (by simp; omega) ?_
                       intro A9 c9 w9 r1 r2 r3
                       have hblk9 := r2.blk (HBLK.out.alloc _) (.inr (by decide))
                       have b9 := hblk9.cell 0
                       have f9 := hblk9.frozen 0
                       simp at b9
                       have hfin := OutBox.put hbx hAb HBLK.out HOA.out HLT8.out HO.out HBW.out ((Chg.refl _ wr).alloc _) r3.1 r3.2 (Chg.refl _ w9) r1 (by decide)
                       have HFIN := Lib.hid hfin
                       clear r1 r2 r3 hblk9 hfin)
          exact HEND.out (HC.out.next HFIN.out.2) HFIN.out.1 (by rw [HKG2.out, List.append_assoc]) (by rw [HKG2.out, List.length_append, hmm]; rfl)
        · have hq : (yk == 7) = false := by simpa using h7
          rw [if_neg h7, List.append_nil] at hkg
          have HKG2 := Lib.hid hkg
          clear hkg
          gi_wp2
          exact HEND.out HC.out HOB.out (by rw [HKG2.out]) (by rw [HKG2.out, hmm])
end Go.Proofs.Ytpjcmhlgdgadjaa
