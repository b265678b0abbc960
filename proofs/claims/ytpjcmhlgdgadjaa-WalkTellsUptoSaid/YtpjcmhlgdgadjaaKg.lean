/- Here-documents' texts. PRINTED by gen14.py. How deep nodes stand within each other. PRINTED by gen15.py out of H15.base. -/
import Derived.Test.YtpjcmhlgdgadjaaKf
namespace Go.Proofs.Ytpjcmhlgdgadjaa
open Go.RowKit
set_option linter.unusedVariables false
attribute [local go_sem] Oper.semAt_some
def hereR (r : Tr) : List Value := if r.k 1 = 12 ∨ r.k 1 = 13 then [.string (r.s 3)] else []
def hereV (x : Tr) : List Value := (x.r 7).flatMap hereR
theorem hereR_len (r : Tr) : (hereR r).length ≤ 1 := by unfold hereR; split <;> simp
theorem take_len {β : Type} (f : Tr → List β) (l : List Tr) (j : Nat) : ((l.take j).flatMap f).length ≤ (l.flatMap f).length := flat_pre (List.take_prefix j l)
theorem r7_below (n : Tr) : (n.r 7).length + szL (below n) < n.sz := by
  have h0 : ∀ l : List Tr, szL (l.flatMap (fun w => inParts (w.r 0))) ≤ szL l := fun l => szL_flat1 sz_word l
  have h7 : ∀ l : List Tr, l.length + szL ((l.map (fun r => wordOf (r.c 2) (r.r 2))).flatMap (fun w => inParts (w.r 0))) ≤ szL l := fun l => by
    induction l with
    | nil => simp [szL]
    | cons r l ih =>
      have h1 := sz_inParts _ (r.r 2) (Nat.le_refl _)
      have h2 := r.sz_r 2
      have e : (wordOf (r.c 2) (r.r 2)).r 0 = r.r 2 := rfl
      simp only [List.length_cons, List.map_cons, List.flatMap_cons, szL_append, szL, e]
      omega
  have h1 := h0 (n.r 5 ++ n.r 6)
  have h1b := h0 ((n.r 8).flatMap (·.r 0))
  have h1c := h7 (n.r 7)
  have h2 := sz_arms (n.r 8)
  have h4 : szL (n.r 5) + szL (n.r 6) + szL (n.r 7) + szL (n.r 8) + szL (n.r 9) < n.sz := by
    cases n with
    | mk cs rows => have := szR_five rows; simp only [Tr.sz, Tr.r, Tr.rows]; omega
  rw [szL_append] at h1
  unfold below own
  simp only [szL_append, List.flatMap_append] at h1 ⊢
  omega
theorem heres_len (N : Nat) : ∀ l, szL l ≤ N → ((allL l).flatMap hereV).length ≤ szL l := by
  induction N with
  | zero =>
    intro l h
    cases l with
    | nil => rw [allL_nil]; simp
    | cons p r => have := p.sz_pos; simp only [szL] at h; omega
  | succ N ih =>
    intro l
    induction l with
    | nil => intro _; rw [allL_nil]; simp
    | cons n r ihr =>
      intro h
      simp only [szL] at h ⊢
      have h1 := r7_below n
      have h2 := ih (below n) (by omega)
      have h3 := ihr (by omega)
      have h4 : (hereV n).length ≤ (n.r 7).length := flat_len1 hereR_len _
      rw [allL_cons, List.flatMap_cons, List.flatMap_append, List.length_append, List.length_append]
      omega
theorem heres_sz (t : Tr) : ((all t).flatMap hereV).length ≤ t.sz := by
  have := heres_len _ [t] (Nat.le_refl _)
  simpa [szL, all] using this
/-- A node, as far as a loop's body looks at it. -/
theorem hereV_open {A : Nat → Prop} {w : World} {t : Tr} (h : Lies A w .node t) : ∃ (k : Int) (s : ByteArray) (b1 b2 : Bool) (oa : Option Addr) (os oc : Nat) (aa : Option Addr) (gs ac : Nat) (wa : Option Addr) (ws : Nat) (wc : Nat) (ra : Option Addr) (rs : List Tr) (rc : Nat) (ma : Option Addr) (ms mc : Nat) (ka : Option Addr) (ks kc : Nat),
    t.cs = [.int .i64 k, .string s, .bool b1, .bool b2, .slice oa os oc, .slice aa gs ac, .slice wa ws wc, .slice ra rs.length rc, .slice ma ms mc, .slice ka ks kc] ∧
    (hereV t = rs.flatMap hereR) ∧ (RowAt A w 4 (.slice ra rs.length rc) rs ∧ ∀ x ∈ rs, Lies A w .redir x) := by
  obtain ⟨k, s, b1, b2, oa, oc, aa, ac, wa, wc, ra, rc, ma, mc, ka, kc, os, gs, ws, rs, ms, ks, rfl, q1, h4, h5, h6, h7, h8, h9, k4, k5, k6, k7, k8, k9⟩ := h.node
  exact ⟨k, s, b1, b2, oa, os.length, oc, aa, gs.length, ac, wa, ws.length, wc, ra, rs, rc, ma, ms.length, mc, ka, ks.length, kc, rfl, rfl, h7, k7⟩
set_option maxRecDepth 100000 in
set_option maxHeartbeats 3200000 in
theorem fheres_any {A : Nat → Prop} {w : World} {t : Tr} (hsz : t.sz ≤ 1048576) (hA : ∀ b, A b → b < w.heap.size) (hl : Lies A w .node t) :
    Calls Try.prog 22 #[.agg t.cs.toArray] w fun e w' => ∃ o, e = .returned o ∧ OutAt 9 1 w ((all t).flatMap hereV).length ((all t).flatMap hereV) o w' := by
  obtain ⟨W0, hW0⟩ : ∃ W0, (w.alloc (.cells t.cs.toArray 28)).alloc (.cells #[.slice none 0 0] 32) = W0 := ⟨_, rfl⟩
  obtain ⟨W, hW⟩ : ∃ W, W0.alloc (.cells t.cs.toArray 28) = W := ⟨_, rfl⟩
  have hb0 : Below w.heap.size w W0 := by rw [← hW0]; exact (below_alloc w _).alloc (by simp) _
  have hs0 : W0.heap.size = w.heap.size + 2 := by rw [← hW0]; simp
  have hs : W.heap.size = w.heap.size + 3 := by rw [← hW]; simp [hs0]
  have hbW : Below W0.heap.size W0 W := by rw [← hW]; exact below_alloc _ _
  have hx0 : Blk W0 w.heap.size 28 t.cs.toArray := by rw [← hW0]; exact (Blk.new w 28 _).alloc _
  have ho0 : Blk W0 (w.heap.size + 1) 32 #[.slice none 0 0] := by
    rw [← hW0]
    have := Blk.new (w.alloc (.cells t.cs.toArray 28)) 32 #[.slice none 0 0]
    rwa [World.size_alloc] at this
  have hxW : Blk W W0.heap.size 28 t.cs.toArray := by rw [← hW]; exact Blk.new _ _ _
  have hbw : Below w.heap.size w W := hb0.trans (hbW.mono hb0.size)
  have hlW : Lies (fun b => A b ∨ b = W0.heap.size) W .node t := hl.keep (fun _ => .inl) hbw.size (fun b hb => hbw.block b (hA b hb))
  have hfn := all_fn (w := W0) hl
  rw [hW] at hfn
  have hlen : ((all t).flatMap hereV).length ≤ t.sz := heres_sz t
  have hltA : ∀ b, (A b ∨ b = W0.heap.size) → b < W.heap.size := fun b hb => hb.elim (fun h => by have := hA b h; omega) (fun h => by omega)
  have hseq := all1_seq _ t (Nat.le_refl _) hsz (fun b => A b ∨ b = W0.heap.size) W W0.heap.size hltA (.inr rfl) hlW hxW
  have hall : ∀ x ∈ all t, Lies A w .node x := all_lies _ [t] (Nat.le_refl _) (by simpa using hl)
  have hsm : Same A w W := fun b hb => hbw.block b (hA b hb)
  have hb1 : LoopI 9 32 w (w.heap.size + 1) hereV A W [] (fun b => A b ∨ b = W0.heap.size) W := by
    refine ⟨⟨by omega, ?_, .slice none 0 0, ho0.below hbW (by omega), ⟨none, 0, rfl, ⟨by simp, .inl ⟨rfl, rfl⟩⟩, hbw⟩, fun b hb => by cases hb⟩, hsm, Nat.le_refl _⟩
    rintro (h | h)
    · have := hA _ h; omega
    · omega
  obtain ⟨zk, zs, z1, z2, zoa, zon, zoc, zaa, zan, zac, zwa, zwn, zwc, zra, zrn, zrc, zma, zmn, zmc, zka, zkn, zkc, hcs⟩ := hl.node10
  rw [hs0] at hseq hfn hb1
  rw [hcs] at hfn hW0 hx0
  have HSEQ := Lib.hid hseq
  have HFN := Lib.hid hfn
  have HALL := Lib.hid hall
  have HB1 := Lib.hid hb1
  have HA := Lib.hid hA
  have c0 := hx0.cell 0
  have c1 := hx0.cell 1
  have c2 := hx0.cell 2
  have c3 := hx0.cell 3
  have c4 := hx0.cell 4
  have c5 := hx0.cell 5
  have c6 := hx0.cell 6
  have c7 := hx0.cell 7
  have c8 := hx0.cell 8
  have c9 := hx0.cell 9
  simp at c0 c1 c2 c3 c4 c5 c6 c7 c8 c9
  rw [hcs]
  rw [hs0] at hltA
  have HLT := Lib.hid hltA
  have hEl := ElStr
  clear hseq hfn hall hsm hb1 hA hltA hb0 hbW hx0 ho0 hxW hbw hlW hcs hl
  refine (callsIn_wide (n := 0)).1 ?_
  refine callsIn_of_wp_marks Try.func22 rfl trivial ?_ rfl
  simp only [Try.ntmps22, List.size_toArray, List.length_cons, List.length_nil, Nat.reduceAdd, Nat.reduceSub, Array.replicate_succ, Array.replicate_zero, List.push_toArray, List.append_toArray, List.nil_append, List.cons_append]
  gi_wp2_with (refine ⟨trivial, rfl, ?_⟩; gi_at_call 30; refine (callsIn_wide.2 HFN.out).mono ?_; rintro e w1 ⟨rfl, hw1⟩; rw [hw1]; clear hw1)
  clear c0 c1 c2 c3 c4 c5 c6 c7 c8 c9 HFN
  refine range_top (gf := 46) (lb := #[.pointer (some ⟨w.heap.size + 2, 0, none⟩)]) rfl (fun _ _ => by kernel_rfl) HSEQ.out HLT.out (fun _ => rfl)
    (LoopI 9 32 w (w.heap.size + 1) hereV A W) (fun c A' W' => False) ?hI ?hIx ?h0 ?hround ?hdone ?hstop
  case hI => exact fun s A1 A2 U U' h hc hA' => h.shy HA.out (by omega) (by omega) hc hA'
  case hIx => exact fun c s A1 A2 U U' h _ _ => h
  case h0 => exact HB1.out
  case hstop => exact fun D c A' W' _ _ _ _ h _ => h.elim
  case hdone =>
    rintro D A5 W5 hD hAD hsup hlt ⟨hj, -, -⟩ hK
    obtain ⟨o, b0, hoo⟩ := hj.fin2 (D := D) (by omega) hAD (.deferred none)
    have HO := Lib.hid hoo
    clear hoo hj
    gi_wp2
    refine ⟨by simp, .inl ⟨_, _, rfl, run_takeDeferred hK, ?_⟩⟩
    refine ⟨_, results_tmp rfl _ _ _, ?_⟩
    exact ⟨o, rfl, HO.out⟩
  case hround =>
    rintro l1 pre x A5 W5 hpre hl1 hl1W hAl hsup hlt ⟨hj, hsame, hsz5⟩
    have hxa : x ∈ all t := hpre.subset (by simp)
    have hlx := HALL.out x hxa
    have hnl := flat_pre (f := hereV) hpre
    rw [List.flatMap_append, List.length_append, List.flatMap_cons, List.flatMap_nil, List.append_nil] at hnl
    have hnl2 : (pre.flatMap hereV).length + (hereV x).length ≤ 1048576 := by omega
    have hxs : x.sz ≤ 1048576 := by
      have h1 := szAll _ [t] (Nat.le_refl _) x hxa
      simp [szL] at h1
      omega
    obtain ⟨W6, hW6⟩ : ∃ W6, W5.alloc (.cells x.cs.toArray 28) = W6 := ⟨_, rfl⟩
    have hb6 : Below W5.heap.size W5 W6 := by rw [← hW6]; exact below_alloc _ _
    have hx6 : Blk W6 W5.heap.size 28 x.cs.toArray := by rw [← hW6]; exact Blk.new _ _ _
    have hs6 : W6.heap.size = W5.heap.size + 1 := by rw [← hW6]; simp
    obtain ⟨yk, ys, y1, y2, yoa, yos, yoc, yaa, yas, yac, ywa, yws, ywc, yra, yrs, yrc, yma, yms, ymc, yka, yks, ykc, hkc, hkg, hrw⟩ := hereV_open hlx
    have HKG := Lib.hid hkg
    have HRW := Lib.hid hrw
    rw [hkc] at hW6
    have HB6 := Lib.hid hb6
    have HX6 := Lib.hid hx6
    have HJ := Lib.hid hj
    have HLT5 := Lib.hid hlt
    have HSM5 := Lib.hid hsame
    have HKC := Lib.hid hkc
    have HLX := Lib.hid hlx
    have HNL := Lib.hid hnl2
    simp only [enc1, hkc]
    clear hb6 hx6 hj hlt hsup hsame hpre hkc hlx hxa hnl hnl2 hkg hrw
    simp
    gi_wp2
    refine ⟨by omega, fun b hb => HB6.out.block b (HLT5.out b hb), fun W7 hc7 hs7 r hr => ?_⟩
    have hx7 : Blk W7 W5.heap.size 28 x.cs.toArray := hc7.blk HX6.out (by omega)
    have hj6 := HJ.out.shy (B := W5.heap.size) (A' := A5) (by have := HJ.out.2.1; omega) (Chg.of_below HB6.out) (fun _ => .inl)
    have hj7 := hj6.shy (B := w.heap.size) (A' := A5) (Nat.le_refl _) (hc7.mono (fun b hb => by subst hb; exact ⟨by omega, hAl⟩)) (fun _ => .inl)
    have hlt7 : ∀ b, A5 b → b < W7.heap.size := fun b hb => by have := HLT5.out b hb; omega
    have hsm7 : Same A w W7 := fun b hb => by
      have h3 := HA.out b hb
      exact (hc7.block b (by omega) (by omega)).trans ((HB6.out.block b (by omega)).trans (HSM5.out b hb))
    rw [HKC.out] at hx7
    have c0 := hx7.cell 0
    have c1 := hx7.cell 1
    have c2 := hx7.cell 2
    have c3 := hx7.cell 3
    have c4 := hx7.cell 4
    have c5 := hx7.cell 5
    have c6 := hx7.cell 6
    have c7 := hx7.cell 7
    have c8 := hx7.cell 8
    have c9 := hx7.cell 9
    simp at c0 c1 c2 c3 c4 c5 c6 c7 c8 c9
    have HX7 := Lib.hid hx7
    have HJ7 := Lib.hid hj7
    have hnl := HNL.out
    have HEND : Hid (∀ {N : Nat} {ys : List Value} {W' : World}, Chg (fun b => w.heap.size ≤ b ∧ ¬ A5 b) W7 W' → OutBox 9 1 32 w (w.heap.size + 1) N ys A5 W' → ys = pre.flatMap hereV ++ hereV x → N = (pre.flatMap hereV).length + (hereV x).length →
        W7.heap.size ≤ W'.heap.size ∧ Same A5 W7 W' ∧ LoopI 9 32 w (w.heap.size + 1) hereV A W (pre ++ [x]) A5 W') := Lib.hid (fun hc ho hy hN => LoopI.next HA.out hlt7 hsm7 (by omega) (by omega) hc ho hy hN)
    have HLT7 := Lib.hid hlt7
    have HSM7 := Lib.hid hsm7
    have HLX7 : Hid (∀ {v : Value} {l : List Tr} {m : Nat} {y : World}, RowAt A w m v l → Below W7.heap.size W7 y → RowAt A y m v l) := Lib.hid (fun h hy => h.keep (fun _ => id) (by have := hy.size; omega) (fun b hb => (hy.block b (by have := HA.out b hb; omega)).trans (hsm7 b hb)))
    have HLW7 : Hid (∀ {ty : Ty} {u : Tr} {y : World}, Lies A w ty u → Below W7.heap.size W7 y → Lies A y ty u) := Lib.hid (fun h hy => h.keep (fun _ => id) (by have := hy.size; omega) (fun b hb => (hy.block b (by have := HA.out b hb; omega)).trans (hsm7 b hb)))
    have hA7 : ∀ b, A b → b < W7.heap.size := fun b hb => by have := HA.out b hb; omega
    have HA7 := Lib.hid hA7
    generalize hpx : pre.flatMap hereV = xs at *
    generalize hpm : xs.length = n at *
    clear hx7 hj7 hlt7 hsm7 hj6 hr HX6 HB6 HSM5 HLT5 HSEQ HALL HB1 HLT hc7 HJ HNL hA7
    obtain ⟨hrw, hrk⟩ := HRW.out
    have hrl := hrw.len
    have hkg := HKG.out
    have HHW := Lib.hid hrw
    have HHK := Lib.hid hrk
    have HSW : Hid (∀ {y : World}, Chg (fun b => w.heap.size ≤ b ∧ ¬ A5 b) W7 y → Same A w y) := Lib.hid (fun hc => HSM7.out.trans (fun b hb => hc.block b (by have := HA.out b hb; omega) (fun h => by have := HA.out b hb; omega)))
    rw [hkg] at hnl
    have HLE : Hid (∀ j, ((yrs.take j).flatMap hereR).length ≤ (yrs.flatMap hereR).length) := Lib.hid (fun j => take_len _ _ _)
    clear hrw hrk hkg
    gi_wp2
    gi_loopw [13] (fun i wr => ∃ k : Nat, k ≤ yrs.length ∧ i = .int .i64 k ∧ Hid (Chg (fun b => w.heap.size ≤ b ∧ ¬ A5 b) W7 wr ∧ OutBox 9 1 32 w (w.heap.size + 1) (n + ((yrs.take k).flatMap hereR).length) (xs ++ (yrs.take k).flatMap hereR) A5 wr)) (fun i _ => yrs.length - (intOf i).toNat)
    case atStart => exact ⟨0, Nat.zero_le _, rfl, Lib.hid ⟨Chg.refl _ _, by simpa using HJ7.out⟩⟩
    case round =>
      obtain ⟨k, hk, rfl, hS⟩ := hrel
      by_cases hlt : k < yrs.length
      · obtain ⟨hc, hj⟩ := hS.out
        have hx := List.getElem?_eq_getElem hlt
        obtain ⟨b, off, rfl, hAb0, hb0, hcell⟩ := cells_at HHW.out hx
        have hp := HHK.out yrs[k] (List.getElem_mem hlt)
        have htk := flat_snoc (f := hereR) hlt
        have hle := HLE.out (k + 1)
        rw [htk, List.length_append] at hle
        have HTK := Lib.hid htk
        clear htk hx
        generalize yrs[k] = p at *
        obtain ⟨rn, rk, pa, pc, ps, rh, rfl, q2, q3, h3, h4⟩ := hp.redir
        have hblk0 := HSW.out hc b hAb0
        have e0 := (World.cell?_of_block (a := ⟨b, off + k * 4, none⟩) hblk0).trans (hcell 0 (by omega))
        have e1 := (World.cell?_of_block (a := ⟨b, off + k * 4 + 1, none⟩) hblk0).trans (hcell 1 (by omega))
        have e2 := (World.cell?_of_block (a := ⟨b, off + k * 4 + 2, none⟩) hblk0).trans (hcell 2 (by omega))
        have e3 := (World.cell?_of_block (a := ⟨b, off + k * 4 + 3, none⟩) hblk0).trans (hcell 3 (by omega))
        simp only [Tr.cs, List.getElem?_cons_zero, List.getElem?_cons_succ] at e0 e1 e2 e3
        have hgr : hereR (.mk [.string rn, .int .i64 rk, .slice pa ps.length pc, .string rh] [[], [], ps, []]) = if rk = 12 ∨ rk = 13 then [.string rh] else [] := rfl
        rw [hgr] at HTK hle
        generalize hys : (yrs.take k).flatMap hereR = ys' at *
        generalize hmm : ys'.length = mm at *
        obtain ⟨hbx, hAb, o, hblk, ⟨Ao, oc, rfl, ho, hbw⟩, hoA⟩ := hj
        have b0 := hblk.cell 0
        have f0 := hblk.frozen 0
        simp at b0
        have hws := hbw.size
        have hbl := hblk.lt
        have HBLK := Lib.hid hblk
        have HO := Lib.hid ho
        have HBW := Lib.hid hbw
        have HOA := Lib.hid hoA
        have HC := Lib.hid hc
        have hltr : ∀ b, A5 b → b < wr.heap.size := fun b hb => by have h1 := HLT7.out b hb; have h2 := HC.out.size; omega
        have HLTR := Lib.hid hltr
        have HOB : Hid (OutBox 9 1 32 w (w.heap.size + 1) (n + mm) (xs ++ ys') A5 wr) := Lib.hid ⟨hbx, hAb, _, hblk, ⟨Ao, oc, rfl, ho, hbw⟩, hoA⟩
        have hsrc : SrcOK ((wr.alloc (.cells #[.string rn, .int .i64 rk, .slice pa ps.length pc, .string rh] 47)).alloc (.cells #[.string rh] 9)) (.slice (some ⟨wr.heap.size + 1, 0, none⟩) 1 1) 1 1 [.string rh] := by
          have := one_src (w := wr.alloc (.cells #[.string rn, .int .i64 rk, .slice pa ps.length pc, .string rh] 47)) (t := 9) (e := 0) (u := .string rh) rfl
          rwa [World.size_alloc] at this
        clear hcell hp h3 h4 hgr hblk ho hbw hoA hc hltr hS hblk0 hb0 hAb0 hys
        by_cases h12 : rk = 12
        · subst h12
          rw [if_pos (.inl rfl)] at HTK hle
          have HTN : Hid (n + ((yrs.take (k + 1)).flatMap hereR).length = n + (mm + 1)) := Lib.hid (by rw [HTK.out, List.length_append, hmm]; rfl)
          simp only [List.length_cons, List.length_nil] at hle
          clear hmm
          gi_wp2_with (gi_at_builtin; refine wpListIn_app ElStr (.tmp 25) (.tmp 28) rfl rfl (base := w.heap.size) (n := n + mm) (m := 1) (N := n + (mm + 1)) (v := .slice Ao (n + mm) oc) (src := .slice (some ⟨wr.heap.size + 1, 0, none⟩) 1 1) (xs := xs ++ ys') (news := [.string rh]) rfl rfl ((HO.out.alloc _).alloc _) (hsrc) (by omega) (by unfold maxLen; omega) (by omega) (by simp; omega) ?_
                       intro A9 c9 w9 r1 r2 r3
                       have hblk9 := r2.blk ((HBLK.out.alloc _).alloc _) (.inr (by decide))
                       have b9 := hblk9.cell 0
                       have f9 := hblk9.frozen 0
                       simp at b9
                       have hfin := OutBox.put hbx hAb HBLK.out HOA.out HLTR.out HO.out HBW.out (((Chg.refl _ wr).alloc _).alloc _) r3.1 r3.2 (Chg.refl _ w9) r1 (by decide)
                       have HFIN := Lib.hid hfin
                       clear r1 r2 r3 hblk9 hfin)
          go_roundw
          case rel => exact ⟨k + 1, by omega, by go_num, Lib.hid ⟨HC.out.next HFIN.out.2, by rw [HTN.out, HTK.out, ← List.append_assoc]; exact HFIN.out.1⟩⟩
          case measure => simp [intOf]; omega
        · by_cases h13 : rk = 13
          · subst h13
            rw [if_pos (.inr rfl)] at HTK hle
            have HTN : Hid (n + ((yrs.take (k + 1)).flatMap hereR).length = n + (mm + 1)) := Lib.hid (by rw [HTK.out, List.length_append, hmm]; rfl)
            simp only [List.length_cons, List.length_nil] at hle
            clear hmm h12
            gi_wp2_with (gi_at_builtin; refine wpListIn_app ElStr (.tmp 25) (.tmp 28) rfl rfl (base := w.heap.size) (n := n + mm) (m := 1) (N := n + (mm + 1)) (v := .slice Ao (n + mm) oc) (src := .slice (some ⟨wr.heap.size + 1, 0, none⟩) 1 1) (xs := xs ++ ys') (news := [.string rh]) rfl rfl ((HO.out.alloc _).alloc _) (hsrc) (by omega) (by unfold maxLen; omega) (by omega) (by simp; omega) ?_
                         intro A9 c9 w9 r1 r2 r3
                         have hblk9 := r2.blk ((HBLK.out.alloc _).alloc _) (.inr (by decide))
                         have b9 := hblk9.cell 0
                         have f9 := hblk9.frozen 0
                         simp at b9
                         have hfin := OutBox.put hbx hAb HBLK.out HOA.out HLTR.out HO.out HBW.out (((Chg.refl _ wr).alloc _).alloc _) r3.1 r3.2 (Chg.refl _ w9) r1 (by decide)
                         have HFIN := Lib.hid hfin
                         clear r1 r2 r3 hblk9 hfin)
            go_roundw
            case rel => exact ⟨k + 1, by omega, by go_num, Lib.hid ⟨HC.out.next HFIN.out.2, by rw [HTN.out, HTK.out, ← List.append_assoc]; exact HFIN.out.1⟩⟩
            case measure => simp [intOf]; omega
          · rw [if_neg (by omega)] at HTK
            have HTN : Hid (n + ((yrs.take (k + 1)).flatMap hereR).length = n + mm) := Lib.hid (by rw [HTK.out, List.length_append, hmm]; rfl)
            have g12 : (rk == 12) = false := by simpa using h12
            have g13 : (rk == 13) = false := by simpa using h13
            clear hmm hle
            gi_wp2
            go_roundw
            case rel => exact ⟨k + 1, by omega, by go_num, Lib.hid ⟨HC.out.alloc _, by rw [HTN.out, HTK.out, List.append_nil]; exact HOB.out.keep ((Chg.refl _ _).alloc _)⟩⟩
            case measure => simp [intOf]; omega
      · obtain rfl : k = yrs.length := by omega
        rw [List.take_length] at hS
        gi_wp2
        exact HEND.out hS.out.1 hS.out.2 (by rw [HKG.out]) (by rw [HKG.out])
end Go.Proofs.Ytpjcmhlgdgadjaa

namespace Go.Proofs.Ytpjcmhlgdgadjaa
open Go.RowKit
set_option linter.unusedVariables false
attribute [local go_sem] Oper.semAt_some
theorem deep_sz (t : Tr) : deep t ≤ t.sz := Nat.le_trans (deep_all t) (all_sz t)
theorem deepL_pre {pre l : List Tr} (h : pre <+: l) : deepL pre ≤ deepL l := by
  obtain ⟨q, rfl⟩ := h
  rw [deepL_append]; omega
theorem deepL_sz (t : Tr) : deepL (below t) < t.sz := by have := deep_sz t; unfold deep at this; omega
/-- Between two rounds. -/
def DeepI (w : World) (W : World) (pre : List Tr) (A' : Nat → Prop) (W' : World) : Prop :=
  Blk W' (w.heap.size + 1) 3 #[.int .i64 (deepL pre)] ∧ ¬ A' (w.heap.size + 1) ∧ Below w.heap.size w W' ∧ W.heap.size ≤ W'.heap.size
theorem DeepI.shy {w W U U' : World} {pre : List Tr} {A1 A2 : Nat → Prop} {B : Nat} (hB : w.heap.size ≤ B) (h : DeepI w W pre A1 U) (hc : Chg (fun b => B ≤ b ∧ A1 b) U U') (hA' : ∀ b, A2 b → A1 b ∨ U.heap.size ≤ b) : DeepI w W pre A2 U' := by
  obtain ⟨h1, h2, h3, h4⟩ := h
  exact ⟨hc.blk h1 (fun h => h2 h.2), fun h => (hA' _ h).elim h2 (by have := h1.lt; omega), h3.trans (hc.below h3.size (fun k hk h => by omega)), Nat.le_trans h4 hc.size⟩
theorem deep_next {w W W7 w8 : World} {A5 : Nat → Prop} {pre : List Tr} {x : Tr} {n m v : Nat} (hp : deepL pre = n) (hx : deep x = m) (hv : v = max n m) (hk : Chg (fun _ => False) W7 w8) (hb : Blk w8 (w.heap.size + 1) 3 #[.int .i64 n]) (hlt : ∀ b, A5 b → b < W7.heap.size) (hA : ¬ A5 (w.heap.size + 1))
    (hbw : Below w.heap.size w W7) (hz : W.heap.size ≤ W7.heap.size) : W7.heap.size ≤ (w8.setCell ⟨w.heap.size + 1, 0, none⟩ (.int .i64 v)).heap.size ∧ Same A5 W7 (w8.setCell ⟨w.heap.size + 1, 0, none⟩ (.int .i64 v)) ∧ DeepI w W (pre ++ [x]) A5 (w8.setCell ⟨w.heap.size + 1, 0, none⟩ (.int .i64 v)) := by
  have hc := (hk.mono (Y := fun b => b = w.heap.size + 1) (fun _ => False.elim)).set (p := ⟨w.heap.size + 1, 0, none⟩) (.inr rfl) (.int .i64 v)
  have hz9 := hc.size
  refine ⟨hz9, fun b hb' => hc.block b (hlt b hb') (fun h => hA (h ▸ hb')), ?_, hA, hbw.trans (hc.below hbw.size (fun k hk h => by omega)), Nat.le_trans hz hz9⟩
  have h2 := hb.set_ 0 (.int .i64 v)
  rw [deepL_append, deepL_one, hp, hx, ← hv]
  simpa using h2
set_option maxRecDepth 100000 in
set_option maxHeartbeats 3200000 in
theorem deep_any (N : Nat) : ∀ t : Tr, t.sz ≤ N → t.sz ≤ 1048576 → ∀ (A : Nat → Prop) (w : World), (∀ b, A b → b < w.heap.size) → Lies A w .node t →
    Calls Try.prog 9 #[.agg t.cs.toArray] w fun e w' => e = .returned (.int .i64 (deep t)) ∧ Below w.heap.size w w' := by
  induction N with
  | zero => intro t ht; have := t.sz_pos; omega
  | succ N ih =>
  intro t hN hsz A w hA hl
  obtain ⟨W0, hW0⟩ : ∃ W0, (w.alloc (.cells t.cs.toArray 28)).alloc (.cells #[.int .i64 0] 3) = W0 := ⟨_, rfl⟩
  obtain ⟨W, hW⟩ : ∃ W, W0.alloc (.cells t.cs.toArray 28) = W := ⟨_, rfl⟩
  have hb0 : Below w.heap.size w W0 := by rw [← hW0]; exact (below_alloc w _).alloc (by simp) _
  have hs0 : W0.heap.size = w.heap.size + 2 := by rw [← hW0]; simp
  have hs : W.heap.size = w.heap.size + 3 := by rw [← hW]; simp [hs0]
  have hbW : Below W0.heap.size W0 W := by rw [← hW]; exact below_alloc _ _
  have hx0 : Blk W0 w.heap.size 28 t.cs.toArray := by rw [← hW0]; exact (Blk.new w 28 _).alloc _
  have ho0 : Blk W0 (w.heap.size + 1) 3 #[.int .i64 0] := by
    rw [← hW0]
    have := Blk.new (w.alloc (.cells t.cs.toArray 28)) 3 #[.int .i64 0]
    rwa [World.size_alloc] at this
  have hxW : Blk W W0.heap.size 28 t.cs.toArray := by rw [← hW]; exact Blk.new _ _ _
  have hbw : Below w.heap.size w W := hb0.trans (hbW.mono hb0.size)
  have hlW : Lies (fun b => A b ∨ b = W0.heap.size) W .node t := hl.keep (fun _ => .inl) hbw.size (fun b hb => hbw.block b (hA b hb))
  have hfn := below_any (w := W0) hl
  rw [hW] at hfn
  have hds := deepL_sz t
  have hltA : ∀ b, (A b ∨ b = W0.heap.size) → b < W.heap.size := fun b hb => hb.elim (fun h => by have := hA b h; omega) (fun h => by omega)
  have hseq := below1_seq hsz hltA (.inr rfl) hlW hxW
  have hall : ∀ x ∈ below t, Lies A w .node x := below_lies hl
  have hb1 : DeepI w W [] (fun b => A b ∨ b = W0.heap.size) W := by
    refine ⟨by rw [deepL_nil]; exact ho0.below hbW (by omega), ?_, hbw, Nat.le_refl _⟩
    rintro (h | h)
    · have := hA _ h; omega
    · omega
  obtain ⟨zk, zs, z1, z2, zoa, zon, zoc, zaa, zan, zac, zwa, zwn, zwc, zra, zrn, zrc, zma, zmn, zmc, zka, zkn, zkc, hcs⟩ := hl.node10
  rw [hs0] at hseq hfn hb1
  rw [hcs] at hfn hW0 hx0
  have HSEQ := Lib.hid hseq
  have HFN := Lib.hid hfn
  have HALL := Lib.hid hall
  have HB1 := Lib.hid hb1
  have HA := Lib.hid hA
  have HIH := Lib.hid ih
  have c0 := hx0.cell 0
  have c1 := hx0.cell 1
  have c2 := hx0.cell 2
  have c3 := hx0.cell 3
  have c4 := hx0.cell 4
  have c5 := hx0.cell 5
  have c6 := hx0.cell 6
  have c7 := hx0.cell 7
  have c8 := hx0.cell 8
  have c9 := hx0.cell 9
  simp at c0 c1 c2 c3 c4 c5 c6 c7 c8 c9
  rw [hcs]
  rw [hs0] at hltA
  have HLT := Lib.hid hltA
  have HW0 := Lib.hid hW0
  clear hW0
  clear hseq hfn hall hb1 hA hltA hb0 hbW hx0 ho0 hxW hbw hlW hcs hl ih
  refine (callsIn_wide (n := 0)).1 ?_
  refine callsIn_of_wp_marks Try.func9 rfl trivial ?_ rfl
  simp only [Try.ntmps9, List.size_toArray, List.length_cons, List.length_nil, Nat.reduceAdd, Nat.reduceSub, Array.replicate_succ, Array.replicate_zero, List.push_toArray, List.append_toArray, List.nil_append, List.cons_append]
  gi_wp2_with (refine ⟨trivial, rfl, ?_⟩; gi_at_call 32; rw [HW0.out]; refine (callsIn_wide.2 HFN.out).mono ?_; rintro e w1 ⟨rfl, hw1⟩; rw [hw1]; clear hw1)
  clear c0 c1 c2 c3 c4 c5 c6 c7 c8 c9 HFN
  refine range_top (gf := 47) (lb := #[.pointer (some ⟨w.heap.size + 2, 0, none⟩)]) rfl (fun _ _ => by kernel_rfl) HSEQ.out HLT.out (fun _ => rfl)
    (DeepI w W) (fun c A' W' => False) ?hI ?hIx ?h0 ?hround ?hdone ?hstop
  case hI => exact fun s A1 A2 U U' h hc hA' => h.shy (by omega) hc hA'
  case hIx => exact fun c s A1 A2 U U' h _ _ => h
  case h0 => exact HB1.out
  case hstop => exact fun D c A' W' _ _ _ _ h _ => h.elim
  case hdone =>
    rintro D A5 W5 hD hAD hsup hlt ⟨hj, -, hbw, -⟩ hK
    have b0 := hj.cell 0
    simp at b0
    have HBW := Lib.hid hbw
    have hws := hbw.size
    clear hj hbw
    gi_wp2
    refine ⟨by simp, .inl ⟨_, _, rfl, run_takeDeferred hK, ?_⟩⟩
    refine ⟨_, results_tmp rfl _ _ _, ?_⟩
    refine ⟨?_, HBW.out.trans (((Chg.refl (· = D) W5).put (.inr rfl) _).below hws (fun k hk h => by omega))⟩
    unfold deep
    simp
    go_num
  case hround =>
    rintro l1 pre x A5 W5 hpre hl1 hl1W hAl hsup hlt ⟨hj, hAb, hbw5, hsz5⟩
    have hxa : x ∈ below t := hpre.subset (by simp)
    have hlx := HALL.out x hxa
    have hxs : x.sz < t.sz := by
      have h1 := szL_mem hxa
      have h2 := sz_below t
      omega
    have hpm := deepL_pre hpre
    rw [deepL_append, deepL_one] at hpm
    obtain ⟨W6, hW6⟩ : ∃ W6, W5.alloc (.cells x.cs.toArray 28) = W6 := ⟨_, rfl⟩
    have hb6 : Below W5.heap.size W5 W6 := by rw [← hW6]; exact below_alloc _ _
    have hx6 : Blk W6 W5.heap.size 28 x.cs.toArray := by rw [← hW6]; exact Blk.new _ _ _
    have hs6 : W6.heap.size = W5.heap.size + 1 := by rw [← hW6]; simp
    obtain ⟨yk, ys, y1, y2, yoa, yos, yoc, yaa, yas, yac, ywa, yws, ywc, yra, yrs, yrc, yma, yms, ymc, yka, yks, ykc, hkc⟩ := hlx.node10
    rw [hkc] at hW6
    have HB6 := Lib.hid hb6
    have HX6 := Lib.hid hx6
    have HJ := Lib.hid hj
    have HLT5 := Lib.hid hlt
    have HBW5 := Lib.hid hbw5
    have HKC := Lib.hid hkc
    have HLX := Lib.hid hlx
    have hblt := hj.lt
    have hws5 := hbw5.size
    simp only [enc1, hkc]
    clear hb6 hx6 hj hlt hsup hbw5 hpre hkc hlx hxa
    simp
    gi_wp2
    refine ⟨by omega, fun b hb => HB6.out.block b (HLT5.out b hb), fun W7 hc7 hs7 r hr => ?_⟩
    have hx7 : Blk W7 W5.heap.size 28 x.cs.toArray := hc7.blk HX6.out (by omega)
    have hblk7 : Blk W7 (w.heap.size + 1) 3 #[.int .i64 (deepL pre)] := hc7.blk (HJ.out.below HB6.out hblt) (fun h => hAb (by rw [h]; exact hAl))
    have hbw7 : Below w.heap.size w W7 := (HBW5.out.trans (HB6.out.mono hws5)).trans (hc7.below (by omega) (fun k hk h => by omega))
    have hlt7 : ∀ b, A5 b → b < W7.heap.size := fun b hb => by have := HLT5.out b hb; omega
    have HDEEP : Hid (∀ y, Below W7.heap.size W7 y → Calls Try.prog 9 #[.agg x.cs.toArray] y fun e w' => e = .returned (.int .i64 (deep x)) ∧ Below y.heap.size y w') := Lib.hid (fun y hy =>
      HIH.out x (by omega) (by omega) A y (fun b hb => by have := HA.out b hb; have := hy.size; omega) (HLX.out.keep (fun _ => id) (by have := hy.size; omega) (fun b hb => (hy.block b (by have := HA.out b hb; omega)).trans (hbw7.block b (HA.out b hb)))))
    rw [HKC.out] at hx7 HDEEP
    have c0 := hx7.cell 0
    have c1 := hx7.cell 1
    have c2 := hx7.cell 2
    have c3 := hx7.cell 3
    have c4 := hx7.cell 4
    have c5 := hx7.cell 5
    have c6 := hx7.cell 6
    have c7 := hx7.cell 7
    have c8 := hx7.cell 8
    have c9 := hx7.cell 9
    simp at c0 c1 c2 c3 c4 c5 c6 c7 c8 c9
    generalize hpm2 : deepL pre = n at *
    generalize hxm : deep x = m at *
    have b0 := hblk7.cell 0
    have f0 := hblk7.frozen 0
    simp at b0
    have HPM := Lib.hid hpm2
    have HXM := Lib.hid hxm
    have HBLK := Lib.hid hblk7
    have HBW := Lib.hid hbw7
    have HLT7 := Lib.hid hlt7
    clear hpm2 hxm hblk7 hbw7 hlt7 hx7 hr HX6 HB6 HLX HKC HLT5 HSEQ HALL HB1 HLT hc7 HJ HBW5 HIH
    gi_wp2
    refine wpIn_region_any (by kernel_rfl) ?_
    try (change wpAnyIn _ _ _ _ _ _ _ _ _ (World.drew _))
    refine wpAnyIn_ready (rs := [0, 1]) (by kernel_rfl) (by simp) ?_
    refine AllReadyIn.cons rfl (fun K hK => ?_) (AllReadyIn.cons rfl (fun K hK => ?_) AllReadyIn.nil)
    · go_simp
      refine hK _ _ ?_
      clear hK K
      refine wpAnyIn_ready (rs := [1]) (by kernel_rfl) (by simp) ?_
      refine AllReadyIn.cons rfl (fun K hK => ?_) AllReadyIn.nil
      go_simp
      refine hK _ _ ?_
      clear hK K
      refine wpAnyIn_ready (rs := [2]) (by kernel_rfl) (by simp) ?_
      refine AllReadyIn.cons rfl (fun K hK => ?_) AllReadyIn.nil
      go_simp
      refine ⟨trivial, rfl, CallsIn.inRound l1 ((callsIn_wide.2 (HDEEP.out _ (below_drew (Below.refl _ _)))).mono ?_)⟩
      rintro e w8 ⟨rfl, hb8⟩
      have hk8 : Chg (fun _ => False) W7 w8 := ((Chg.refl _ W7).drew).trans (Chg.of_below hb8) (fun _ _ h => h)
      have HK8 := Lib.hid hk8
      have hblk8 := hk8.blk HBLK.out id
      have HBLK8 := Lib.hid hblk8
      have b8 := hblk8.cell 0
      have f8 := hblk8.frozen 0
      simp at b8
      have hs8 : W7.heap.size ≤ w8.heap.size := hk8.size
      clear hb8 hk8 hblk8
      refine hK _ _ ?_
      clear hK K
      refine wpAnyIn_ready (rs := [3]) (by kernel_rfl) (by simp) ?_
      refine AllReadyIn.cons rfl (fun K hK => ?_) AllReadyIn.nil
      go_simp
      refine hK _ _ ?_
      clear hK K
      refine wpAnyIn_ready (rs := [4]) (by kernel_rfl) (by simp) ?_
      refine AllReadyIn.cons rfl (fun K hK => ?_) AllReadyIn.nil
      go_simp
      refine hK _ _ ?_
      clear hK K
      refine wpAnyIn_done (by kernel_rfl) ?_ _
      gi_wp2
      all_goals exact deep_next HPM.out HXM.out (by omega) HK8.out HBLK8.out HLT7.out hAb HBW.out (by omega)
    · go_simp
      refine hK _ _ ?_
      clear hK K
      refine wpAnyIn_ready (rs := [0, 2]) (by kernel_rfl) (by simp) ?_
      refine AllReadyIn.cons rfl (fun K hK => ?_) (AllReadyIn.cons rfl (fun K hK => ?_) AllReadyIn.nil)
      · go_simp
        refine hK _ _ ?_
        clear hK K
        refine wpAnyIn_ready (rs := [2]) (by kernel_rfl) (by simp) ?_
        refine AllReadyIn.cons rfl (fun K hK => ?_) AllReadyIn.nil
        go_simp
        refine ⟨trivial, rfl, CallsIn.inRound l1 ((callsIn_wide.2 (HDEEP.out _ (below_drew (Below.refl _ _)))).mono ?_)⟩
        rintro e w8 ⟨rfl, hb8⟩
        have hk8 : Chg (fun _ => False) W7 w8 := ((Chg.refl _ W7).drew).trans (Chg.of_below hb8) (fun _ _ h => h)
        have HK8 := Lib.hid hk8
        have hblk8 := hk8.blk HBLK.out id
        have HBLK8 := Lib.hid hblk8
        have b8 := hblk8.cell 0
        have f8 := hblk8.frozen 0
        simp at b8
        have hs8 : W7.heap.size ≤ w8.heap.size := hk8.size
        clear hb8 hk8 hblk8
        refine hK _ _ ?_
        clear hK K
        refine wpAnyIn_ready (rs := [3]) (by kernel_rfl) (by simp) ?_
        refine AllReadyIn.cons rfl (fun K hK => ?_) AllReadyIn.nil
        go_simp
        refine hK _ _ ?_
        clear hK K
        refine wpAnyIn_ready (rs := [4]) (by kernel_rfl) (by simp) ?_
        refine AllReadyIn.cons rfl (fun K hK => ?_) AllReadyIn.nil
        go_simp
        refine hK _ _ ?_
        clear hK K
        refine wpAnyIn_done (by kernel_rfl) ?_ _
        gi_wp2
        all_goals exact deep_next HPM.out HXM.out (by omega) HK8.out HBLK8.out HLT7.out hAb HBW.out (by omega)
      · go_simp
        refine ⟨trivial, rfl, CallsIn.inRound l1 ((callsIn_wide.2 (HDEEP.out _ (below_drew (Below.refl _ _)))).mono ?_)⟩
        rintro e w8 ⟨rfl, hb8⟩
        have hk8 : Chg (fun _ => False) W7 w8 := ((Chg.refl _ W7).drew).trans (Chg.of_below hb8) (fun _ _ h => h)
        have HK8 := Lib.hid hk8
        have hblk8 := hk8.blk HBLK.out id
        have HBLK8 := Lib.hid hblk8
        have b8 := hblk8.cell 0
        have f8 := hblk8.frozen 0
        simp at b8
        have hs8 : W7.heap.size ≤ w8.heap.size := hk8.size
        clear hb8 hk8 hblk8
        refine hK _ _ ?_
        clear hK K
        refine wpAnyIn_ready (rs := [0]) (by kernel_rfl) (by simp) ?_
        refine AllReadyIn.cons rfl (fun K hK => ?_) AllReadyIn.nil
        go_simp
        refine hK _ _ ?_
        clear hK K
        refine wpAnyIn_ready (rs := [3]) (by kernel_rfl) (by simp) ?_
        refine AllReadyIn.cons rfl (fun K hK => ?_) AllReadyIn.nil
        go_simp
        refine hK _ _ ?_
        clear hK K
        refine wpAnyIn_ready (rs := [4]) (by kernel_rfl) (by simp) ?_
        refine AllReadyIn.cons rfl (fun K hK => ?_) AllReadyIn.nil
        go_simp
        refine hK _ _ ?_
        clear hK K
        refine wpAnyIn_done (by kernel_rfl) ?_ _
        gi_wp2
        all_goals exact deep_next HPM.out HXM.out (by omega) HK8.out HBLK8.out HLT7.out hAb HBW.out (by omega)
end Go.Proofs.Ytpjcmhlgdgadjaa
