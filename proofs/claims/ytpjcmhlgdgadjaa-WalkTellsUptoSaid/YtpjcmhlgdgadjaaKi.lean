/- The names in a word; what words read. What words read. -/
import Derived.Test.YtpjcmhlgdgadjaaKh
namespace Go.Proofs.Ytpjcmhlgdgadjaa
open Go.RowKit
set_option linter.unusedVariables false
attribute [local go_sem] Oper.semAt_some
theorem mapS (l : List ByteArray) : ∀ u ∈ l.map Value.string, u.oneCell' = true := by
  intro u hu
  obtain ⟨s, -, rfl⟩ := List.mem_map.1 hu
  rfl
/-- Between two rounds. -/
def NamI (w W : World) (pre : List ByteArray) (A' : Nat → Prop) (W' : World) : Prop := OutBox 9 1 32 w (w.heap.size + 1) pre.length (pre.map Value.string) A' W' ∧ W.heap.size ≤ W'.heap.size
set_option maxRecDepth 100000 in
set_option maxHeartbeats 3200000 in
theorem fnames_any {A : Nat → Prop} {w : World} {t : Tr} (hsz : t.sz ≤ 1048576) (hA : ∀ b, A b → b < w.heap.size) (hl : Lies A w .word t) :
    Calls Try.prog 39 #[.agg t.cs.toArray] w fun e w' => ∃ o, e = .returned o ∧ OutAt 9 1 w (namesL (t.r 0)).length ((namesL (t.r 0)).map Value.string) o w' := by
  obtain ⟨pa, pc, ps, rfl, hr, hk⟩ := hl.word
  have e0 : (Tr.mk [.slice pa ps.length pc] [ps]).r 0 = ps := rfl
  have hlen : (namesL ps).length ≤ 1048576 := by
    have h1 := namesL_len _ ps (Nat.le_refl _)
    have h2 : szL ps < (Tr.mk [.slice pa ps.length pc] [ps]).sz := Tr.sz_r (Tr.mk [.slice pa ps.length pc] [ps]) 0
    omega
  rw [e0]
  simp only [Tr.cs]
  obtain ⟨W0, hW0⟩ : ∃ W0, (w.alloc (.cells #[.slice pa ps.length pc] 41)).alloc (.cells #[.slice none 0 0] 32) = W0 := ⟨_, rfl⟩
  obtain ⟨W, hW⟩ : ∃ W, W0.alloc (.cells #[.slice pa ps.length pc] 39) = W := ⟨_, rfl⟩
  have hb0 : Below w.heap.size w W0 := by rw [← hW0]; exact (below_alloc w _).alloc (by simp) _
  have hs0 : W0.heap.size = w.heap.size + 2 := by rw [← hW0]; simp
  have hs : W.heap.size = w.heap.size + 3 := by rw [← hW]; simp [hs0]
  have hbW : Below W0.heap.size W0 W := by rw [← hW]; exact below_alloc _ _
  have hx0 : Blk W0 w.heap.size 41 #[.slice pa ps.length pc] := by rw [← hW0]; exact (Blk.new w 41 _).alloc _
  have ho0 : Blk W0 (w.heap.size + 1) 32 #[.slice none 0 0] := by
    rw [← hW0]
    have := Blk.new (w.alloc (.cells #[.slice pa ps.length pc] 41)) 32 #[.slice none 0 0]
    rwa [World.size_alloc] at this
  have hxW : Blk W W0.heap.size 39 #[.slice pa ps.length pc] := by rw [← hW]; exact Blk.new _ _ _
  have hbw : Below w.heap.size w W := hb0.trans (hbW.mono hb0.size)
  have hfn := named_fn (w := W0) (a := pa) (n := ps.length) (c := pc)
  rw [hW] at hfn
  have hltA : ∀ b, (A b ∨ b = W0.heap.size) → b < W.heap.size := fun b hb => hb.elim (fun h => by have := hA b h; omega) (fun h => by omega)
  have hseq := named1_seq (A := fun b => A b ∨ b = W0.heap.size) (w := W) hltA (.inr rfl) (hr.keep (fun _ => .inl) hbw.size (fun b hb => hbw.block b (hA b hb))) (fun x hx => (hk x hx).keep (fun _ => .inl) hbw.size (fun b hb => hbw.block b (hA b hb))) hxW
  have hb1 : NamI w W [] (fun b => A b ∨ b = W0.heap.size) W := by
    refine ⟨⟨by omega, ?_, .slice none 0 0, ho0.below hbW (by omega), ⟨none, 0, rfl, ⟨by simp, .inl ⟨rfl, rfl⟩⟩, hbw⟩, fun b hb => by cases hb⟩, Nat.le_refl _⟩
    rintro (h | h)
    · have := hA _ h; omega
    · omega
  rw [hs0] at hseq hfn hb1
  have HSEQ := Lib.hid hseq
  have HFN := Lib.hid hfn
  have HB1 := Lib.hid hb1
  have HA := Lib.hid hA
  have c0 := hx0.cell 0
  simp at c0
  rw [hs0] at hltA
  have HLT := Lib.hid hltA
  have hEl := ElStr
  clear hseq hfn hb1 hA hltA hb0 hbW hx0 ho0 hxW hbw hl hr hk e0
  refine (callsIn_wide (n := 0)).1 ?_
  refine callsIn_of_wp_marks Try.func39 rfl trivial ?_ rfl
  simp only [Try.ntmps39, List.size_toArray, List.length_cons, List.length_nil, Nat.reduceAdd, Nat.reduceSub, Array.replicate_succ, Array.replicate_zero, List.push_toArray, List.append_toArray, List.nil_append, List.cons_append]
  gi_wp2_with (refine ⟨trivial, rfl, ?_⟩; gi_at_call 53; refine (callsIn_wide.2 HFN.out).mono ?_; rintro e w1 ⟨rfl, hw1⟩; rw [hw1]; clear hw1)
  clear c0 HFN
  refine range_top (gf := 63) (lb := #[.pointer (some ⟨w.heap.size + 2, 0, none⟩)]) rfl (fun _ _ => by kernel_rfl) HSEQ.out HLT.out (fun _ => rfl)
    (NamI w W) (fun c A' W' => False) ?hI ?hIx ?h0 ?hround ?hdone ?hstop
  case hI => exact fun s A1 A2 U U' h hc hA' => ⟨h.1.shy (by omega) hc hA', Nat.le_trans h.2 hc.size⟩
  case hIx => exact fun c s A1 A2 U U' h _ _ => h
  case h0 => exact HB1.out
  case hstop => exact fun D c A' W' _ _ _ _ h _ => h.elim
  case hdone =>
    rintro D A5 W5 hD hAD hsup hlt ⟨hj, -⟩ hK
    obtain ⟨o, b0, hoo⟩ := hj.fin2 (D := D) (by omega) hAD (.deferred none)
    have HO := Lib.hid hoo
    clear hoo hj
    gi_wp2
    refine ⟨by simp, .inl ⟨_, _, rfl, run_takeDeferred hK, ?_⟩⟩
    refine ⟨_, results_tmp rfl _ _ _, ?_⟩
    exact ⟨o, rfl, HO.out⟩
  case hround =>
    rintro l1 pre x A5 W5 hpre hl1 hl1W hAl hsup hlt ⟨hj, hsz5⟩
    have hnl := hpre.length_le
    simp only [List.length_append, List.length_cons, List.length_nil] at hnl
    have HJ := Lib.hid hj
    have HLT5 := Lib.hid hlt
    clear hj hlt hsup hpre
    simp only [encS]
    simp
    gi_wp2
    refine ⟨Nat.le_refl _, fun _ _ => rfl, fun W7 hc7 hs7 r hr => ?_⟩
    have hj7 := HJ.out.shy (B := w.heap.size) (A' := A5) (Nat.le_refl _) (hc7.mono (fun b hb => by subst hb; exact ⟨by omega, hAl⟩)) (fun _ => .inl)
    have hlt7 : ∀ b, A5 b → b < W7.heap.size := fun b hb => by have := HLT5.out b hb; omega
    obtain ⟨hbx, hAb, o, hblk, ⟨Ao, oc, rfl, ho, hbw⟩, hoA⟩ := hj7
    generalize hxs : pre.map Value.string = xs at *
    generalize hn : pre.length = n at *
    have b0 := hblk.cell 0
    have f0 := hblk.frozen 0
    simp at b0
    have hws := hbw.size
    have hbl := hblk.lt
    have HBLK := Lib.hid hblk
    have HO := Lib.hid ho
    have HBW := Lib.hid hbw
    have HOA := Lib.hid hoA
    have HLT7 := Lib.hid hlt7
    have HXS := Lib.hid hxs
    have HN := Lib.hid hn
    clear hblk ho hbw hoA hlt7 hr hc7 HJ HLT5 HB1 HSEQ HLT hxs hn
    gi_wp2_with (gi_at_builtin; refine wpListIn_app ElStr (.tmp 9) (.tmp 11) rfl rfl (base := w.heap.size) (n := n) (m := 1) (N := n + 1) (v := .slice Ao n oc) (src := .slice (some ⟨W7.heap.size, 0, none⟩) 1 1) (xs := xs) (news := [.string x]) rfl rfl (HO.out.alloc _) (one_src (e := 0) rfl) (by omega) (by unfold maxLen; omega) (by omega) (by simp; omega) ?_
                 intro A9 c9 w9 r1 r2 r3
                 have hblk9 := r2.blk (HBLK.out.alloc _) (.inr (by decide))
                 have b9 := hblk9.cell 0
                 have f9 := hblk9.frozen 0
                 simp at b9
                 have hfin := OutBox.put hbx hAb HBLK.out HOA.out HLT7.out HO.out HBW.out ((Chg.refl _ W7).alloc _) r3.1 r3.2 (Chg.refl _ w9) r1 (by decide)
                 have HFIN := Lib.hid hfin
                 clear r1 r2 r3 hblk9 hfin)
    have hz9 := HFIN.out.2.size
    refine ⟨hz9, same_of_chg HFIN.out.2 HLT7.out, ?_, by omega⟩
    have := HFIN.out.1
    rw [List.length_append, List.map_append, HXS.out, HN.out]
    exact this
end Go.Proofs.Ytpjcmhlgdgadjaa

namespace Go.Proofs.Ytpjcmhlgdgadjaa
open Go.RowKit
set_option linter.unusedVariables false
def wnames (u : Tr) : List ByteArray := namesL (u.r 0)
def reads (t : Tr) : List ByteArray := (wordsOf t).flatMap wnames
theorem names_in (N : Nat) : ∀ l, szL l ≤ N → (namesL l).length + szL (inParts l) ≤ szL l := by
  induction N with
  | zero =>
    intro l h
    cases l with
    | nil => unfold inParts; rw [namesL_nil, cmdsL_nil]; simp [szL]
    | cons p r => have := p.sz_pos; simp only [szL] at h; omega
  | succ N ih =>
    intro l
    induction l with
    | nil => intro _; unfold inParts; rw [namesL_nil, cmdsL_nil]; simp [szL]
    | cons p r ihr =>
      intro h
      simp only [szL] at h ⊢
      have h3 := ih (p.r 3) (by have := p.sz_r 3; omega)
      have hr := ihr (by omega)
      have h34 : szL (p.r 3) + szL (p.r 4) < p.sz := by
        cases p with
        | mk cs rows => have := szR_two (rows := rows) (i := 3) (j := 4) (by omega); simp only [Tr.sz, Tr.r, Tr.rows]; omega
      have hn := nameP_len p
      unfold inParts at *
      rw [cmdsL_cons, namesL_cons, List.flatMap_append, List.flatMap_append, szL_append, szL_append, List.length_append, List.length_append]
      have h0 : szL ((if p.k 0 = 6 then [Tr.mk [p.c 4] [p.r 4]] else []).flatMap (·.r 0)) ≤ szL (p.r 4) := by
        split
        · simp [Tr.r, Tr.rows]
        · simp [szL]
      omega
theorem names_and_below (n : Tr) : ((own n).flatMap wnames).length + szL (below n) < n.sz := by
  have h0 : ∀ l : List Tr, (l.flatMap wnames).length + szL (l.flatMap (fun w => inParts (w.r 0))) ≤ szL l := fun l => by
    induction l with
    | nil => simp [szL]
    | cons w l ih =>
      have h1 := names_in _ (w.r 0) (Nat.le_refl _)
      have h2 := w.sz_r 0
      have h3 : wnames w = namesL (w.r 0) := rfl
      simp only [List.flatMap_cons, List.length_append, szL_append, szL, h3]
      omega
  have h1 := h0 (own n)
  have h2 := sz_arms (n.r 8)
  have h3 := sz_redirs (n.r 7)
  have h4 : szL (n.r 5) + szL (n.r 6) + szL (n.r 7) + szL (n.r 8) + szL (n.r 9) < n.sz := by
    cases n with
    | mk cs rows => have := szR_five rows; simp only [Tr.sz, Tr.r, Tr.rows]; omega
  have h5 : szL (own n) = szL (n.r 5) + szL (n.r 6) + szL ((n.r 7).map (fun r => wordOf (r.c 2) (r.r 2))) + szL ((n.r 8).flatMap (·.r 0)) := by
    simp only [own, szL_append]
  unfold below
  simp only [szL_append]
  omega
theorem reads_len (N : Nat) : ∀ l, szL l ≤ N → (((allL l).flatMap own).flatMap wnames).length ≤ szL l := by
  induction N with
  | zero =>
    intro l h
    cases l with
    | nil => rw [allL_nil]; simp
    | cons p r => have := p.sz_pos; simp only [szL] at h; omega
  | succ N ih =>
    intro l
    induction l with
    | nil => intro _; rw [allL_nil]; simp
    | cons n r ihr =>
      intro h
      simp only [szL] at h ⊢
      have h1 := names_and_below n
      have h2 := ih (below n) (by omega)
      have h3 := ihr (by omega)
      rw [allL_cons, List.flatMap_cons, List.flatMap_append, List.flatMap_append, List.flatMap_append, List.length_append, List.length_append]
      omega
theorem reads_sz (t : Tr) : (reads t).length ≤ t.sz := by
  have := reads_len _ [t] (Nat.le_refl _)
  simpa [szL, reads, wordsOf, all] using this
theorem words_lies {A : Nat → Prop} {w : World} {t : Tr} (h : Lies A w .node t) : ∀ u ∈ wordsOf t, Lies A w .word u ∧ u.sz ≤ t.sz := by
  intro u hu
  unfold wordsOf at hu
  obtain ⟨x, hx, hu⟩ := List.mem_flatMap.1 hu
  have h1 := szAll _ [t] (Nat.le_refl _) x hx
  have h2 := sz_own x
  have h3 := szL_mem hu
  simp [szL] at h1
  exact ⟨own_lies (all_lies _ [t] (Nat.le_refl _) (by simpa using h) x hx) u hu, by omega⟩
set_option maxRecDepth 100000 in
set_option maxHeartbeats 3200000 in
theorem reads_any {A : Nat → Prop} {w : World} {t : Tr} (hsz : t.sz ≤ 1048576) (hA : ∀ b, A b → b < w.heap.size) (hl : Lies A w .node t) :
    Calls Try.prog 18 #[.agg t.cs.toArray] w fun e w' => ∃ o, e = .returned o ∧ OutAt 9 1 w (reads t).length ((reads t).map Value.string) o w' := by
  have hrs := reads_sz t
  have hws := wordsOf_len t
  have hwl := words_lies hl
  obtain ⟨zk, zs, z1, z2, zoa, zon, zoc, zaa, zan, zac, zwa, zwn, zwc, zra, zrn, zrc, zma, zmn, zmc, zka, zkn, zkc, hcs⟩ := hl.node10
  have hw := words_any (w := w.alloc (.cells t.cs.toArray 28)) hsz (fun b hb => by have := hA b hb; simp; omega) (hl.later hA (below_alloc _ _))
  unfold reads at *
  generalize wordsOf t = ws at *
  rw [hcs] at hw ⊢
  have HW := Lib.hid hw
  have HWL := Lib.hid hwl
  have HA := Lib.hid hA
  have hlen : ws.length ≤ 1048576 := by omega
  have hbx := Blk.new w 28 #[.int .i64 zk, .string zs, .bool z1, .bool z2, .slice zoa zon zoc, .slice zaa zan zac, .slice zwa zwn zwc, .slice zra zrn zrc, .slice zma zmn zmc, .slice zka zkn zkc]
  have HNL : Hid (∀ j, ((ws.take j).flatMap wnames).length ≤ 1048576) := Lib.hid (fun j => by
    obtain ⟨q, hq⟩ := List.take_prefix j ws
    have : ((ws.take j).flatMap wnames).length ≤ (ws.flatMap wnames).length := by
      conv => rhs; rw [← hq, List.flatMap_append, List.length_append]
      omega
    omega)
  clear hw hwl hA hl hcs hbx
  go_enter Try.func18, Try.ntmps18
  go_wp2_with (go_at_call 13; refine HW.out.mono ?_; rintro e w2 ⟨o, rfl, hO⟩
               have hbb : Below w.heap.size w w2 := (below_alloc w _).trans (hO.below.mono (by simp))
               have hrow := hO.row hlen (fun x hx => ((HWL.out x hx).1).len)
               obtain ⟨Ao, oc, rfl⟩ := hrow.form
               have HR := Lib.hid hrow
               have HBB := Lib.hid hbb
               have hz2 := hbb.size
               clear hrow hbb hO)
  go_loopw [3, 9] (fun o i wr => ∃ k : Nat, k ≤ ws.length ∧ i = .int .i64 k ∧ Hid (OutAt 9 1 w2 ((ws.take k).flatMap wnames).length (((ws.take k).flatMap wnames).map Value.string) o wr)) (fun _ i _ => ws.length - (intOf i).toNat)
  case atStart => exact ⟨0, Nat.zero_le _, rfl, Lib.hid (by simpa using OutAt.nil _ _ _)⟩
  case round =>
    obtain ⟨k, hk, rfl, hO⟩ := hrel
    by_cases hlt : k < ws.length
    · have hx := List.getElem?_eq_getElem hlt
      obtain ⟨b, off, rfl, hAb, hb0, hcell⟩ := cells_at HR.out hx
      obtain ⟨hp, hpz⟩ := HWL.out ws[k] (List.getElem_mem hlt)
      have hsn := flat_snoc (f := wnames) hlt
      have hnl := HNL.out (k + 1)
      rw [hsn, List.length_append] at hnl
      have HSN := Lib.hid hsn
      clear hsn hx
      generalize ws[k] = p at *
      obtain ⟨Ao, so, rfl, ho, hbw⟩ := hO.out
      have e0 := (hbw.cell (p := ⟨b, off + k, none⟩) hb0).trans (by simpa using hcell 0 (by omega))
      have hwr := HBB.out.trans (hbw.mono hz2)
      have hzr := hbw.size
      have hnm : ∀ y, Below wr.heap.size wr y → Calls Try.prog 39 #[.agg p.cs.toArray] y fun e w' => ∃ o, e = .returned o ∧ OutAt 9 1 y (wnames p).length ((wnames p).map Value.string) o w' := fun y hy =>
        fnames_any (by omega) (fun b hb => by have := HA.out b hb; have := hy.size; omega) (hp.later HA.out (hwr.trans (hy.mono (by omega))))
      have hyl : ((wnames p).map Value.string).length = (wnames p).length := List.length_map _
      obtain ⟨pa, pc, ps, hpe, -, -⟩ := hp.word
      have hpc : p.cs = [.slice pa ps.length pc] := by rw [hpe]; rfl
      rw [hpc] at e0 hnm
      simp only [List.getElem?_cons_zero] at e0
      clear hpe hp hpc hcell hO hwr
      have HYL := Lib.hid hyl
      generalize wnames p = nm at *
      generalize hxn : (ws.take k).flatMap wnames = xs at *
      have HNM := Lib.hid hnm
      have HO := Lib.hid ho
      have HBW := Lib.hid hbw
      have hms := mapS nm
      generalize hms2 : nm.map Value.string = ys at *
      generalize hml : nm.length = m at *
      generalize hxs2 : xs.map Value.string = zs' at *
      generalize hxl : xs.length = n at *
      have HMS := Lib.hid hms
      have HX1 := Lib.hid hms2
      have HX2 := Lib.hid hml
      have HX3 := Lib.hid hxs2
      have HX4 := Lib.hid hxl
      clear hnm ho hbw hxn hms hms2 hml hxs2 hxl hyl
      go_wp2_with (first
        | (go_at_call 39; refine (HNM.out _ (below_alloc wr _)).mono ?_; rintro e w3 ⟨o3, rfl, A3, c3, rfl, ho3, hb3⟩
           have hb3' : Below wr.heap.size wr w3 := (below_alloc wr _).trans (hb3.mono (by simp))
           have HO3 := Lib.hid (own_below HO.out hb3')
           have HS3 := Lib.hid (SrcOK.own ho3 HMS.out)
           have hz3 := hb3'.size
           have HB3 := Lib.hid hb3'
           clear ho3 hb3 hb3')
        | (at_builtin; refine wpList_app ElStr (.tmp 13) (.tmp 15) rfl rfl (base := w2.heap.size) (n := n) (m := m) (N := n + m) (v := .slice Ao n so) (src := .slice A3 m c3) (xs := zs') (news := ys) rfl rfl HO3.out HS3.out rfl (by unfold maxLen; omega) (by omega) (by omega) ?_
           intro A9 c9 w9 r1 r2 r3
           have HF := Lib.hid (out_app HBW.out r1 ((Keeps.of_below HB3.out).trans r2))
           clear r1 r2 r3))
      go_roundw
      case rel => exact ⟨k + 1, by omega, by go_num, Lib.hid (by rw [HSN.out, List.length_append, List.map_append, HX1.out, HX2.out, HX3.out, HX4.out]; exact HF.out)⟩
      case measure => simp [intOf]; omega
    · obtain rfl : k = ws.length := by omega
      rw [List.take_length] at hO
      go_wp2
      go_ret
      exact ⟨_, rfl, hO.out.base HBB.out⟩
end Go.Proofs.Ytpjcmhlgdgadjaa
