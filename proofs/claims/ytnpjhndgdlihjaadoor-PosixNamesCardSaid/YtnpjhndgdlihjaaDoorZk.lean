/- A grammar of a text: what the reader's and the builder's giving up turns into; the whole. -/
import Derived.Test.YtnpjhndgdlihjaaDoorZj
import Derived.Test.YtnpjhndgdlihjaaDoorZi
namespace Go.Proofs.YtnpjhndgdlihjaaDoor
open Go.RowKit Go.Maps
set_option linter.unusedVariables false
theorem postS_end2 {P : Program} {fn : Func} {c₀ : Frame} {cs : List Frame} {R : Ending → FrameMode → World → Prop} {tmps : Array Value} {w : World} {u : FrameMode} (hr : fn.results = #[]) (h : R (.returned (.tuple #[])) u w) : bodyPostS P fn c₀ cs R .normal { tmps := tmps, defers := [] } ({ c₀ with mode := u } :: cs) w :=
  ⟨rfl, u, rfl, _, results_none hr _ _ _, h⟩
theorem blk_new2 {W : World} {n : Nat} {t : TypeId} {cs : Array Value} (h : W.heap.size = n) : Blk (W.alloc (.cells cs t)) n t cs := h ▸ Blk.new W t cs
set_option maxRecDepth 100000 in
set_option maxHeartbeats 1600000 in
theorem parse1_ret {w : World} {gb eb : Nat} :
    CallsD Tryd.prog 35 #[.pointer (some ⟨gb, 0, none⟩), .pointer (some ⟨eb, 0, none⟩)] .returning w fun e u' w' => e = .returned (.tuple #[]) ∧ u' = .returning ∧ w' = w := by
  have a2 := eql_nil
  refine callsD_of_wpS Tryd.func35 rfl fun c₀ cs hu => ?_
  simp only [Tryd.ntmps35, List.size_toArray, List.length_cons, List.length_nil, Nat.reduceAdd, Nat.reduceSub, Array.replicate_succ, Array.replicate_zero, List.push_toArray, List.append_toArray, List.nil_append, List.cons_append]
  apply wpS_seq
  apply wpS_region
  simp [wpOpsS, go_sem, recoverD, hu, Exit.thenS]
  refine wpS_of_wp ?_
  have HU := Lib.hid hu
  clear hu
  go_wp2
  exact postS_end rfl HU.out ⟨rfl, rfl, rfl⟩
set_option maxRecDepth 100000 in
set_option maxHeartbeats 1600000 in
theorem parse1_pan {w : World} {gb eb : Nat} {k p : Int} {v : Value} {older : List PanicEntry} {z0 z1 z2 z3 : Value} (hg : Blk w gb 30 #[z0, z1, z2, z3]) (he : Blk w eb 44 #[v]) (hk : k ≠ 0) :
    CallsD Tryd.prog 35 #[.pointer (some ⟨gb, 0, none⟩), .pointer (some ⟨eb, 0, none⟩)] (.panicking ({ v := .iface 78 (.agg #[.int .i64 k, .int .i64 p]), recovered := false } :: older)) w fun e u' w' =>
      e = .returned (.tuple #[]) ∧ u' = .panicking ({ v := .iface 78 (.agg #[.int .i64 k, .int .i64 p]), recovered := true } :: older) ∧ ∃ b, Blk w' b 108 #[.int .i64 k, .int .i64 p] ∧ Blk w' gb 30 ZG ∧ Blk w' eb 44 #[.iface 106 (.pointer (some ⟨b, 0, none⟩))] ∧ Chg (fun i => i = gb ∨ i = eb) w w' := by
  have a0 := assert_wrong
  have a2 := eql_wrong
  have hne : eb ≠ gb := Blk.ne_ he hg (by decide)
  have hgl := hg.lt
  have hel := he.lt
  have c0 := hg.cell 0
  have c1 := hg.cell 1
  have c2 := hg.cell 2
  have c3 := hg.cell 3
  have f0 := hg.frozen 0
  have f1 := hg.frozen 1
  have f2 := hg.frozen 2
  have f3 := hg.frozen 3
  have d0 := he.cell 0
  have df := he.frozen 0
  simp at c0 c1 c2 c3 d0
  have hk0 : (k == 0) = false := by simpa using hk
  have HG := Lib.hid hg
  have HE := Lib.hid he
  have HN := Lib.hid (fnew_at k hk0 p (w.alloc (.cells #[.int .i64 k, .int .i64 p] 78)))
  clear hg he hk hk0
  refine callsD_of_wpS Tryd.func35 rfl fun c₀ cs hu => ?_
  simp only [Tryd.ntmps35, List.size_toArray, List.length_cons, List.length_nil, Nat.reduceAdd, Nat.reduceSub, Array.replicate_succ, Array.replicate_zero, List.push_toArray, List.append_toArray, List.nil_append, List.cons_append]
  apply wpS_seq
  apply wpS_region
  simp [wpOpsS, go_sem, recoverD, hu, Exit.thenS]
  refine wpS_of_wp ?_
  have HU := Lib.hid hu
  clear hu
  go_wp2_with (go_at_call 36; refine HN.out.mono ?_; rintro e w' ⟨rfl, rfl⟩)
  refine postS_end2 rfl ⟨rfl, rfl, w.heap.size + 1, blk_new2 (by simp), ?_, ?_, ?_⟩
  · simpa [ZG] using (((((((HG.out.set_ 0 (.slice none 0 0)).set_ 1 (.slice none 0 0)).set_ 2 (.slice none 0 0)).set_ 3 (.int .i64 0)).far (p := ⟨eb, 0, none⟩) (by simpa using Ne.symm hne) (.iface 106 (.pointer (some ⟨w.heap.size + 1, 0, none⟩)))).alloc (.cells #[.int .i64 k, .int .i64 p] 78)).alloc (.cells #[.int .i64 k, .int .i64 p] 108))
  · simpa using (((((((HE.out.far (p := ⟨gb, 0, none⟩) hne (.slice none 0 0)).far (p := ⟨gb, 1, none⟩) hne (.slice none 0 0)).far (p := ⟨gb, 2, none⟩) hne (.slice none 0 0)).far (p := ⟨gb, 3, none⟩) hne (.int .i64 0)).set_ 0 (.iface 106 (.pointer (some ⟨w.heap.size + 1, 0, none⟩)))).alloc (.cells #[.int .i64 k, .int .i64 p] 78)).alloc (.cells #[.int .i64 k, .int .i64 p] 108))
  · exact (((((((Chg.refl (fun i => i = gb ∨ i = eb) w).set (p := ⟨gb, 0, none⟩) (.inr (.inl rfl)) _).set (p := ⟨gb, 1, none⟩) (.inr (.inl rfl)) _).set (p := ⟨gb, 2, none⟩) (.inr (.inl rfl)) _).set (p := ⟨gb, 3, none⟩) (.inr (.inl rfl)) _).set (p := ⟨eb, 0, none⟩) (.inr (.inr rfl)) _).alloc _).alloc _
/-- The row of tokens, as it lies. -/
theorem lies_own {w : World} {B : Nat} {v : Value} {l : List Tk} (h : w.ownsRow B 60 3 v l.length (l.flatMap Tk.cells)) (hl : 0 < l.length) : Lies w v l := by
  rcases h.2 with ⟨_, h0⟩ | ⟨g, cap, cur, rfl, h1, h2, h3, h4, h5, h6⟩
  · omega
  · refine ⟨g, 0, cap, cur, rfl, ⟨h2, ⟨h3, h4⟩, fun k t ht => ?_⟩⟩
    obtain ⟨hk, hx⟩ := List.getElem?_eq_some_iff.1 ht
    have hg : ∀ j, j < 3 → cur[0 + k * 3 + j]? = (Tk.cells t)[j]? := fun j hj => by
      have e := fm_get Tk.cells 3 Tk.cells_len l k j hk hj
      rw [hx] at e
      rw [← e, ← h6, List.getElem?_take, if_pos (by omega), Nat.zero_add]
      simp
    have e0 := hg 0 (by omega)
    rw [Nat.add_zero] at e0
    exact ⟨e0, hg 1 (by omega), hg 2 (by omega)⟩
/-- What a text comes to. -/
def PEnd (w : World) (r : Except Flt PG) (e : Ending) (w' : World) : Prop :=
  Below w.heap.size w w' ∧ match r with
  | .ok g => ∃ tv nv Rv R, e = .returned (.tuple #[.agg #[tv, nv, Rv, .int .i64 g.s], .nilIface]) ∧ Has w w' tv nv Rv g R
  | .error f => ∃ v, e = .returned (.tuple #[.agg #[.slice none 0 0, .slice none 0 0, .slice none 0 0, .int .i64 0], v]) ∧ ErrAt w' v f
theorem Has.mono {w w0 w' : World} {tv nv Rv : Value} {g : PG} {R : List RuG} (h : Has w0 w' tv nv Rv g R) (hb : w.heap.size ≤ w0.heap.size) : Has w w' tv nv Rv g R :=
  ⟨own_mono h.ft hb, own_mono h.fn hb, own_mono h.fR hb, fun q hq => own_mono (h.rights q hq) hb, h.r⟩
theorem Has.chg {X : Nat → Prop} {w w0 w' : World} {tv nv Rv : Value} {g : PG} {R : List RuG} (h : Has w0 w tv nv Rv g R) (hc : Chg X w w') (hx : ∀ k, w0.heap.size ≤ k → ¬ X k) : Has w0 w' tv nv Rv g R :=
  ⟨hc.own h.ft (fun k hk => hx k (own_ge h.ft k hk).1), hc.own h.fn (fun k hk => hx k (own_ge h.fn k hk).1), hc.own h.fR (fun k hk => hx k (own_ge h.fR k hk).1), fun q hq => hc.own (h.rights q hq) (fun k hk => hx k (own_ge (h.rights q hq) k hk).1), h.r⟩
theorem neq_err (v : Value) (w : World) : (binOp .neq 44 (.iface 106 v) .nilIface).run Tryd.prog w = .ok (.bool true) w := by kernel_rfl
theorem neq_err_nil (w : World) : (binOp .neq 44 .nilIface .nilIface).run Tryd.prog w = .ok (.bool false) w := by kernel_rfl
theorem make_map (w : World) : (Instr.makeMap 81 none).run Tryd.prog w = .ok (.map (some w.heap.size)) (w.alloc (.map #[] 0)) := by kernel_rfl
theorem drop_goexit {older : List PanicEntry} (h : (older.all fun p => !p.goexit) = true) : older.dropWhile (fun x => !x.goexit) = [] := by
  induction older with
  | nil => rfl
  | cons a r ih =>
    simp only [List.all_cons, Bool.and_eq_true] at h
    rw [List.dropWhile_cons, if_pos h.1, ih h.2]
set_option maxRecDepth 100000 in
set_option maxHeartbeats 3200000 in
theorem parse_any (s : ByteArray) (hs : s.size ≤ 4611686018427387904) (w : World) (hm : HasMax w) : Calls Tryd.prog 22 #[.string s] w (PEnd w (parseL s.data.toList)) := by
  have hmf : ∀ (fn : Fn) (first cap : Array Value) (w : World), (Instr.makeFunc fn first cap).run Tryd.prog w = .ok (.func fn first cap) w := fun _ _ _ _ => rfl
  have n1 := neq_err
  have n2 := neq_err_nil
  have hmk := make_map
  have hbA : Below w.heap.size w ((w.alloc (.cells ZG 30)).alloc (.cells #[.nilIface] 44)) := (below_alloc w _).alloc (by simp) _
  have HALL := Lib.hid (all_any s hs ((w.alloc (.cells ZG 30)).alloc (.cells #[.nilIface] 44)) (hm.later hbA))
  have HGA : Hid (Blk ((w.alloc (.cells ZG 30)).alloc (.cells #[.nilIface] 44)) w.heap.size 30 ZG) := Lib.hid ((Blk.new w 30 ZG).alloc _)
  have HEA : Hid (Blk ((w.alloc (.cells ZG 30)).alloc (.cells #[.nilIface] 44)) (w.heap.size + 1) 44 #[.nilIface]) := Lib.hid (blk_new2 (by simp))
  have HBA := Lib.hid hbA
  have hwA : w.heap.size + 1 < ((w.alloc (.cells ZG 30)).alloc (.cells #[.nilIface] 44)).heap.size := by simp
  clear hbA hm
  cases ht : tokens s.data.toList with
  | error f =>
    have HE : Hid (parseL s.data.toList = .error f) := Lib.hid (by unfold parseL; rw [ht])
    rw [ht] at HALL
    clear ht
    go_enter_defers Tryd.func22, Tryd.ntmps22
    go_wp2_with (go_at_call 34; refine HALL.out.mono ?_; intro e w1 hx; obtain ⟨hb1, v, rfl, b, rfl, hbk⟩ := hx
                 have HG1 := Lib.hid (HGA.out.below hb1 HGA.out.lt)
                 have HE1 := Lib.hid (HEA.out.below hb1 HEA.out.lt)
                 have HF1 := Lib.hid hbk
                 have HB1 := Lib.hid (HBA.out.trans (hb1.mono HBA.out.size))
                 have d0 := HE1.out.cell 0
                 have df := HE1.out.frozen 0
                 simp at d0
                 clear hb1 hbk)
    generalize hgb : w.heap.size = gb at *
    generalize heb : gb + 1 = eb at *
    have hne : eb ≠ gb := by omega
    have HG2 := Lib.hid (HG1.out.far (p := ⟨eb, 0, none⟩) (Ne.symm hne) (.iface 106 (.pointer (some ⟨b, 0, none⟩))))
    have HE2 : Hid (Blk (w1.setCell ⟨eb, 0, none⟩ (.iface 106 (.pointer (some ⟨b, 0, none⟩)))) eb 44 #[.iface 106 (.pointer (some ⟨b, 0, none⟩))]) := Lib.hid (by simpa using HE1.out.set_ 0 (.iface 106 (.pointer (some ⟨b, 0, none⟩))))
    have HF2 := Lib.hid (HF1.out.far (p := ⟨eb, 0, none⟩) (Blk.ne_ HF1.out HE1.out (by decide)) (.iface 106 (.pointer (some ⟨b, 0, none⟩))))
    have HC2 := Lib.hid ((Chg.of_below (X := fun _ => False) (a := w) (b := w1) (by rw [hgb]; exact HB1.out)).set (p := ⟨eb, 0, none⟩) (.inl (by show w.heap.size ≤ eb; omega)) (.iface 106 (.pointer (some ⟨b, 0, none⟩))))
    clear d0 df
    generalize w1.setCell ⟨eb, 0, none⟩ (.iface 106 (.pointer (some ⟨b, 0, none⟩))) = w2 at *
    have z0 := HG2.out.cell 0
    have z1 := HG2.out.cell 1
    have z2 := HG2.out.cell 2
    have z3 := HG2.out.cell 3
    have f0 := HG2.out.frozen 0
    have f1 := HG2.out.frozen 1
    have f2 := HG2.out.frozen 2
    have f3 := HG2.out.frozen 3
    have d0 := HE2.out.cell 0
    have df := HE2.out.frozen 0
    simp [ZG] at z0 z1 z2 z3 d0
    go_region
    all_goals go_wp2
    all_goals simp only [bodyPostD, Leaves]
    all_goals refine ⟨.tuple #[.agg #[.slice none 0 0, .slice none 0 0, .slice none 0 0, .int .i64 0], .iface 106 (.pointer (some ⟨b, 0, none⟩))], by simp [results, Tryd.results22, go_sem, z0, z1, z2, z3, d0], ?_⟩
    all_goals rw [HE.out]
    all_goals
      have hbg : b ≠ gb := Blk.ne_ HF2.out HG2.out (by decide)
      have hbe : b ≠ eb := Blk.ne_ HF2.out HE2.out (by decide)
      have hCC := (((((HC2.out.set (p := ⟨gb, 0, none⟩) (.inl (by show w.heap.size ≤ gb; omega)) (.slice none 0 0)).set (p := ⟨gb, 1, none⟩) (.inl (by show w.heap.size ≤ gb; omega)) (.slice none 0 0)).set (p := ⟨gb, 2, none⟩) (.inl (by show w.heap.size ≤ gb; omega)) (.slice none 0 0)).set (p := ⟨gb, 3, none⟩) (.inl (by show w.heap.size ≤ gb; omega)) (.int .i64 0)).set (p := ⟨eb, 0, none⟩) (.inl (by show w.heap.size ≤ eb; omega)) (.iface 106 (.pointer (some ⟨b, 0, none⟩)))).drew
      exact ⟨hCC.below (Nat.le_refl _) (fun _ _ => id), _, rfl, b, rfl, (((((HF2.out.far (p := ⟨gb, 0, none⟩) hbg _).far (p := ⟨gb, 1, none⟩) hbg _).far (p := ⟨gb, 2, none⟩) hbg _).far (p := ⟨gb, 3, none⟩) hbg _).far (p := ⟨eb, 0, none⟩) hbe _).drew⟩
  | ok ts =>
    have HTQ := Lib.hid (tokens_q ht)
    have HE1 : Hid (∀ r, formL ts = r → parseL s.data.toList = match r with | .error f => .error f | .ok x => buildL x) := Lib.hid (fun r hr => by unfold parseL; rw [ht]; simp only; rw [hr]; cases r <;> rfl)
    rw [ht] at HALL
    clear ht
    go_enter_defers Tryd.func22, Tryd.ntmps22
    go_wp2_with (go_at_call 34; refine HALL.out.mono ?_; intro e w1 hx; obtain ⟨hb1, v, rfl, hrow⟩ := hx
                 have HG1 := Lib.hid (HGA.out.below hb1 HGA.out.lt)
                 have HEE := Lib.hid (HEA.out.below hb1 HEA.out.lt)
                 have HB1 := Lib.hid (HBA.out.trans (hb1.mono HBA.out.size))
                 have HROW := Lib.hid hrow
                 obtain ⟨A, c, hv⟩ := own_shape hrow
                 subst hv
                 have d0 := HEE.out.cell 0
                 have df := HEE.out.frozen 0
                 have hel := HEE.out.lt
                 simp at d0
                 clear hb1 hrow)
    -- where the reader begins
    generalize hgb : w.heap.size = gb at *
    generalize heb : gb + 1 = eb at *
    have hne : eb ≠ gb := by omega
    have HG2 := Lib.hid (HG1.out.far (p := ⟨eb, 0, none⟩) (Ne.symm hne) .nilIface)
    have HE2 : Hid (Blk (w1.setCell ⟨eb, 0, none⟩ .nilIface) eb 44 #[.nilIface]) := Lib.hid (by simpa using HEE.out.set_ 0 .nilIface)
    have HC2 := Lib.hid ((Chg.of_below (X := fun _ => False) (a := w) (b := w1) (by rw [hgb]; exact HB1.out)).set (p := ⟨eb, 0, none⟩) (.inl (by show w.heap.size ≤ eb; omega)) .nilIface)
    have HR2 := Lib.hid (own_far HROW.out (p := ⟨eb, 0, none⟩) (row_blk HROW.out HEE.out (by decide)) .nilIface)
    have hs2 : (w1.setCell ⟨eb, 0, none⟩ .nilIface).heap.size = w1.heap.size := by simp
    clear d0 df hel
    generalize w1.setCell ⟨eb, 0, none⟩ .nilIface = w2 at *
    rw [← hs2]
    clear hs2
    have hts : 0 < ts.length := by obtain ⟨t, r, h⟩ := HTQ.out.ended.cons; rw [h]; simp
    have hro := own_ge HR2.out
    have hgl2 := HG2.out.lt
    have hel2 := HE2.out.lt
    have hwA2 : gb ≤ ((w.alloc (.cells ZG 30)).alloc (.cells #[.nilIface] 44)).heap.size := by simp; omega
    have HFO := Lib.hid (form_any (w := (w2.alloc (.map #[] 0)).alloc (.cells #[.slice A ts.length c, .slice none 0 0, .slice none 0 0, .slice none 0 0, .slice none 0 0, .map (some w2.heap.size)] 84)) (B := w2.heap.size + 1 + 1) (rb := w2.heap.size + 1) (mb := w2.heap.size) (tb := (Value.slice A ts.length c).ownBlock) (l := ts)
      ⟨⟨⟨_, blk_new2 (by simp), lies_own (((Chg.refl (fun _ => False) w2).alloc _ |>.alloc _).own HR2.out (fun _ _ => id)) hts, rfl⟩, HTQ.out.ended, fun e => by have := (hro _ e).2; omega⟩, World.ownsRow_nil _ _ _ _, World.ownsRow_nil _ _ _ _, World.ownsRow_nil _ _ _ _, (fun g hg => by cases hg), by omega, (fun g hg => by have := (hro g hg).2; omega), by simp, by simpa using HTQ.out.len, by simpa using HTQ.out.len, by simpa using HTQ.out.len⟩
      (World.ownsMap.alloc (World.ownsMap_made w2 Tryd.prog 9 (plainElem Tryd.prog 3)) _) (by omega) (by omega) (fun u hu => (HTQ.out.all u hu).1))
    have HG3 := Lib.hid ((HG2.out.alloc (.map #[] 0)).alloc (.cells #[.slice A ts.length c, .slice none 0 0, .slice none 0 0, .slice none 0 0, .slice none 0 0, .map (some w2.heap.size)] 84))
    have HE3 := Lib.hid ((HE2.out.alloc (.map #[] 0)).alloc (.cells #[.slice A ts.length c, .slice none 0 0, .slice none 0 0, .slice none 0 0, .slice none 0 0, .map (some w2.heap.size)] 84))
    have HC3 := Lib.hid ((HC2.out.alloc (.map #[] 0)).alloc (.cells #[.slice A ts.length c, .slice none 0 0, .slice none 0 0, .slice none 0 0, .slice none 0 0, .map (some w2.heap.size)] 84))
    have hw22 : w.heap.size ≤ w2.heap.size := HC2.out.size
    clear hro hwA2
    generalize (w2.alloc (.map #[] 0)).alloc (.cells #[.slice A ts.length c, .slice none 0 0, .slice none 0 0, .slice none 0 0, .slice none 0 0, .map (some w2.heap.size)] 84) = w3 at *
    generalize w2.heap.size = mb at *
    have HFQ := Lib.hid (form_q HTQ.out)
    refine HFO.out.mono ?_
    intro e w4 hx
    obtain ⟨hc4, hx⟩ := hx
    have HG4 := Lib.hid (hc4.blk HG3.out (by omega))
    have HE4 := Lib.hid (hc4.blk HE3.out (by omega))
    have HC4 : Hid (Chg (fun _ => False) w w4) := Lib.hid (HC3.out.trans hc4 (fun i hi h => by omega))
    clear hc4
    cases hf : formL ts with
    | error f =>
      have HE := Lib.hid (HE1.out _ hf)
      have hnz := HFQ.out
      rw [hf] at hnz hx
      have hnz : ((f.1 : Nat) : Int) ≠ 0 := by have : f.1 ≠ 0 := hnz; omega
      have hx : e = _ := hx
      subst hx
      simp only [bodyPostD]
      refine leaves_cons (f := 35) (args := #[.pointer (some ⟨gb, 0, none⟩), .pointer (some ⟨eb, 0, none⟩)]) (by simp) (by simp [go_sem]) ?_
      refine (parse1_pan (show Blk w4 gb 30 #[.slice none 0 0, .slice none 0 0, .slice none 0 0, .int .i64 0] from HG4.out) HE4.out hnz).mono ?_
      rintro e u' w7 ⟨rfl, rfl, b, y1, y2, y3, y4⟩
      simp only [settle, List.dropWhile_nil, Leaves]
      have z0 := y2.cell 0
      have z1 := y2.cell 1
      have z2 := y2.cell 2
      have z3 := y2.cell 3
      have d0 := y3.cell 0
      simp [ZG] at z0 z1 z2 z3 d0
      refine ⟨.tuple #[.agg #[.slice none 0 0, .slice none 0 0, .slice none 0 0, .int .i64 0], .iface 106 (.pointer (some ⟨b, 0, none⟩))], by simp [results, Tryd.results22, go_sem, z0, z1, z2, z3, d0], ?_⟩
      rw [HE.out]
      exact ⟨(HC4.out.trans y4 (fun i hi h => by omega)).below (Nat.le_refl _) (fun _ _ => id), _, rfl, b, rfl, y1⟩
    | ok x =>
      have HEB := Lib.hid (HE1.out _ hf)
      have hq := HFQ.out
      rw [hf] at hq hx
      obtain ⟨rfl, l', dv, kv, sv, rv, rs, D, hrs, hrul⟩ := hx
      obtain ⟨hxq, hrq⟩ := hq
      have HRU := Lib.hid hrul
      have HXQ := Lib.hid hxq
      have HRS := Lib.hid hrs
      have HSR : Hid (∀ r ∈ rs, r.left.s.length ≤ 8192 ∧ ∀ q ∈ r.ss, (∀ t ∈ q.s.l, t.s.length ≤ 8192) ∧ q.s.l.length ≤ 100000) := Lib.hid (fun r hr => by
        obtain ⟨h1, h2⟩ := hrq r.r (by rw [← hrs]; exact List.mem_map_of_mem hr)
        refine ⟨h1.1, fun q hq => ?_⟩
        have h3 := h2 q.s (List.mem_map_of_mem hq)
        exact ⟨fun t ht => (h3.1 t ht).1, h3.2⟩)
      clear hf hxq hrs hrul hrq HFQ HFO HG3 HE3
      go_wp2_with fail
      have hBA : BAt w4 (((w4.alloc (.map #[] 0)).alloc (.map #[] 0)).alloc (.cells #[.pointer (some ⟨mb + 1, 0, none⟩), .map (some w4.heap.size), .map (some (w4.heap.size + 1)), .slice none 0 0, .slice none 0 0, .slice none 0 0, .int .i64 0, .slice none 0 0] 88)) (w4.heap.size + 1 + 1) w4.heap.size (w4.heap.size + 1) (mb + 1) (.slice none 0 0) (.slice none 0 0) (.slice none 0 0) ⟨[], [], []⟩ [] (.map []) (.map []) := by
        refine ⟨((((Chg.refl (fun _ => False) w4).alloc _).alloc _).alloc _).below (Nat.le_refl _) (fun _ _ => id), blk_new2 (by simp), World.ownsRow_nil _ _ _ _, World.ownsRow_nil _ _ _ _, World.ownsRow_nil _ _ _ _, rfl, (by simp), (fun k hk => by cases hk), (by simp), (by simp), World.ownsMap.alloc (World.ownsMap.alloc (World.ownsMap_made w4 Tryd.prog 9 (plainElem Tryd.prog 3)) _) _, ?_, Places.start, Places.start, ⟨by omega, Nat.le_refl _, by omega⟩, by omega, by simp, by simp, by simp⟩
        have h := World.ownsMap_made (H := Unit) (w4.alloc (.map #[] 0)) Tryd.prog 9 (plainElem Tryd.prog 3)
        rw [World.size_alloc] at h
        exact h.alloc _
      have HBU := Lib.hid (build_any hBA HRU.out HRS.out HXQ.out.same (fun t ht => (HXQ.out.decl t ht).1) (fun t ht => (HXQ.out.starts t ht).1) (second_q HXQ.out) HSR.out)
      clear hBA
      refine HBU.out.mono ?_
      intro e w6 hx
      obtain ⟨hb6, hx⟩ := hx
      have HG6 := Lib.hid (HG4.out.below hb6 HG4.out.lt)
      have HE6 := Lib.hid (HE4.out.below hb6 HE4.out.lt)
      have HC6 : Hid (Chg (fun _ => False) w w6) := Lib.hid (HC4.out.next (.of_below hb6))
      have hw46 := hb6.size
      have hw4 := HC4.out.size
      have hg6 := HG6.out.lt
      have he6 := HE6.out.lt
      have hge4 : gb < w4.heap.size ∧ eb < w4.heap.size := ⟨HG4.out.lt, HE4.out.lt⟩
      clear hb6
      cases hbl : buildL x with
      | error f =>
        have HE : Hid (parseL s.data.toList = .error f) := Lib.hid (by rw [HEB.out, ← hbl])
        have hnz : ((f.1 : Nat) : Int) ≠ 0 := by have : f.1 ≠ 0 := build_e hbl; omega
        rw [hbl] at hx
        obtain ⟨older, hol, rfl⟩ := hx
        simp only [bodyPostD]
        refine leaves_cons (f := 35) (args := #[.pointer (some ⟨gb, 0, none⟩), .pointer (some ⟨eb, 0, none⟩)]) (by simp) (by simp [go_sem]) ?_
        refine (parse1_pan (show Blk w6 gb 30 #[.slice none 0 0, .slice none 0 0, .slice none 0 0, .int .i64 0] from HG6.out) HE6.out hnz).mono ?_
        rintro e u' w7 ⟨rfl, rfl, b, y1, y2, y3, y4⟩
        simp only [settle, drop_goexit hol, Leaves]
        have z0 := y2.cell 0
        have z1 := y2.cell 1
        have z2 := y2.cell 2
        have z3 := y2.cell 3
        have d0 := y3.cell 0
        simp [ZG] at z0 z1 z2 z3 d0
        refine ⟨.tuple #[.agg #[.slice none 0 0, .slice none 0 0, .slice none 0 0, .int .i64 0], .iface 106 (.pointer (some ⟨b, 0, none⟩))], by simp [results, Tryd.results22, go_sem, z0, z1, z2, z3, d0], ?_⟩
        rw [HE.out]
        exact ⟨(HC6.out.trans y4 (fun i hi h => by omega)).below (Nat.le_refl _) (fun _ _ => id), _, rfl, b, rfl, y1⟩
      | ok g =>
        have HE : Hid (parseL s.data.toList = .ok g) := Lib.hid (by rw [HEB.out, ← hbl])
        rw [hbl] at hx
        obtain ⟨tv, nv, Rv, R, rfl, hhas⟩ := hx
        have HH := Lib.hid hhas
        obtain ⟨A1, c1, rfl⟩ := own_shape hhas.ft
        obtain ⟨A2, c2, rfl⟩ := own_shape hhas.fn
        obtain ⟨A3, c3, rfl⟩ := own_shape hhas.fR
        have z0 := HG6.out.cell 0
        have z1 := HG6.out.cell 1
        have z2 := HG6.out.cell 2
        have z3 := HG6.out.cell 3
        have f0 := HG6.out.frozen 0
        have f1 := HG6.out.frozen 1
        have f2 := HG6.out.frozen 2
        have f3 := HG6.out.frozen 3
        have d0 := HE6.out.cell 0
        have df := HE6.out.frozen 0
        simp [ZG] at z0 z1 z2 z3 d0
        clear hbl hhas
        go_wp2
        have hcc : Chg (fun i => i = gb ∨ i = eb) w6 (((((w6.setCell ⟨gb, 0, none⟩ (.slice A1 g.T.length c1)).setCell ⟨gb, 1, none⟩ (.slice A2 g.N.length c2)).setCell ⟨gb, 2, none⟩ (.slice A3 R.length c3)).setCell ⟨gb, 3, none⟩ (.int .i64 g.s)).setCell ⟨eb, 0, none⟩ .nilIface) :=
          (((((Chg.refl (fun i => i = gb ∨ i = eb) w6).set (p := ⟨gb, 0, none⟩) (.inr (.inl rfl)) _).set (p := ⟨gb, 1, none⟩) (.inr (.inl rfl)) _).set (p := ⟨gb, 2, none⟩) (.inr (.inl rfl)) _).set (p := ⟨gb, 3, none⟩) (.inr (.inl rfl)) _).set (p := ⟨eb, 0, none⟩) (.inr (.inr rfl)) _
        simp only [bodyPostD]
        refine leaves_cons (f := 35) (args := #[.pointer (some ⟨gb, 0, none⟩), .pointer (some ⟨eb, 0, none⟩)]) (by simp) (by simp [go_sem]) ?_
        refine parse1_ret.mono ?_
        rintro e u' w7 ⟨rfl, rfl, rfl⟩
        simp only [settle, Leaves]
        refine ⟨.tuple #[.agg #[.slice A1 g.T.length c1, .slice A2 g.N.length c2, .slice A3 R.length c3, .int .i64 g.s], .nilIface], by simp [results, Tryd.results22, go_sem, z0, z1, z2, z3, d0], ?_⟩
        rw [HE.out]
        exact ⟨(HC6.out.trans hcc (fun i hi h => by omega)).below (Nat.le_refl _) (fun _ _ => id), _, _, _, R, rfl, (HH.out.chg hcc (fun k hk h => by omega)).mono hw4⟩
end Go.Proofs.YtnpjhndgdlihjaaDoor
