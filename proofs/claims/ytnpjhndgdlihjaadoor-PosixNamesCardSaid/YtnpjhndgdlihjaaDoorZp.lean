/- The document's declared terminals, its start, the first fault: where the text is right. The document's start, the first fault: where the text is right. A grammar that is being named, as it lies: rows of names, each in a block of its own. Two lists of names: the same, or not; what a side comes to. -/
import Derived.Test.YtnpjhndgdlihjaaDoorZo
import Derived.Deep.RegionHeld3
import Derived.Test.YtnpjhndgdlihjaaDoorZh
import Derived.Deep.QuietTactic
namespace Go.Proofs.YtnpjhndgdlihjaaDoor
open Go.RowKit
set_option linter.unusedVariables false
theorem decl_split {T T1 : List Nme} {l : List Tk} {k : Nat} {t : Tk} (h : declF T (l.drop k) = some T1) (ht : l[k]? = some t) : T.contains t.s = false ∧ T.length < 120 ∧ declF (T ++ [t.s]) (l.drop (k + 1)) = some T1 := by
  rw [drop_cons ht] at h
  unfold declF at h
  by_cases h1 : T.contains t.s = true
  · rw [if_pos h1] at h; cases h
  · rw [if_neg h1] at h
    by_cases h2 : 120 ≤ T.length
    · rw [if_pos h2] at h; cases h
    · rw [if_neg h2] at h
      exact ⟨by simpa using h1, by omega, h⟩
/-- Behind the declarations. -/
def DeclDEnd (w : World) (gb : Nat) (T : List Nme) (e : Ending) (w' : World) : Prop :=
  ∃ Tv, e = .returned (.agg #[.int .i64 0, .int .i64 0]) ∧ Blk w' gb 30 #[Tv, .slice none 0 0, .slice none 0 0, .int .i64 0] ∧ w'.ownsRow w.heap.size 9 1 Tv T.length (T.map Nv) ∧ Chg (· = gb) w w' ∧ T.length ≤ 100000
set_option maxRecDepth 100000 in
set_option maxHeartbeats 3200000 in
theorem declareD_any {w0 w : World} {gb : Nat} {dv kv sv rv : Value} {x : Txt} {T : List Nme} (h : TxR w0 dv kv sv rv x) (hb : Below w0.heap.size w0 w) (hg : w0.heap.size ≤ gb) (hgb : Blk w gb 30 #[.slice none 0 0, .slice none 0 0, .slice none 0 0, .int .i64 0]) (hd : declF [] x.decl = some T) :
    Calls Tryd.prog 43 #[.agg #[dv, kv, sv, rv], .pointer (some ⟨gb, 0, none⟩)] w (DeclDEnd w gb T) := by
  obtain ⟨ml, m1, m2⟩ := h.marks
  have hdc := h.decl
  obtain ⟨⟨A1, c1, rfl, hc⟩, hs⟩ := hdc
  obtain ⟨⟨A2, c2, rfl, -⟩, -⟩ := m2
  obtain ⟨⟨A3, c3, rfl, -⟩, -⟩ := h.starts
  obtain ⟨⟨A4, c4, rfl, -⟩, -⟩ := h.rules
  have HC := Lib.hid (fun (y : World) (hy : Below w0.heap.size w0 y) (k : Nat) (t : Tk) (hk : x.decl[k]? = some t) => (by
    obtain ⟨b, off, hA, hlt, -, k1, -⟩ := hc k t hk
    exact ⟨b, off, hA, hlt, ((Chg.of_below (X := fun _ => False) hy).cell hlt id).trans k1⟩ : ∃ b off, A1 = some ⟨b, off, none⟩ ∧ b < w0.heap.size ∧ y.cell? ⟨b, off + k * 3 + 1, none⟩ = some (.string (str t.s))))
  have hgl := hgb.lt
  have HK0 : Hid (Blk ((w.alloc (.cells #[.slice A1 x.decl.length c1, .slice A2 ml.length c2, .slice A3 x.starts.length c3, .slice A4 x.rules.length c4] 52)).alloc (.cells #[.int .i64 0, .int .i64 0] 34)) w.heap.size 52 #[.slice A1 x.decl.length c1, .slice A2 ml.length c2, .slice A3 x.starts.length c3, .slice A4 x.rules.length c4]) := Lib.hid ((Blk.new w 52 _).alloc _)
  have HK1 : Hid (Blk ((w.alloc (.cells #[.slice A1 x.decl.length c1, .slice A2 ml.length c2, .slice A3 x.starts.length c3, .slice A4 x.rules.length c4] 52)).alloc (.cells #[.int .i64 0, .int .i64 0] 34)) (w.heap.size + 1) 34 #[.int .i64 0, .int .i64 0]) := Lib.hid (by
    have h1 := Blk.new (w.alloc (.cells #[.slice A1 x.decl.length c1, .slice A2 ml.length c2, .slice A3 x.starts.length c3, .slice A4 x.rules.length c4] 52)) 34 #[.int .i64 0, .int .i64 0]
    rwa [World.size_alloc] at h1)
  have HG0 : Hid (Blk ((w.alloc (.cells #[.slice A1 x.decl.length c1, .slice A2 ml.length c2, .slice A3 x.starts.length c3, .slice A4 x.rules.length c4] 52)).alloc (.cells #[.int .i64 0, .int .i64 0] 34)) gb 30 #[.slice none 0 0, .slice none 0 0, .slice none 0 0, .int .i64 0]) := Lib.hid ((hgb.alloc _).alloc _)
  have HSZ : Hid (((w.alloc (.cells #[.slice A1 x.decl.length c1, .slice A2 ml.length c2, .slice A3 x.starts.length c3, .slice A4 x.rules.length c4] 52)).alloc (.cells #[.int .i64 0, .int .i64 0] 34)).heap.size = w.heap.size + 2) := Lib.hid (by simp)
  have HCW := Lib.hid (((Chg.refl (· = gb) w).alloc (.cells #[.slice A1 x.decl.length c1, .slice A2 ml.length c2, .slice A3 x.starts.length c3, .slice A4 x.rules.length c4] 52)).alloc (.cells #[.int .i64 0, .int .i64 0] 34))
  have hbs := hb.size
  have HBB := Lib.hid (fun y (hy : Chg (· = gb) w y) => (hb.trans (hy.below hbs (fun i hi e => by omega)) : Below w0.heap.size w0 y))
  have HD0 : Hid (declF [] (x.decl.drop 0) = some T) := Lib.hid hd
  clear h hc m1 hb hgb hd
  go_enter Tryd.func43, Tryd.ntmps43
  go_wp2
  generalize (w.alloc (.cells #[.slice A1 x.decl.length c1, .slice A2 ml.length c2, .slice A3 x.starts.length c3, .slice A4 x.rules.length c4] 52)).alloc (.cells #[.int .i64 0, .int .i64 0] 34) = W at *
  go_loopw [5] (fun i wr => ∃ (k : Nat) (T' : List Nme) (Tv : Value), i = .int .i64 k ∧ k ≤ x.decl.length ∧ Hid (T'.length ≤ k) ∧ Hid (declF T' (x.decl.drop k) = some T) ∧ Hid (Blk wr gb 30 #[Tv, .slice none 0 0, .slice none 0 0, .int .i64 0]) ∧ Hid (wr.ownsRow (w.heap.size + 2) 9 1 Tv T'.length (T'.map Nv)) ∧ Hid (Chg (· = gb) W wr)) (fun i _ => x.decl.length - (intOf i).toNat)
  case atStart => exact ⟨0, [], _, rfl, Nat.zero_le _, Lib.hid (Nat.le_refl _), HD0, HG0, Lib.hid (World.ownsRow_nil _ _ _ _), Lib.hid (Chg.refl _ _)⟩
  case round =>
    obtain ⟨k, T', Tv, rfl, hk, HT, HD, HG, HOW, HCH⟩ := hrel
    have hkb := HCH.out.blk HK0.out (by omega)
    obtain ⟨z0, z1, z2, z3⟩ := blk4 hkb
    have hwr : w.heap.size + 2 ≤ wr.heap.size := by have := HCH.out.size; rw [HSZ.out] at this; exact this
    have hT : T'.length ≤ 100000 := by have := HT.out; omega
    clear hkb
    by_cases hlt : k < x.decl.length
    · obtain ⟨t, ht⟩ : ∃ t, x.decl[k]? = some t := ⟨_, List.getElem?_eq_getElem hlt⟩
      obtain ⟨b, off, hA, hbl, hcell⟩ := HC.out wr (HBB.out _ (HCW.out.next HCH.out)) k t ht
      subst hA
      obtain ⟨d1, d2, d3⟩ := decl_split HD.out ht
      have HD3 := Lib.hid d3
      have HD1 := Lib.hid d1
      obtain ⟨Aw, cw, hTv⟩ := own_shape HOW.out
      subst hTv
      have HOD : Hid (wr.drew.ownsRow (w.heap.size + 2) 9 1 (.slice Aw T'.length cw) T'.length (T'.map Nv)) := Lib.hid (((Chg.refl (fun _ => False) wr).drew).own HOW.out (fun _ _ => id))
      have HPL := Lib.hid (rplace_any (arr_nv HOD.out hT) (str t.s))
      rw [place_nat, HD1.out, if_neg (by simp)] at HPL
      obtain ⟨g0, g1, g2, g3⟩ := blk4 HG.out
      have y0 := HG.out.frozen 0
      have hbl2 : b < wr.heap.size := by omega
      have hgl2 : gb < wr.heap.size := by omega
      have hwl2 : w.heap.size < wr.heap.size := by omega
      have HGD := Lib.hid HG.out.drew
      have q1 : ¬ (120 : Int) ≤ (T'.length : Int) := by omega
      have q1' : (T'.length : Int) < 120 := by omega
      clear d1 d2 d3 ht
      go_wp2
      go_region_law (go_simp; go_at_call 45; refine HPL.out.mono ?_; rintro e w' ⟨rfl, rfl⟩)
      all_goals go_wp2
      all_goals (
        have HGD2 := Lib.hid HGD.out.drew
        have HOD2 : Hid (wr.drew.drew.ownsRow (w.heap.size + 2) 9 1 (.slice Aw T'.length cw) T'.length (T'.map Nv)) := Lib.hid (((Chg.refl (fun _ => False) wr.drew).drew).own HOD.out (fun _ _ => id))
        go_region_law (first
          | (refine step_app ElStr (.tmp 49) (.tmp 56) ?_ ?_ (base := w.heap.size + 2) (n := T'.length) (m := 1) (N := T'.length + 1) (v := .slice Aw T'.length cw) (src := .slice (some ⟨wr.heap.size, 0, none⟩) 1 1) (xs := T'.map Nv) (news := [.string (str t.s)]) ?_ ?_ ?_ ?_ ?_ ?_ ?_ ?_ ?_
             · rfl
             · rfl
             · rfl
             · rfl
             · exact HOD2.out.alloc _
             · exact src_str wr.drew.drew _
             · rfl
             · unfold maxLen; omega
             · omega
             · simp; omega
             intro A5 c5 w5 r1 r2 r3
             have r3' : Grew wr.drew.drew (.cells #[.string (str t.s)] 9) w5 (.slice Aw T'.length cw) (.slice A5 (T'.length + 1) c5) := r3
             have hbk := r3'.chg.blk HGD2.out (own_blk (t := 9) (cs := #[]) HOD2.out (by omega))
             have HFB := Lib.hid (by simpa using hbk.set_ 0 (.slice A5 (T'.length + 1) c5) : Blk (w5.setCell ⟨gb, 0, none⟩ (.slice A5 (T'.length + 1) c5)) gb 30 #[.slice A5 (T'.length + 1) c5, .slice none 0 0, .slice none 0 0, .int .i64 0])
             have HFO := Lib.hid (own_far2 (xb := gb) (i := 0) (x := .slice A5 (T'.length + 1) c5) r1 (by omega))
             have HFC : Hid (Chg (fun k => k = gb ∨ w.heap.size + 2 ≤ k) wr.drew.drew (w5.setCell ⟨gb, 0, none⟩ (.slice A5 (T'.length + 1) c5))) := Lib.hid ((r3'.chg.mono (fun k hk => .inr (own_ge HOD2.out k hk).1)).set (p := ⟨gb, 0, none⟩) (.inr (.inl rfl)) _)
             obtain ⟨cA, -, -, -⟩ := blk4 hbk
             have vA := hbk.frozen 0
             clear r1 r2 r3 r3' hbk))
        all_goals go_wp2
        all_goals go_roundw
        all_goals first
          | (case measure => simp [intOf]; omega)
          | (case rel =>
              refine ⟨k + 1, T' ++ [t.s], .slice A5 (T'.length + 1) c5, by go_num, by omega, Lib.hid (by have := HT.out; simp; omega), HD3, HFB, Lib.hid ?_, Lib.hid ?_⟩
              · have e2 : (T' ++ [t.s]).length = T'.length + 1 := by simp
                rw [e2, List.map_append]
                exact HFO.out
              · exact HCH.out.drew.drew.trans HFC.out (fun i hi hx => by rcases hx with hx | hx; exact hx; have := HSZ.out; omega))
          | skip)
    · obtain rfl : k = x.decl.length := by omega
      have hE := HD.out
      rw [List.drop_length] at hE
      have hE2 : T' = T := by unfold declF at hE; exact Option.some.inj hE
      subst hE2
      have hf := HCH.out.blk HK1.out (by omega)
      obtain ⟨o0, o1⟩ := blk2 hf
      have v0 := hf.frozen 0
      have v1 := hf.frozen 1
      have HFF := Lib.hid hf
      clear hE hf
      go_wp2
      have hF2 := set2_blk (y0 := .int .i64 0) (y1 := .int .i64 0) HFF.out
      obtain ⟨r0, r1⟩ := blk2 hF2
      have hX : Chg (· = w.heap.size + 1) wr ((wr.setCell ⟨w.heap.size + 1, 0, none⟩ (.int .i64 0)).setCell ⟨w.heap.size + 1, 1, none⟩ (.int .i64 0)) := ((Chg.refl (· = w.heap.size + 1) wr).set (p := ⟨w.heap.size + 1, 0, none⟩) (.inr rfl) _).set (p := ⟨w.heap.size + 1, 1, none⟩) (.inr rfl) _
      refine bodyPost_ret (v := .agg #[.int .i64 0, .int .i64 0]) (by simp [results, Tryd.results43, go_sem, r0, r1]) rfl ?_
      exact ⟨Tv, rfl, hX.blk HG.out (by omega), own_mono (hX.own HOW.out (fun g hg e => by have := (own_ge HOW.out g hg).1; omega)) (by omega), (HCW.out.next HCH.out).trans hX (fun i hi e => by omega), hT⟩
end Go.Proofs.YtnpjhndgdlihjaaDoor

namespace Go.Proofs.YtnpjhndgdlihjaaDoor
open Go.RowKit
set_option linter.unusedVariables false
theorem firstD_any (w : World) : Calls Tryd.prog 42 #[.agg #[.int .i64 0, .int .i64 0], .agg #[.int .i64 0, .int .i64 0]] w fun e w' => e = .returned (.agg #[.int .i64 0, .int .i64 0]) ∧ Below w.heap.size w w' := by
  have hb0 : Below w.heap.size w (((w.alloc (.cells #[.int .i64 0, .int .i64 0] 34)).alloc (.cells #[.int .i64 0, .int .i64 0] 34)).alloc (.cells #[.int .i64 0, .int .i64 0] 34)) := ((below_alloc w _).alloc (by simp) _).alloc (by simp; omega) _
  have HB0 := Lib.hid hb0
  clear hb0
  go_enter Tryd.func42, Tryd.ntmps42
  go_wp2
  refine bodyPost_ret (v := .agg #[.int .i64 0, .int .i64 0]) (by simp [results, Tryd.results42, go_sem]) rfl ?_
  exact ⟨rfl, HB0.out⟩
theorem below_drewD (w : World) : Below w.heap.size w w.drew := ⟨rfl, rfl, rfl, Nat.le_refl _, fun _ _ => rfl⟩
set_option maxRecDepth 100000 in
set_option maxHeartbeats 1600000 in
theorem startsD_any {w : World} {dv kv sv rv : Value} {x : Txt} (h : TxR w dv kv sv rv x) (hst : startF x = true) : Calls Tryd.prog 44 #[.agg #[dv, kv, sv, rv]] w fun e w' => e = .returned (.agg #[.int .i64 0, .int .i64 0]) ∧ Below w.heap.size w w' := by
  obtain ⟨ml, m1, m2⟩ := h.marks
  have HH := Lib.hid h
  have hstr := h.starts
  obtain ⟨⟨A1, c1, rfl, -⟩, -⟩ := h.decl
  obtain ⟨⟨A2, c2, rfl, -⟩, -⟩ := m2
  obtain ⟨⟨A3, c3, rfl, hc⟩, -⟩ := hstr
  obtain ⟨⟨A4, c4, rfl, -⟩, -⟩ := h.rules
  unfold startF at hst
  rw [Bool.and_eq_true, decide_eq_true_eq] at hst
  obtain ⟨hs1, hs2⟩ := hst
  have hml : ml.length ≤ 1 := by omega
  have q9 : ¬ (1 : Int) < (ml.length : Int) := by omega
  have HB0 := Lib.hid ((below_alloc w (.cells #[.slice A1 x.decl.length c1, .slice A2 ml.length c2, .slice A3 x.starts.length c3, .slice A4 x.rules.length c4] 52)).alloc (by simp) (.cells #[.int .i64 0, .int .i64 0] 34))
  have HK0 : Hid (Blk ((w.alloc (.cells #[.slice A1 x.decl.length c1, .slice A2 ml.length c2, .slice A3 x.starts.length c3, .slice A4 x.rules.length c4] 52)).alloc (.cells #[.int .i64 0, .int .i64 0] 34)) w.heap.size 52 #[.slice A1 x.decl.length c1, .slice A2 ml.length c2, .slice A3 x.starts.length c3, .slice A4 x.rules.length c4]) := Lib.hid ((Blk.new w 52 _).alloc _)
  have HK1 : Hid (Blk ((w.alloc (.cells #[.slice A1 x.decl.length c1, .slice A2 ml.length c2, .slice A3 x.starts.length c3, .slice A4 x.rules.length c4] 52)).alloc (.cells #[.int .i64 0, .int .i64 0] 34)) (w.heap.size + 1) 34 #[.int .i64 0, .int .i64 0]) := Lib.hid (by
    have h1 := Blk.new (w.alloc (.cells #[.slice A1 x.decl.length c1, .slice A2 ml.length c2, .slice A3 x.starts.length c3, .slice A4 x.rules.length c4] 52)) 34 #[.int .i64 0, .int .i64 0]
    rwa [World.size_alloc] at h1)
  have HSZ : Hid (((w.alloc (.cells #[.slice A1 x.decl.length c1, .slice A2 ml.length c2, .slice A3 x.starts.length c3, .slice A4 x.rules.length c4] 52)).alloc (.cells #[.int .i64 0, .int .i64 0] 34)).heap.size = w.heap.size + 2) := Lib.hid (by simp)
  have hfin : ∀ y, Below w.heap.size w y → y.heap.size ≥ w.heap.size + 2 → Blk y (w.heap.size + 1) 34 #[.int .i64 0, .int .i64 0] → Below w.heap.size w ((y.setCell ⟨w.heap.size + 1, 0, none⟩ (.int .i64 0)).setCell ⟨w.heap.size + 1, 1, none⟩ (.int .i64 0)) ∧ Blk ((y.setCell ⟨w.heap.size + 1, 0, none⟩ (.int .i64 0)).setCell ⟨w.heap.size + 1, 1, none⟩ (.int .i64 0)) (w.heap.size + 1) 34 #[.int .i64 0, .int .i64 0] := fun y h1 h2 h3 => ⟨(h1.setCell (by simp) _).setCell (by simp) _, set2_blk h3⟩
  have HFIN := Lib.hid hfin
  clear hfin
  have hcs : x.starts.length = 0 ∨ ∃ t, x.starts[0]? = some t ∧ (lefts x).contains t.s = true ∧ 0 < x.starts.length := by
    cases hx : x.starts with
    | nil => exact .inl rfl
    | cons t r => rw [hx] at hs1; exact .inr ⟨t, rfl, hs1, by simp⟩
  clear hs1
  rcases hcs with h0 | ⟨t, ht, hs1, hl⟩
  · have q0 : ¬ (0 : Int) < (x.starts.length : Int) := by omega
    clear h m1 hs2 hc q0
    generalize x.starts.length = ns at *
    subst h0
    go_enter Tryd.func44, Tryd.ntmps44
    go_wp2
    generalize ((w.alloc (.cells #[.slice A1 x.decl.length c1, .slice A2 ml.length c2, .slice A3 0 c3, .slice A4 x.rules.length c4] 52)).alloc (.cells #[.int .i64 0, .int .i64 0] 34)) = W at *
    obtain ⟨z0, z1, z2, z3⟩ := blk4 HK0.out
    obtain ⟨o0, o1⟩ := blk2 HK1.out
    have v0 := HK1.out.frozen 0
    have v1 := HK1.out.frozen 1
    have hwl := HK1.out.lt
    go_region
    all_goals go_wp2
    obtain ⟨f1, f2⟩ := HFIN.out W HB0.out (by show W.heap.size ≥ _; omega) HK1.out
    obtain ⟨r0, r1⟩ := blk2 f2
    refine bodyPost_ret (v := .agg #[.int .i64 0, .int .i64 0]) (by simp [results, Tryd.results44, go_sem, r0, r1]) rfl ?_
    exact ⟨rfl, f1.trans ⟨rfl, rfl, rfl, Nat.le_refl _, fun _ _ => rfl⟩⟩
  · obtain ⟨b, off, hA, hlt, -, k1, -⟩ := hc 0 t ht
    subst hA
    have HS1 := Lib.hid hs1
    have hln : (0 : Int) < (x.starts.length : Int) := by omega
    rw [Nat.zero_mul, Nat.add_zero] at k1
    have HK2 := Lib.hid (fun y (hy : Below w.heap.size w y) => ((Chg.of_below (X := fun _ => False) hy).cell hlt id).trans k1)
    clear h m1 hs1 hs2 hc k1 ht
    generalize x.starts.length = ns at *
    go_enter Tryd.func44, Tryd.ntmps44
    go_wp2
    generalize ((w.alloc (.cells #[.slice A1 x.decl.length c1, .slice A2 ml.length c2, .slice (some ⟨b, off, none⟩) ns c3, .slice A4 x.rules.length c4] 52)).alloc (.cells #[.int .i64 0, .int .i64 0] 34)) = W at *
    obtain ⟨z0, z1, z2, z3⟩ := blk4 HK0.out
    have hwl := HK1.out.lt
    have k1 := HK2.out W HB0.out
    have HBD : Hid (Below w.heap.size w W.drew) := Lib.hid (HB0.out.trans ((below_drewD W).mono HB0.out.size))
    have HLF := Lib.hid (lefts_any (HH.out.later HBD.out))
    have hbl : b < W.heap.size := by have := HSZ.out; omega
    have HSIX : Hid (∀ y, Below W.heap.size W y → y.cell? ⟨w.heap.size, 0, none⟩ = some (.slice A1 x.decl.length c1) ∧ y.cell? ⟨w.heap.size, 1, none⟩ = some (.slice A2 ml.length c2) ∧ y.cell? ⟨w.heap.size, 2, none⟩ = some (.slice (some ⟨b, off, none⟩) ns c3) ∧ y.cell? ⟨w.heap.size, 3, none⟩ = some (.slice A4 x.rules.length c4) ∧ y.cell? ⟨b, off + 1, none⟩ = some (.string (str t.s))) := Lib.hid (fun y hy => by
      obtain ⟨y0, y1, y2, y3⟩ := blk4 (HK0.out.below hy (by omega))
      exact ⟨y0, y1, y2, y3, HK2.out y (HB0.out.trans (hy.mono HB0.out.size))⟩)
    obtain ⟨p, hp⟩ : ∃ p : Nat, p = (lefts x).findIdx (· == t.s) := ⟨_, rfl⟩
    have HPP := Lib.hid hp
    have q2 : ¬ (p : Int) < 0 := by omega
    clear z0 z1 z2 z3 k1 hp
    go_region_held3 (fun w' => w'.cell? ⟨w.heap.size, 0, none⟩ = some (.slice A1 x.decl.length c1) ∧ w'.cell? ⟨w.heap.size, 1, none⟩ = some (.slice A2 ml.length c2) ∧ w'.cell? ⟨w.heap.size, 2, none⟩ = some (.slice (some ⟨b, off, none⟩) ns c3) ∧ w'.cell? ⟨w.heap.size, 3, none⟩ = some (.slice A4 x.rules.length c4) ∧ w'.cell? ⟨b, off + 1, none⟩ = some (.string (str t.s)))
      (first | exact HSIX.out _ HZ2.out | exact HSIX.out _ ⟨rfl, rfl, rfl, Nat.le_refl _, fun _ _ => rfl⟩)
      (first
        | (go_at_call 66; refine HLF.out.mono ?_; rintro e w1 ⟨o, rfl, ho, hb1⟩
           have HP1 := Lib.hid (rplace_any ho (str t.s))
           rw [place_nat, HS1.out, if_pos rfl, ← HPP.out] at HP1
           have HZ2 := Lib.hid ((below_drewD W).trans (hb1.mono (Nat.le_refl _)))
           clear ho hb1)
        | (go_at_call 45; refine HP1.out.mono ?_; rintro e w2 ⟨rfl, rfl⟩))
    obtain ⟨z0, z1, z2, z3, -⟩ := HSIX.out _ HZ2.out
    have HKE := Lib.hid (HK1.out.below HZ2.out HK1.out.lt)
    obtain ⟨o0, o1⟩ := blk2 HKE.out
    have v0 := HKE.out.frozen 0
    have v1 := HKE.out.frozen 1
    have hwl2 := HKE.out.lt
    go_wp2
    have HBE := Lib.hid (HB0.out.trans (HZ2.out.mono HB0.out.size))
    obtain ⟨f1, f2⟩ := HFIN.out _ HBE.out (by omega) HKE.out
    obtain ⟨r0, r1⟩ := blk2 f2
    refine bodyPost_ret (v := .agg #[.int .i64 0, .int .i64 0]) (by simp [results, Tryd.results44, go_sem, r0, r1]) rfl ?_
    exact ⟨rfl, f1⟩
end Go.Proofs.YtnpjhndgdlihjaaDoor

namespace Go.Proofs.YtnpjhndgdlihjaaDoor
open Go.RowKit
set_option linter.unusedVariables false
/-- Two rows lie apart. -/
def Ap (a b : Value) : Prop := ∀ g, a.ownBlock = some g → ¬ b.ownBlock = some g
theorem Ap.symm {a b : Value} (h : Ap a b) : Ap b a := fun g hb ha => h g ha hb
theorem Ap.nil (a : Value) : Ap (.slice none 0 0) a := fun g h => by cases h
/-- A row of names. -/
abbrev NR := Value × List Nme
def Row (w : World) (B : Nat) (p : NR) : Prop := w.ownsRow B 9 1 p.1 p.2.length (p.2.map Nv)
/-- Rows of names, all apart. -/
structure Fam (w : World) (B : Nat) (F : List NR) : Prop where
  row : ∀ p ∈ F, Row w B p
  apart : F.Pairwise fun a b => Ap a.1 b.1
theorem Fam.perm {w : World} {B : Nat} {F G : List NR} (h : Fam w B F) (hp : F.Perm G) : Fam w B G :=
  ⟨fun p hm => h.row p (hp.mem_iff.2 hm), hp.pairwise h.apart (fun ha => ha.symm)⟩
theorem Fam.chg {X : Nat → Prop} {w w' : World} {B : Nat} {F : List NR} (h : Fam w B F) (hc : Chg X w w') (hx : ∀ p ∈ F, ∀ g, p.1.ownBlock = some g → ¬ X g) : Fam w' B F :=
  ⟨fun p hm => hc.own (h.row p hm) (hx p hm), h.apart⟩
theorem Fam.later {w w' : World} {B : Nat} {F : List NR} (h : Fam w B F) (hb : Below w.heap.size w w') : Fam w' B F := h.chg (X := fun _ => False) (.of_below hb) (fun _ _ _ _ => id)
theorem Fam.new {w : World} {B : Nat} {F : List NR} (h : Fam w B F) : Fam w B ((.slice none 0 0, []) :: F) :=
  ⟨fun p hm => by
    rcases List.mem_cons.1 hm with rfl | hm
    · exact World.ownsRow_nil _ _ _ _
    · exact h.row p hm, List.Pairwise.cons (fun p _ => Ap.nil _) h.apart⟩
/-- The first row grows. -/
theorem Fam.grow {w w2 : World} {o : Obj} {B : Nat} {F : List NR} {v v2 : Value} {L L2 : List Nme} (h : Fam w B ((v, L) :: F)) (ho : Row w2 B (v2, L2)) (hg : Grew w o w2 v v2) : Fam w2 B ((v2, L2) :: F) := by
  have hp := List.pairwise_cons.1 h.apart
  have hq : ∀ p ∈ F, Row w2 B p ∧ Ap v2 p.1 := fun p hm => hg.other (h.row p (List.mem_cons_of_mem _ hm)) (hp.1 p hm)
  refine ⟨fun p hm => ?_, List.Pairwise.cons (fun p hm => (hq p hm).2) hp.2⟩
  rcases List.mem_cons.1 hm with rfl | hm
  · exact ho
  · exact (hq p hm).1
/-- A cell of another block turns. -/
theorem Fam.set {w : World} {B : Nat} {F : List NR} (h : Fam w B F) {g i : Nat} {t : TypeId} {cs : Array Value} (hb : Blk w g t cs) (ht : 9 ≠ t) (u : Value) : Fam (w.setCell ⟨g, i, none⟩ u) B F :=
  ⟨fun p hm => own_far (h.row p hm) (own_blk_ne (h.row p hm) hb ht) u, h.apart⟩
/-- A rule by names, as it lies. -/
structure DV where
  left : Nme
  right : List Nme
  v : Value
def DV.cells (d : DV) : List Value := [.string (str d.left), d.v]
def DV.dn (d : DV) : DN := (d.left, d.right)
def DV.nr (d : DV) : NR := (d.v, d.right)
abbrev TT : List TypeId := [9, 65, 30, 55]
/-- A grammar that is being named. -/
structure BD (w : World) (B gb db : Nat) (T N : List Nme) (tv nv dv : Value) (ds : List DV) (C : List NR) : Prop where
  gblk : Blk w gb 30 #[tv, nv, .slice none 0 0, .int .i64 0]
  dblk : Blk w db 55 #[dv]
  dR : w.ownsRow B 65 2 dv ds.length (ds.flatMap DV.cells)
  fam : Fam w B ((tv, T) :: (nv, N) :: (C ++ ds.map DV.nr))
  gbB : gb < B
  dbB : db < B
  bB : B ≤ w.heap.size
section
variable {w w' w2 : World} {o : Obj} {B gb db : Nat} {T N : List Nme} {tv nv dv v2 : Value} {ds : List DV} {C : List NR} {s : Nme}
theorem BD.gd (h : BD w B gb db T N tv nv dv ds C) : gb ≠ db := Blk.ne_ h.gblk h.dblk (by decide)
theorem BD.later (h : BD w B gb db T N tv nv dv ds C) (hb : Below w.heap.size w w') : BD w' B gb db T N tv nv dv ds C :=
  ⟨h.gblk.below hb h.gblk.lt, h.dblk.below hb h.dblk.lt, (Chg.of_below (X := fun _ => False) hb).own h.dR (fun _ _ => id), h.fam.later hb, h.gbB, h.dbB, Nat.le_trans h.bB hb.size⟩
theorem BD.drew (h : BD w B gb db T N tv nv dv ds C) : BD w.drew B gb db T N tv nv dv ds C := h.later ⟨rfl, rfl, rfl, Nat.le_refl _, fun _ _ => rfl⟩
theorem BD.tRow (h : BD w B gb db T N tv nv dv ds C) : w.ownsRow B 9 1 tv T.length (T.map Nv) := h.fam.row (tv, T) (by simp)
theorem BD.nRow (h : BD w B gb db T N tv nv dv ds C) : w.ownsRow B 9 1 nv N.length (N.map Nv) := h.fam.row (nv, N) (by simp)
theorem BD.rRow (h : BD w B gb db T N tv nv dv ds C) {d : DV} (hd : d ∈ ds) : w.ownsRow B 9 1 d.v d.right.length (d.right.map Nv) := h.fam.row d.nr (by simp; exact .inr (.inr (.inr ⟨d, hd, rfl⟩)))
theorem BD.cRow {cv : Value} {cl : List Nme} (h : BD w B gb db T N tv nv dv ds [(cv, cl)]) : w.ownsRow B 9 1 cv cl.length (cl.map Nv) := h.fam.row (cv, cl) (by simp)
/-- A current row begins. -/
theorem BD.begin (h : BD w B gb db T N tv nv dv ds []) : BD w B gb db T N tv nv dv ds [(.slice none 0 0, [])] :=
  ⟨h.gblk, h.dblk, h.dR, h.fam.new.perm (by
    have h1 : (((.slice none 0 0, []) : NR) :: (tv, T) :: (nv, N) :: ([] ++ ds.map DV.nr)).Perm ((tv, T) :: ((.slice none 0 0, []) : NR) :: (nv, N) :: ([] ++ ds.map DV.nr)) := List.Perm.swap _ _ _
    exact h1.trans (List.Perm.cons _ (List.Perm.swap _ _ _))), h.gbB, h.dbB, h.bB⟩
/-- Terminals grow. -/
theorem BD.tgrow (h : BD w B gb db T N tv nv dv ds C) (r1 : w2.ownsRow B 9 1 v2 (T.length + 1) (T.map Nv ++ [.string (str s)])) (r2 : Keeps B [9] (w.alloc o) w2) (hg : Grew w o w2 tv v2) :
    BD (w2.setCell ⟨gb, 0, none⟩ v2) B gb db (T ++ [s]) N v2 nv dv ds C ∧ Blk w2 gb 30 #[tv, nv, .slice none 0 0, .int .i64 0] := by
  have hb2 : Blk w2 gb 30 #[tv, nv, .slice none 0 0, .int .i64 0] := r2.blk (h.gblk.alloc _) (.inl h.gbB)
  have hd2 : Blk w2 db 55 #[dv] := r2.blk (h.dblk.alloc _) (.inl h.dbB)
  have hrow : Row w2 B (v2, T ++ [s]) := by
    have e1 : (T ++ [s]).length = T.length + 1 := by simp
    unfold Row
    rw [e1, List.map_append]
    exact r1
  have hdr : w2.ownsRow B 65 2 dv ds.length (ds.flatMap DV.cells) := r2.own (((Chg.refl (fun _ => False) w).alloc o).own h.dR (fun _ _ => id)) (.inr (by decide))
  refine ⟨⟨by simpa using hb2.set_ 0 v2, hd2.far (by simpa using h.gd.symm) _, own_far2 hdr h.gbB, (h.fam.grow hrow hg).set hb2 (by decide) _, h.gbB, h.dbB, ?_⟩, hb2⟩
  have := r2.size
  have := h.bB
  simp [World.setCell] at *
  omega
/-- Nonterminals grow. -/
theorem BD.ngrow (h : BD w B gb db T N tv nv dv ds C) (r1 : w2.ownsRow B 9 1 v2 (N.length + 1) (N.map Nv ++ [.string (str s)])) (r2 : Keeps B [9] (w.alloc o) w2) (hg : Grew w o w2 nv v2) :
    BD (w2.setCell ⟨gb, 1, none⟩ v2) B gb db T (N ++ [s]) tv v2 dv ds C ∧ Blk w2 gb 30 #[tv, nv, .slice none 0 0, .int .i64 0] := by
  have hb2 : Blk w2 gb 30 #[tv, nv, .slice none 0 0, .int .i64 0] := r2.blk (h.gblk.alloc _) (.inl h.gbB)
  have hd2 : Blk w2 db 55 #[dv] := r2.blk (h.dblk.alloc _) (.inl h.dbB)
  have hrow : Row w2 B (v2, N ++ [s]) := by
    have e1 : (N ++ [s]).length = N.length + 1 := by simp
    unfold Row
    rw [e1, List.map_append]
    exact r1
  have hdr : w2.ownsRow B 65 2 dv ds.length (ds.flatMap DV.cells) := r2.own (((Chg.refl (fun _ => False) w).alloc o).own h.dR (fun _ _ => id)) (.inr (by decide))
  have hf : Fam w B ((nv, N) :: (tv, T) :: (C ++ ds.map DV.nr)) := h.fam.perm (List.Perm.swap _ _ _)
  refine ⟨⟨by simpa using hb2.set_ 1 v2, hd2.far (by simpa using h.gd.symm) _, own_far2 hdr h.gbB, ((hf.grow hrow hg).perm (List.Perm.swap _ _ _)).set hb2 (by decide) _, h.gbB, h.dbB, ?_⟩, hb2⟩
  have := r2.size
  have := h.bB
  simp [World.setCell] at *
  omega
/-- The current row grows. -/
theorem BD.cgrow {nb : Nat} {left cv : Value} {cl : List Nme} (h : BD w B gb db T N tv nv dv ds [(cv, cl)]) (hn : Blk w nb 65 #[left, cv]) (hdn : ¬ dv.ownBlock = some nb) (r1 : w2.ownsRow B 9 1 v2 (cl.length + 1) (cl.map Nv ++ [.string (str s)])) (r2 : Keeps B [9] (w.alloc o) w2) (hg : Grew w o w2 cv v2) :
    BD (w2.setCell ⟨nb, 1, none⟩ v2) B gb db T N tv nv dv ds [(v2, cl ++ [s])] ∧ Blk (w2.setCell ⟨nb, 1, none⟩ v2) nb 65 #[left, v2] ∧ Blk w2 nb 65 #[left, cv] := by
  have hb2 : Blk w2 gb 30 #[tv, nv, .slice none 0 0, .int .i64 0] := r2.blk (h.gblk.alloc _) (.inl h.gbB)
  have hd2 : Blk w2 db 55 #[dv] := r2.blk (h.dblk.alloc _) (.inl h.dbB)
  have hn2 : Blk w2 nb 65 #[left, cv] := r2.blk (hn.alloc _) (.inr (by decide))
  have hrow : Row w2 B (v2, cl ++ [s]) := by
    have e1 : (cl ++ [s]).length = cl.length + 1 := by simp
    unfold Row
    rw [e1, List.map_append]
    exact r1
  have hdr : w2.ownsRow B 65 2 dv ds.length (ds.flatMap DV.cells) := r2.own (((Chg.refl (fun _ => False) w).alloc o).own h.dR (fun _ _ => id)) (.inr (by decide))
  have hp1 : ∀ x : NR, ((tv, T) :: (nv, N) :: ([x] ++ ds.map DV.nr)).Perm (x :: (tv, T) :: (nv, N) :: ds.map DV.nr) := fun x => by
    have h1 : ((tv, T) :: (nv, N) :: ([x] ++ ds.map DV.nr)).Perm ((tv, T) :: x :: (nv, N) :: ds.map DV.nr) := List.Perm.cons _ (List.Perm.swap _ _ _)
    exact h1.trans (List.Perm.swap _ _ _)
  have hf : Fam w2 B ((v2, cl ++ [s]) :: (tv, T) :: (nv, N) :: ds.map DV.nr) := (h.fam.perm (hp1 _)).grow hrow hg
  refine ⟨⟨hb2.far (by simpa using Blk.ne_ hb2 hn2 (by decide)) _, hd2.far (by simpa using Blk.ne_ hd2 hn2 (by decide)) _, own_far hdr (by simpa using hdn) _, (hf.perm (hp1 _).symm).set hn2 (by decide) _, h.gbB, h.dbB, ?_⟩, by simpa using hn2.set_ 1 v2, hn2⟩
  have := r2.size
  have := h.bB
  simp [World.setCell] at *
  omega
/-- A rule is appended. -/
theorem BD.dgrow {left : Nme} {cv : Value} {cl : List Nme} (h : BD w B gb db T N tv nv dv ds [(cv, cl)]) (r1 : w2.ownsRow B 65 2 v2 (ds.length + 1) (ds.flatMap DV.cells ++ [.string (str left), cv])) (r2 : Keeps B [65] (w.alloc o) w2) (hg : Grew w o w2 dv v2) :
    BD (w2.setCell ⟨db, 0, none⟩ v2) B gb db T N tv nv v2 (ds ++ [⟨left, cl, cv⟩]) [] ∧ Blk w2 db 55 #[dv] := by
  have hb2 : Blk w2 gb 30 #[tv, nv, .slice none 0 0, .int .i64 0] := r2.blk (h.gblk.alloc _) (.inl h.gbB)
  have hd2 : Blk w2 db 55 #[dv] := r2.blk (h.dblk.alloc _) (.inl h.dbB)
  have hfam : Fam w2 B ((tv, T) :: (nv, N) :: ([(cv, cl)] ++ ds.map DV.nr)) := h.fam.chg (X := fun k => dv.ownBlock = some k) hg.chg (fun p hm g hp hx => own_apart h.dR (h.fam.row p hm) (by decide) g hx hp)
  have hperm : ((tv, T) :: (nv, N) :: ([(cv, cl)] ++ ds.map DV.nr)).Perm ((tv, T) :: (nv, N) :: ([] ++ (ds ++ [DV.mk left cl cv]).map DV.nr)) := by
    refine List.Perm.cons _ (List.Perm.cons _ ?_)
    rw [List.map_append]
    exact List.perm_append_comm
  refine ⟨⟨hb2.far (by simpa using h.gd) _, by simpa using hd2.set_ 0 v2, ?_, (hfam.perm hperm).set hd2 (by decide) _, h.gbB, h.dbB, ?_⟩, hd2⟩
  · have e1 : (ds ++ [(⟨left, cl, cv⟩ : DV)]).length = ds.length + 1 := by simp
    rw [e1, List.flatMap_append]
    exact own_far2 (by simpa [List.flatMap, DV.cells] using r1) h.dbB
  · have := r2.size
    have := h.bB
    simp [World.setCell] at *
    omega
end
end Go.Proofs.YtnpjhndgdlihjaaDoor

namespace Go.Proofs.YtnpjhndgdlihjaaDoor
open Go.RowKit
set_option linter.unusedVariables false
set_option maxRecDepth 100000 in
set_option maxHeartbeats 1600000 in
theorem same4g_any {w : World} {u v : Value} {a b : List Nme} (ha : Arr StrV w u (a.map str)) (hb : Arr StrV w v (b.map str)) : Calls Tryd.prog 27 #[u, v] w fun e w' => e = .returned (.bool (a == b)) ∧ ∃ q, w' = w.drewN q := by
  obtain ⟨⟨A, c, rfl, hca⟩, hsa, -⟩ := ha
  obtain ⟨⟨B, d, rfl, hcb⟩, hsb, -⟩ := hb
  have hal : (a.map str).length = a.length := List.length_map _
  have hbl : (b.map str).length = b.length := List.length_map _
  have hs1 := hsa
  rw [hal] at hs1
  have HCA := Lib.hid (fun (k : Nat) (x : Nme) (h : a[k]? = some x) => hca k (str x) (by rw [List.getElem?_map, h]; rfl))
  have HCB := Lib.hid (fun (k : Nat) (x : Nme) (h : b[k]? = some x) => hcb k (str x) (by rw [List.getElem?_map, h]; rfl))
  rw [hal, hbl]
  clear hca hcb hsa hsb hal hbl
  by_cases hl : a.length = b.length
  · rw [← hl]
    have HL := Lib.hid hl
    clear hl
    go_enter Tryd.func27, Tryd.ntmps27
    go_wp2
    go_loopw [5] (fun i wr => ∃ k : Nat, k ≤ a.length ∧ i = .int .i64 k ∧ Hid (AlikeTo a b k) ∧ Hid (∃ q, wr = w.drewN q)) (fun i _ => a.length - (intOf i).toNat)
    case atStart => exact ⟨0, Nat.zero_le _, rfl, Lib.hid (fun j x y hj => absurd hj (Nat.not_lt_zero _)), Lib.hid ⟨0, rfl⟩⟩
    case round =>
      obtain ⟨k, hk, rfl, HA, HD⟩ := hrel
      by_cases hlt : k < a.length
      · obtain ⟨x, hx⟩ : ∃ x, a[k]? = some x := ⟨_, List.getElem?_eq_getElem hlt⟩
        obtain ⟨y, hy⟩ : ∃ y, b[k]? = some y := ⟨_, List.getElem?_eq_getElem (by have := HL.out; omega)⟩
        obtain ⟨b1, off1, rfl, hlt1, hcell1⟩ := HCA.out k x hx
        obtain ⟨b2, off2, rfl, hlt2, hcell2⟩ := HCB.out k y hy
        have e1 : wr.cell? ⟨b1, off1 + k, none⟩ = some (.string (str x)) := by obtain ⟨q, rfl⟩ := HD.out; exact hcell1
        have e2 : wr.cell? ⟨b2, off2 + k, none⟩ = some (.string (str y)) := by obtain ⟨q, rfl⟩ := HD.out; exact hcell2
        by_cases he : x = y
        · subst he
          have hb : ((str x).toList != (str x).toList) = false := by simp
          have HN : Hid (AlikeTo a b (k + 1)) := Lib.hid (fun j u v hj hu hv => by
            rcases Nat.lt_or_ge j k with h1 | h1
            · exact HA.out j u v h1 hu hv
            · obtain rfl : j = k := by omega
              rw [hx] at hu
              rw [hy] at hv
              cases hu
              cases hv
              rfl)
          clear hx hy hcell1 hcell2
          go_wp2
          go_quiet (fail)
          have HDD : Hid (∃ q, wr.drewN nq = w.drewN q) := Lib.hid (by
            obtain ⟨q, hq⟩ := HD.out
            exact ⟨q + nq, by rw [hq, World.drewN_drewN]⟩)
          go_wp2
          go_roundw
          case rel => exact ⟨k + 1, by omega, by go_num, HN, HDD⟩
          case measure => simp [intOf]; omega
        · have hb : ((str x).toList == (str y).toList) = false := by
            rw [beq_eq_false_iff_ne]
            exact fun h => he (str_inj (bytes_eq h))
          have HF := Lib.hid (alike_no hx hy he)
          clear hx hy hcell1 hcell2
          go_wp2
          go_quiet (fail)
          have HDD : Hid (∃ q, wr.drewN nq = w.drewN q) := Lib.hid (by
            obtain ⟨q, hq⟩ := HD.out
            exact ⟨q + nq, by rw [hq, World.drewN_drewN]⟩)
          go_wp2
          go_ret
          exact ⟨by rw [HF.out]; rfl, HDD.out⟩
      · obtain rfl : k = a.length := by omega
        have HF := Lib.hid (AlikeTo.all HL.out HA.out)
        go_wp2
        go_ret
        exact ⟨by rw [HF.out]; rfl, HD.out⟩
  · have HF : Hid ((a == b) = false) := Lib.hid (by rw [beq_eq_false_iff_ne]; exact fun h => hl (by rw [h]))
    have q1 : ((a.length : Int) != (b.length : Int)) = true := by rw [bne_iff_ne]; omega
    clear hl
    go_enter Tryd.func27, Tryd.ntmps27
    go_wp2
    go_ret
    exact ⟨by rw [HF.out]; rfl, 0, rfl⟩
theorem side_split {lf T T' : List Nme} {left : Nme} {d d' : List DN} {l : List PS} {k : Nat} {s : PS} (h : sideF lf left T d (l.drop k) = some (T', d')) (hs : l[k]? = some s) :
    d.length < 300 ∧ ∃ T2, symF lf T 0 s.l = some T2 ∧ d.any (fun q => q.1 == left && q.2 == rightN s) = false ∧ sideF lf left T2 (d ++ [(left, rightN s)]) (l.drop (k + 1)) = some (T', d') := by
  have hd : l.drop k = s :: l.drop (k + 1) := by
    obtain ⟨hk, rfl⟩ := List.getElem?_eq_some_iff.1 hs
    exact List.drop_eq_getElem_cons hk
  rw [hd] at h
  unfold sideF at h
  by_cases h3 : 300 ≤ d.length
  · rw [if_pos h3] at h; cases h
  · rw [if_neg h3] at h
    cases hy : symF lf T 0 s.l with
    | none => rw [hy] at h; cases h
    | some T2 =>
      rw [hy] at h
      dsimp only at h
      cases ha : d.any (fun q => q.1 == left && q.2 == rightN s) with
      | true => rw [ha] at h; cases h
      | false =>
        rw [ha] at h
        exact ⟨by omega, T2, rfl, rfl, h⟩
theorem sym_split {lf T T2 : List Nme} {l : List Tk} {k : Nat} {t : Tk} (h : symF lf T k (l.drop k) = some T2) (ht : l[k]? = some t) :
    k < 8 ∧ ((T.contains t.s = true ∧ symF lf T (k + 1) (l.drop (k + 1)) = some T2) ∨ (T.contains t.s = false ∧ t.k = 1 ∧ lf.contains t.s = true ∧ symF lf T (k + 1) (l.drop (k + 1)) = some T2) ∨ (T.contains t.s = false ∧ t.k = 2 ∧ T.length < 120 ∧ symF lf (T ++ [t.s]) (k + 1) (l.drop (k + 1)) = some T2)) := by
  rw [drop_cons ht] at h
  unfold symF at h
  by_cases h8 : 8 ≤ k
  · rw [if_pos h8] at h; cases h
  · rw [if_neg h8] at h
    refine ⟨by omega, ?_⟩
    cases hc : T.contains t.s with
    | true => rw [hc, if_pos rfl] at h; exact .inl ⟨rfl, h⟩
    | false =>
      rw [hc, if_neg (by simp)] at h
      by_cases h1 : t.k = 1
      · rw [if_pos h1] at h
        cases hl : lf.contains t.s with
        | true => rw [hl, if_pos rfl] at h; exact .inr (.inl ⟨rfl, h1, rfl, h⟩)
        | false => rw [hl, if_neg (by simp)] at h; cases h
      · rw [if_neg h1] at h
        by_cases h2 : t.k = 2
        · rw [if_pos h2] at h
          by_cases h120 : 120 ≤ T.length
          · rw [if_pos h120] at h; cases h
          · rw [if_neg h120] at h
            exact .inr (.inr ⟨rfl, h2, by omega, h⟩)
        · rw [if_neg h2] at h; cases h
end Go.Proofs.YtnpjhndgdlihjaaDoor
