/- The document's parser, where the text is right. -/
import Derived.Test.YtnpjhndgdlihjaaDoorZr
import Derived.Deep.DeepCutAuto
import Derived.Deep.RegionHeld3
namespace Go.Proofs.YtnpjhndgdlihjaaDoor
open Go.RowKit
set_option linter.unusedVariables false
theorem findN_le (L : List Nme) (s : Nme) : findN L s ≤ L.length + 1 := by
  unfold findN
  split
  · have := List.findIdx_le_length (p := (· == s)) (xs := L); omega
  · omega
theorem findS_nat (T N : List Nme) (s : Nme) : findS (T.map str ++ N.map str) (str s) = ((findN (T ++ N) s : Nat) : Int) := by
  unfold findS findN
  rw [← List.map_append, place_nat]
  split <;> simp
theorem rfindN_any {w : World} {AT AN AR : Option Addr} {cT cN cR nR : Nat} {gs : Int} {T N : List Nme} (hT : Arr StrV w (.slice AT T.length cT) (T.map str)) (hN : Arr StrV w (.slice AN N.length cN) (N.map str)) (hT20 : T.length ≤ 120) (hN20 : N.length ≤ 120) (s : Nme) :
    Calls Tryd.prog 26 #[.agg #[.slice AT T.length cT, .slice AN N.length cN, .slice AR nR cR, .int .i64 gs], .string (str s)] w fun e w' => e = .returned (.int .i64 (findN (T ++ N) s : Nat)) ∧ Below w.heap.size w w' := by
  have e1 : (T.map str).length = T.length := List.length_map _
  have e2 : (N.map str).length = N.length := List.length_map _
  have hl := findN_le (T ++ N) s
  rw [List.length_append] at hl
  have h := rfind_any (w := w) (AT := AT) (AN := AN) (AR := AR) (cT := cT) (cN := cN) (cR := cR) (nR := nR) (gs := gs) (T := T.map str) (N := N.map str) (by rw [e1]; exact hT) (by rw [e2]; exact hN) (by omega) (by omega) (str s) (by rw [findS_nat]; omega) (by rw [findS_nat]; omega)
  rw [e1, e2, findS_nat] at h
  exact h
theorem below_same {B : Nat} {a w : World} {fb : Nat} {t : TypeId} (h : Below B a w) (hF : Blk w fb t #[.int .i64 0, .int .i64 0]) : Below B a ((w.setCell ⟨fb, 0, none⟩ (.int .i64 0)).setCell ⟨fb, 1, none⟩ (.int .i64 0)) :=
  ⟨h.os, h.tape, h.output, by have := h.size; simpa [World.setCell] using this, fun k hk => by
    by_cases e : k = fb
    · subst e
      have h1 : Blk ((w.setCell ⟨k, 0, none⟩ (.int .i64 0)).setCell ⟨k, 1, none⟩ (.int .i64 0)) k t #[.int .i64 0, .int .i64 0] := set2_blk hF
      exact (h1.trans hF.symm).trans (h.block k hk)
    · exact ((Below.heap_setCell _ _ _ _ e).trans (Below.heap_setCell _ _ _ _ e)).trans (h.block k hk)⟩
theorem src_ruD (y : World) (z : Int) (A : Option Addr) (n c : Nat) : SrcOK (y.alloc (.cells #[.int .i64 z, .slice A n c] 68)) (.slice (some ⟨y.heap.size, 0, none⟩) 1 1) 1 2 [.int .i64 z, .slice A n c] :=
  SrcOK.blk (c := 1) (Blk.new y 68 #[.int .i64 z, .slice A n c]) rfl (by simp [Value.oneCell'])
/-- Behind the parser. -/
def ParseEnd (w : World) (g : PG) (e : Ending) (w' : World) : Prop :=
  ∃ tv nv Rv R, e = .returned (.tuple #[.agg #[tv, nv, Rv, .int .i64 g.s], .agg #[.int .i64 0, .int .i64 0]]) ∧ Has w w' tv nv Rv g R ∧ Below w.heap.size w w'
set_option maxRecDepth 100000 in
set_option maxHeartbeats 6400000 in
theorem parseD_any {w : World} {s : ByteArray} {ts : List Tk} {x : Txt} {g : PG} (hs : s.size ≤ 4611686018427387904) (ht : tokens s.data.toList = .ok ts) (hx : formL ts = .ok x) (hg : gramF x = some g) (hr : x.rules ≠ []) (hd : x.decl ≠ []) (hl : ts.length ≤ 100000) (hR : g.R.length ≤ 100000) (hst : x.starts ≠ []) :
    Calls Tryd.prog 13 #[.string s] w (ParseEnd w g) := by
  cases hn : namesF x with
  | none => unfold gramF at hg; rw [hn] at hg; cases hg
  | some q =>
    obtain ⟨T, N, d⟩ := q
    unfold gramF at hg
    rw [hn] at hg
    replace hg := Option.some.inj hg
    have HG := Lib.hid hg
    have hba : Below w.heap.size w ((w.alloc (.cells #[.slice none 0 0, .slice none 0 0, .slice none 0 0, .int .i64 0] 30)).alloc (.cells #[.int .i64 0, .int .i64 0] 34)) := (below_alloc w _).alloc (by simp) _
    have HA := Lib.hid (rrow_any s hs ((w.alloc (.cells #[.slice none 0 0, .slice none 0 0, .slice none 0 0, .int .i64 0] 30)).alloc (.cells #[.int .i64 0, .int .i64 0] 34)))
    rw [ht] at HA
    have HB0 := Lib.hid hba
    have HR0 : Hid (Blk ((w.alloc (.cells #[.slice none 0 0, .slice none 0 0, .slice none 0 0, .int .i64 0] 30)).alloc (.cells #[.int .i64 0, .int .i64 0] 34)) w.heap.size 30 #[.slice none 0 0, .slice none 0 0, .slice none 0 0, .int .i64 0]) := Lib.hid ((Blk.new w 30 _).alloc _)
    have HF0 : Hid (Blk ((w.alloc (.cells #[.slice none 0 0, .slice none 0 0, .slice none 0 0, .int .i64 0] 30)).alloc (.cells #[.int .i64 0, .int .i64 0] 34)) (w.heap.size + 1) 34 #[.int .i64 0, .int .i64 0]) := Lib.hid (by
      have h1 := Blk.new (w.alloc (.cells #[.slice none 0 0, .slice none 0 0, .slice none 0 0, .int .i64 0] 30)) 34 #[.int .i64 0, .int .i64 0]
      rwa [World.size_alloc] at h1)
    have HSZ : Hid (((w.alloc (.cells #[.slice none 0 0, .slice none 0 0, .slice none 0 0, .int .i64 0] 30)).alloc (.cells #[.int .i64 0, .int .i64 0] 34)).heap.size = w.heap.size + 2) := Lib.hid (by simp)
    have HFO := Lib.hid hx
    have HNF := Lib.hid hn
    have hxl : 0 < x.rules.length := List.length_pos_iff.2 hr
    have hsl : 0 < x.starts.length := List.length_pos_iff.2 hst
    obtain ⟨r0, hr0⟩ : ∃ r0, x.rules[0]? = some r0 := ⟨_, List.getElem?_eq_getElem hxl⟩
    obtain ⟨t0, ht0⟩ : ∃ t0, x.starts[0]? = some t0 := ⟨_, List.getElem?_eq_getElem hsl⟩
    have HSN : Hid (∀ L, startN x L = findN L t0.s) := Lib.hid (fun L => by
      unfold startN
      cases hx : x.starts with
      | nil => exact absurd hx hst
      | cons t r => rw [hx] at ht0; cases ht0; rfl)
    have HR00 := Lib.hid hr0
    have HT00 := Lib.hid ht0
    have HDE := Lib.hid hd
    clear hba ht hx hg hn hr hd hst hr0 ht0
    go_enter Tryd.func13, Tryd.ntmps13
    go_wp2_with fail
    generalize ((w.alloc (.cells #[.slice none 0 0, .slice none 0 0, .slice none 0 0, .int .i64 0] 30)).alloc (.cells #[.int .i64 0, .int .i64 0] 34)) = W at *
    refine HA.out.mono ?_
    rintro e w1 ⟨hb1, v, hrow, rfl⟩
    obtain ⟨Av, cv, rfl⟩ := own_shape hrow
    have HTK := Lib.hid ((toks_own hrow hl).later (below_alloc w1 (.cells #[.int .i64 0, .int .i64 0] 34)))
    have HB1 := Lib.hid (hb1.alloc hb1.size (.cells #[.int .i64 0, .int .i64 0] 34))
    have HFB := Lib.hid (Blk.new w1 34 #[.int .i64 0, .int .i64 0])
    have HRD := Lib.hid (read_any HTK.out HFO.out)
    have hw1 := hb1.size
    clear hb1 hrow
    go_wp2_with fail
    refine HRD.out.mono ?_
    rintro e w2 ⟨dv, kv, sv, rv, rfl, htx, hb2⟩
    obtain ⟨ml, m1, m2⟩ := htx.marks
    have hdl := htx.decl
    have hstl := htx.starts
    have hrll := htx.rules
    obtain ⟨⟨A1, c1, rfl, -⟩, -⟩ := hdl
    obtain ⟨⟨A2, c2, rfl, -⟩, -⟩ := m2
    obtain ⟨⟨A3, c3, rfl, hcs⟩, -⟩ := hstl
    obtain ⟨⟨A4, c4, rfl, hcr⟩, -⟩ := hrll
    have HF2 := Lib.hid (HFB.out.below hb2 HFB.out.lt)
    have HB2 := Lib.hid (HB1.out.trans (hb2.mono HB1.out.size))
    have HTX := Lib.hid htx
    have HS2 := Lib.hid (show ∀ t, x.starts[0]? = some t → ∃ b off, A3 = some ⟨b, off, none⟩ ∧ b < w2.heap.size ∧ w2.cell? ⟨b, off + 1, none⟩ = some (.string (str t.s)) from fun t ht => by
      obtain ⟨b, off, hA, hlt, -, k1, -⟩ := hcs 0 t ht
      rw [Nat.zero_mul, Nat.add_zero] at k1
      exact ⟨b, off, hA, hlt, k1⟩)
    have HR2 := Lib.hid (show ∀ r, x.rules[0]? = some r → ∃ b off, A4 = some ⟨b, off, none⟩ ∧ b < w2.heap.size ∧ w2.cell? ⟨b, off + 1, none⟩ = some (.string (str r.left.s)) from fun r hr => by
      obtain ⟨b, off, sv, hA, hlt, -, k1, -⟩ := hcr 0 r hr
      rw [Nat.zero_mul, Nat.add_zero] at k1
      exact ⟨b, off, hA, hlt, k1⟩)
    have hw2 := hb2.size
    simp at hw2
    obtain ⟨zf0, zf1⟩ := blk2 HF2.out
    have vf0 := HF2.out.frozen 0
    have vf1 := HF2.out.frozen 1
    have hfl := HF2.out.lt
    clear hcs hcr m1 htx hb2
    go_wp2_with fail
    have hb23 : Below w2.heap.size w2 (((w2.setCell ⟨w1.heap.size, 0, none⟩ (.int .i64 0)).setCell ⟨w1.heap.size, 1, none⟩ (.int .i64 0)).alloc (.cells #[.slice A1 x.decl.length c1, .slice A2 ml.length c2, .slice A3 x.starts.length c3, .slice A4 x.rules.length c4] 52)) := (below_same (Below.refl _ w2) HF2.out).alloc (by simp [World.setCell]) _
    have HNM := Lib.hid (namesD_any (HTX.out.later hb23) HNF.out HDE.out)
    have HF3 := Lib.hid (HF2.out.below hb23 HF2.out.lt)
    have HB3 := Lib.hid (HB2.out.trans (hb23.mono HB2.out.size))
    have HX3 : Hid (Blk (((w2.setCell ⟨w1.heap.size, 0, none⟩ (.int .i64 0)).setCell ⟨w1.heap.size, 1, none⟩ (.int .i64 0)).alloc (.cells #[.slice A1 x.decl.length c1, .slice A2 ml.length c2, .slice A3 x.starts.length c3, .slice A4 x.rules.length c4] 52)) w2.heap.size 52 #[.slice A1 x.decl.length c1, .slice A2 ml.length c2, .slice A3 x.starts.length c3, .slice A4 x.rules.length c4]) := Lib.hid (by
      have h1 := Blk.new ((w2.setCell ⟨w1.heap.size, 0, none⟩ (.int .i64 0)).setCell ⟨w1.heap.size, 1, none⟩ (.int .i64 0)) 52 #[.slice A1 x.decl.length c1, .slice A2 ml.length c2, .slice A3 x.starts.length c3, .slice A4 x.rules.length c4]
      simpa [World.setCell] using h1)
    have H23 := Lib.hid hb23
    have hsz3 : w2.heap.size < (((w2.setCell ⟨w1.heap.size, 0, none⟩ (.int .i64 0)).setCell ⟨w1.heap.size, 1, none⟩ (.int .i64 0)).alloc (.cells #[.slice A1 x.decl.length c1, .slice A2 ml.length c2, .slice A3 x.starts.length c3, .slice A4 x.rules.length c4] 52)).heap.size := by simp [World.setCell]
    clear hb23 zf0 zf1 vf0 vf1
    generalize (((w2.setCell ⟨w1.heap.size, 0, none⟩ (.int .i64 0)).setCell ⟨w1.heap.size, 1, none⟩ (.int .i64 0)).alloc (.cells #[.slice A1 x.decl.length c1, .slice A2 ml.length c2, .slice A3 x.starts.length c3, .slice A4 x.rules.length c4] 52)) = W3 at *
    refine HNM.out.mono ?_
    rintro e w4 ⟨tv, nv, dv, ds, hds, rfl, hT, hN, hr8, h1, h2, h3, h4, hb4⟩
    obtain ⟨At, ct, rfl⟩ := own_shape h1
    obtain ⟨An, cn, rfl⟩ := own_shape h2
    obtain ⟨Ad, cd, rfl⟩ := own_shape h3
    have HF4 := Lib.hid (HF3.out.below hb4 HF3.out.lt)
    obtain ⟨zf0, zf1⟩ := blk2 HF4.out
    have vf0 := HF4.out.frozen 0
    have vf1 := HF4.out.frozen 1
    have hfl4 := HF4.out.lt
    have hb45 : Below w4.heap.size w4 (((w4.setCell ⟨w1.heap.size, 0, none⟩ (.int .i64 0)).setCell ⟨w1.heap.size, 1, none⟩ (.int .i64 0)).alloc (.cells #[.slice At T.length ct, .slice An N.length cn, .slice none 0 0, .int .i64 0] 30)) := (below_same (Below.refl _ w4) HF4.out).alloc (by simp [World.setCell]) _
    have H34 := Lib.hid hb4
    have H45 := Lib.hid hb45
    have HDS := Lib.hid hds
    have HR8 := Lib.hid hr8
    have HO1 := Lib.hid h1
    have HO2 := Lib.hid h2
    have HO3 := Lib.hid h3
    have HO4 := Lib.hid h4
    have HG5 : Hid (Blk (((w4.setCell ⟨w1.heap.size, 0, none⟩ (.int .i64 0)).setCell ⟨w1.heap.size, 1, none⟩ (.int .i64 0)).alloc (.cells #[.slice At T.length ct, .slice An N.length cn, .slice none 0 0, .int .i64 0] 30)) w4.heap.size 30 #[.slice At T.length ct, .slice An N.length cn, .slice none 0 0, .int .i64 0]) := Lib.hid (by
      have h1 := Blk.new ((w4.setCell ⟨w1.heap.size, 0, none⟩ (.int .i64 0)).setCell ⟨w1.heap.size, 1, none⟩ (.int .i64 0)) 30 #[.slice At T.length ct, .slice An N.length cn, .slice none 0 0, .int .i64 0]
      simpa [World.setCell] using h1)
    have HS5 : Hid ((((w4.setCell ⟨w1.heap.size, 0, none⟩ (.int .i64 0)).setCell ⟨w1.heap.size, 1, none⟩ (.int .i64 0)).alloc (.cells #[.slice At T.length ct, .slice An N.length cn, .slice none 0 0, .int .i64 0] 30)).heap.size = w4.heap.size + 1) := Lib.hid (by simp [World.setCell])
    clear hds hr8 h1 h2 h3 h4 hb4 hb45
    go_wp2_with fail
    generalize (((w4.setCell ⟨w1.heap.size, 0, none⟩ (.int .i64 0)).setCell ⟨w1.heap.size, 1, none⟩ (.int .i64 0)).alloc (.cells #[.slice At T.length ct, .slice An N.length cn, .slice none 0 0, .int .i64 0] 30)) = W5 at *
    have hgb : W5.heap.size = w4.heap.size + 1 := HS5.out
    have HBY := Lib.hid (fun y (hy : Chg (· = w4.heap.size) W5 y) => (H45.out.trans (hy.below (by omega) (fun i hi e => by omega)) : Below w4.heap.size w4 y))
    have h34 := H34.out.size
    have h23 := H23.out.size
    have HB2Y := Lib.hid (fun y (hy : Chg (· = w4.heap.size) W5 y) => (H23.out.trans ((H34.out.trans ((HBY.out y hy).mono h34)).mono h23) : Below w2.heap.size w2 y))
    have HXY := Lib.hid (fun y (hy : Chg (· = w4.heap.size) W5 y) => blk4 ((HX3.out.below H34.out HX3.out.lt).below (HBY.out y hy) (Nat.lt_of_lt_of_le HX3.out.lt h34)))
    have HFI := Lib.hid (fun y (f : Int) (s : Nme) (Rv : Option Addr × Nat × Nat) (hy : Chg (· = w4.heap.size) W5 y) => rfindN_any (gs := f) (AR := Rv.1) (nR := Rv.2.1) (cR := Rv.2.2) (arr_nv ((Chg.of_below (X := fun _ => False) (HBY.out y hy)).own HO1.out (fun _ _ => id)) (by omega)) (arr_nv ((Chg.of_below (X := fun _ => False) (HBY.out y hy)).own HO2.out (fun _ _ => id)) (by omega)) hT hN s)
    obtain ⟨b1, o1, hA4, hb1, hc1⟩ := HR2.out r0 HR00.out
    obtain ⟨b2, o2, hA3, hb2, hc2⟩ := HS2.out t0 HT00.out
    subst hA4 hA3
    have HK1 := Lib.hid (fun y (hy : Chg (· = w4.heap.size) W5 y) => (show y.cell? ⟨w2.heap.size, 3, none⟩ = some (.slice (some ⟨b1, o1, none⟩) x.rules.length c4) ∧ y.cell? ⟨b1, o1 + 1, none⟩ = some (.string (str r0.left.s)) from ⟨(HXY.out y hy).2.2.2, ((Chg.of_below (X := fun _ => False) (HB2Y.out y hy)).cell hb1 id).trans hc1⟩))
    have HK2 := Lib.hid (fun y (hy : Chg (· = w4.heap.size) W5 y) => (show y.cell? ⟨w2.heap.size, 2, none⟩ = some (.slice (some ⟨b2, o2, none⟩) x.starts.length c3) ∧ y.cell? ⟨b2, o2 + 1, none⟩ = some (.string (str t0.s)) from ⟨(HXY.out y hy).2.2.1, ((Chg.of_below (X := fun _ => False) (HB2Y.out y hy)).cell hb2 id).trans hc2⟩))
    have HCy1 : Hid (Chg (· = w4.heap.size) W5 W5) := Lib.hid (Chg.refl _ _)
    clear hb1 hb2 hc1 hc2 hgb h34 h23 zf0 zf1 vf0 vf1
    have q1 : (0 : Int) < (x.rules.length : Int) := by omega
    have q2 : (0 : Int) < (x.starts.length : Int) := by omega
    obtain ⟨g0, g1, g2, g3⟩ := blk4 HG5.out
    have vg3 := HG5.out.frozen 3
    have hgl := HG5.out.lt
    go_cut [] (fun wx => Hid (Chg (· = w4.heap.size) W5 wx) ∧ ∃ f1 : Int, Hid (Blk wx w4.heap.size 30 #[.slice At T.length ct, .slice An N.length cn, .slice none 0 0, .int .i64 f1]))
    case first =>
      obtain ⟨i0, i1⟩ := HK1.out W5 HCy1.out
      obtain ⟨j0, j1, j2, j3⟩ := HXY.out W5 HCy1.out
      have hxl5 : w2.heap.size < W5.heap.size := by have := HG5.out.lt; have := H34.out.size; omega
      go_region_law (go_simp; go_at_call 26
                     refine (HFI.out _ 0 r0.left.s (none, 0, 0) HCy1.out.drew).mono ?_
                     rintro e wz ⟨rfl, hbz⟩
                     have HCz := Lib.hid (HCy1.out.drew.next (.of_below hbz))
                     have HGz := Lib.hid (HG5.out.drew.below hbz HG5.out.lt)
                     obtain ⟨m0, m1, m2, m3⟩ := blk4 HGz.out
                     have vm3 := HGz.out.frozen 3
                     clear hbz)
      all_goals go_wp2_with fail
      all_goals go_meet
      all_goals exact ⟨Lib.hid (HCz.out.set (p := ⟨w4.heap.size, 3, none⟩) (.inr rfl) _), _, Lib.hid (by simpa using HGz.out.set_ 3 _)⟩
    case rest =>
      obtain ⟨HC6, f1, HG6⟩ := hcut
      clear g0 g1 g2 g3 vg3
      obtain ⟨i0, i1⟩ := HK2.out wc HC6.out
      have hxl6 : w2.heap.size < wc.heap.size := by have := HG6.out.lt; have := H34.out.size; omega
      go_wp2
      have vg3 := HG6.out.frozen 3
      have hgl6 := HG6.out.lt
      go_cut [] (fun wx => Hid (Chg (· = w4.heap.size) W5 wx) ∧ Hid (Blk wx w4.heap.size 30 #[.slice At T.length ct, .slice An N.length cn, .slice none 0 0, .int .i64 (findN (T ++ N) t0.s : Nat)]))
      case first =>
        obtain ⟨g0, g1, g2, g3⟩ := blk4 HG6.out
        go_region_law (go_simp; go_at_call 26
                       refine (HFI.out _ f1 t0.s (none, 0, 0) HC6.out.drew).mono ?_
                       rintro e wz ⟨rfl, hbz⟩
                       have HCz := Lib.hid (HC6.out.drew.next (.of_below hbz))
                       have HGz := Lib.hid (HG6.out.drew.below hbz HG6.out.lt)
                       obtain ⟨m0, m1, m2, m3⟩ := blk4 HGz.out
                       have vm3 := HGz.out.frozen 3
                       clear hbz)
        all_goals go_wp2_with fail
        all_goals go_meet
        all_goals exact ⟨Lib.hid (HCz.out.set (p := ⟨w4.heap.size, 3, none⟩) (.inr rfl) _), Lib.hid (by simpa using HGz.out.set_ 3 _)⟩
      case rest =>
        rename World => wd
        obtain ⟨HC7, HG7⟩ := hcut
        clear i0 i1 hxl6 vg3 hgl6
        have hdsl : ds.length ≤ 100000 := by
          have h1 := congrArg (fun p : PG => p.R.length) HG.out
          have h2 := congrArg List.length HDS.out
          simp at h1 h2
          omega
        go_wp2
        go_loopw [9] (fun i wr => ∃ (k : Nat) (Rv : Value) (R : List RuG), i = .int .i64 k ∧ k ≤ ds.length ∧ Hid (R.map RuG.g = (ds.take k).map (fun q => (findN (T ++ N) q.left, q.right.map (findN (T ++ N))))) ∧ Hid (Blk wr w4.heap.size 30 #[.slice At T.length ct, .slice An N.length cn, Rv, .int .i64 (findN (T ++ N) t0.s : Nat)]) ∧ Hid (wr.ownsRow (w4.heap.size + 1) 68 2 Rv R.length (R.flatMap RuG.cells)) ∧ Hid (∀ q ∈ R, wr.ownsRow (w4.heap.size + 1) 3 1 q.v q.r.length (q.r.map Mark)) ∧ Hid (Chg (· = w4.heap.size) W5 wr)) (fun i _ => ds.length - (intOf i).toNat)
        case atStart => exact ⟨0, _, [], rfl, Nat.zero_le _, Lib.hid rfl, HG7, Lib.hid (World.ownsRow_nil _ _ _ _), Lib.hid (by simp), HC7⟩
        case round =>
          rename World => w9
          obtain ⟨k, Rv, R, rfl, hk, HRM, HG9, HRW, HRI, HC9⟩ := hrel
          obtain ⟨AR, cR, hRv⟩ := own_shape HRW.out
          subst hRv
          obtain ⟨g0, g1, g2, g3⟩ := blk4 HG9.out
          have hg9 := HG9.out.lt
          have hRl : R.length ≤ 100000 := by
            have h1 := congrArg List.length HRM.out
            simp at h1
            omega
          have HB9 := Lib.hid (HBY.out w9 HC9.out)
          by_cases hlt : k < ds.length
          · obtain ⟨q, hq⟩ : ∃ q, ds[k]? = some q := ⟨_, List.getElem?_eq_getElem hlt⟩
            have hqm := List.mem_of_getElem? hq
            obtain ⟨A', c', hAc, hcells⟩ := own_cells (f := DV.cells) (fun a => rfl) HO3.out
            obtain ⟨bd, hAd, hbd, hcl⟩ := hcells k q hq
            cases hAc
            subst hAd
            have e0 : w4.cell? ⟨bd, k * 2, none⟩ = some (.string (str q.left)) := hcl 0 (by omega)
            have e1 : w4.cell? ⟨bd, k * 2 + 1, none⟩ = some q.v := hcl 1 (by omega)
            obtain ⟨Aq, cq, hqv⟩ := own_shape (HO4.out q hqm)
            have hqr := HO4.out q hqm
            rw [hqv] at e1 hqr
            have harr := arr_nv hqr (by have := HR8.out q hqm; omega)
            have hq8 := HR8.out q hqm
            have HQC := Lib.hid (show ∀ m s, q.right[m]? = some s → ∃ b off, Aq = some ⟨b, off, none⟩ ∧ b < w4.heap.size ∧ w4.cell? ⟨b, off + m, none⟩ = some (.string (str s)) from fun m s hm => by
              obtain ⟨⟨A2, c2, hv, hc⟩, -⟩ := harr
              injection hv with e1 e2 e3
              subst e1
              exact hc m (str s) (by rw [List.getElem?_map, hm]; rfl))
            have HRN : Hid ((R.map RuG.g) ++ [(findN (T ++ N) q.left, q.right.map (findN (T ++ N)))] = (ds.take (k + 1)).map (fun q => (findN (T ++ N) q.left, q.right.map (findN (T ++ N))))) := Lib.hid (by
              rw [HRM.out, List.take_add_one, hq]
              simp)
            have q3 : (k : Int) < (ds.length : Int) := by omega
            have HSIX : Hid (∀ y, Below w9.heap.size w9 y → y.cell? ⟨w4.heap.size, 0, none⟩ = some (.slice At T.length ct) ∧ y.cell? ⟨w4.heap.size, 1, none⟩ = some (.slice An N.length cn) ∧ y.cell? ⟨w4.heap.size, 2, none⟩ = some (.slice AR R.length cR) ∧ y.cell? ⟨w4.heap.size, 3, none⟩ = some (.int .i64 (findN (T ++ N) t0.s : Nat)) ∧ y.cell? ⟨bd, k * 2, none⟩ = some (.string (str q.left)) ∧ y.cell? ⟨bd, k * 2 + 1, none⟩ = some (.slice Aq q.right.length cq)) := Lib.hid (fun y hy => by
              obtain ⟨a0, a1, a2, a3⟩ := blk4 (HG9.out.below hy HG9.out.lt)
              have h4y := Chg.of_below (X := fun _ => False) (HB9.out.trans (hy.mono HB9.out.size))
              exact ⟨a0, a1, a2, a3, (h4y.cell hbd id).trans e0, (h4y.cell hbd id).trans e1⟩)
            have HCD : Hid (Chg (· = w4.heap.size) W5 w9.drew) := Lib.hid HC9.out.drew
            have HFQ := Lib.hid (fun y (hy : Chg (· = w4.heap.size) W5 y) => HFI.out y (findN (T ++ N) t0.s : Nat) q.left (AR, R.length, cR) hy)
            have hbd9 : bd < w9.heap.size := Nat.lt_of_lt_of_le hbd HB9.out.size
            clear hq hqm hcells hcl e0 e1 hqv hqr harr
            generalize hF : findN (T ++ N) q.left = f at *
            have HFE := Lib.hid hF
            clear hF
            go_wp2
            go_region_held3 (fun w' => w'.cell? ⟨w4.heap.size, 0, none⟩ = some (.slice At T.length ct) ∧ w'.cell? ⟨w4.heap.size, 1, none⟩ = some (.slice An N.length cn) ∧ w'.cell? ⟨w4.heap.size, 2, none⟩ = some (.slice AR R.length cR) ∧ w'.cell? ⟨w4.heap.size, 3, none⟩ = some (.int .i64 (findN (T ++ N) t0.s : Nat)) ∧ w'.cell? ⟨bd, k * 2, none⟩ = some (.string (str q.left)) ∧ w'.cell? ⟨bd, k * 2 + 1, none⟩ = some (.slice Aq q.right.length cq))
              (first | exact HSIX.out _ ⟨rfl, rfl, rfl, Nat.le_refl _, fun _ _ => rfl⟩ | exact HSIX.out _ ((below_drewD w9).alloc (Nat.le_refl _) _) | exact HSIX.out _ HZ.out | exact HSIX.out _ (HZ.out.alloc HZ.out.size _) | exact HSIX.out _ ((HZ.out.setCell (by simp) _).setCell (by simp) _) | exact HSIX.out _ ((HZ.out.setCell (by simp; exact HZ.out.size) _).setCell (by simp; exact HZ.out.size) _))
              (first
                | (go_at_call 26
                   refine (HFQ.out _ (by first | exact HCD.out | exact HCD.out.alloc _)).mono ?_
                   rintro e wz ⟨rfl, hbz⟩
                   have HZ : Hid (Below w9.heap.size w9 wz) := Lib.hid ((by first | exact below_drewD w9 | exact (below_drewD w9).alloc (Nat.le_refl _) _ : Below w9.heap.size w9 _).trans (hbz.mono (by simp)))
                   try (have HRBz : Hid (Blk wz w9.heap.size 68 #[.int .i64 0, .slice none 0 0]) := Lib.hid ((Blk.new w9.drew 68 #[.int .i64 0, .slice none 0 0]).below hbz (by simp)); obtain ⟨zr0, zr1⟩ := blk2 HRBz.out; have vr0 := HRBz.out.frozen 0; have vr1 := HRBz.out.frozen 1; have hlz := HRBz.out.lt)
                   clear hbz))
            all_goals first
              | (have HRX : Hid (Blk ((wz.setCell ⟨w9.heap.size, 0, none⟩ (.int .i64 f)).setCell ⟨w9.heap.size, 1, none⟩ (.slice none 0 0)) w9.heap.size 68 #[.int .i64 f, .slice none 0 0]) := Lib.hid (set2_blk HRBz.out)
                 have HZX : Hid (Below w9.heap.size w9 ((wz.setCell ⟨w9.heap.size, 0, none⟩ (.int .i64 f)).setCell ⟨w9.heap.size, 1, none⟩ (.slice none 0 0))) := Lib.hid ((HZ.out.setCell (Nat.le_refl _) _).setCell (Nat.le_refl _) _)
                 clear HRBz zr0 zr1 vr0 vr1 hlz HZ
                 generalize ((wz.setCell ⟨w9.heap.size, 0, none⟩ (.int .i64 f)).setCell ⟨w9.heap.size, 1, none⟩ (.slice none 0 0)) = WR at *
                 obtain ⟨rb, hrb⟩ : ∃ rb, w9.heap.size = rb := ⟨_, rfl⟩
                 have HRL : Hid (w9.heap.size ≤ rb) := Lib.hid (by omega)
                 replace HRX := Lib.hid (hrb ▸ HRX.out)
                 rw [hrb]
                 clear hrb)
              | (have HRX : Hid (Blk (wz.alloc (.cells #[.int .i64 f, .slice none 0 0] 68)) wz.heap.size 68 #[.int .i64 f, .slice none 0 0]) := Lib.hid (Blk.new wz 68 _)
                 have HZX : Hid (Below w9.heap.size w9 (wz.alloc (.cells #[.int .i64 f, .slice none 0 0] 68))) := Lib.hid (HZ.out.alloc HZ.out.size _)
                 have HZL := Lib.hid HZ.out.size
                 clear HZ
                 generalize (wz.alloc (.cells #[.int .i64 f, .slice none 0 0] 68)) = WR at *
                 obtain ⟨rb, hrb⟩ : ∃ rb, wz.heap.size = rb := ⟨_, rfl⟩
                 have HRL : Hid (w9.heap.size ≤ rb) := Lib.hid (by have := HZL.out; omega)
                 replace HRX := Lib.hid (hrb ▸ HRX.out)
                 rw [hrb]
                 clear hrb HZL)
            all_goals (
              have HZY := Lib.hid (fun y (hy : Chg (· = rb) WR y) => (HZX.out.trans (hy.below HZX.out.size (fun i hi e => by have := HRL.out; omega)) : Below w9.heap.size w9 y))
              have hrl := HRX.out.lt
              have hRW : w4.heap.size + 1 ≤ WR.heap.size := by have := HG9.out.lt; have := HZX.out.size; omega
              go_wp2
              go_loopw [11] (fun i2 wy => ∃ (m : Nat) (rv2 : Value), i2 = .int .i64 m ∧ m ≤ q.right.length ∧ Hid (Blk wy rb 68 #[.int .i64 f, rv2]) ∧ Hid (wy.ownsRow WR.heap.size 3 1 rv2 m (((q.right.take m).map (findN (T ++ N))).map Mark)) ∧ Hid (Chg (· = rb) WR wy)) (fun i2 _ => q.right.length - (intOf i2).toNat)
              case atStart => exact ⟨0, _, rfl, Nat.zero_le _, HRX, Lib.hid (World.ownsRow_nil _ _ _ _), Lib.hid (Chg.refl _ _)⟩
              case round =>
                rename World => wy
                obtain ⟨m, rv2, rfl, hm, HRY, HOY, HCY⟩ := hrel
                obtain ⟨Ax, cx, hrv⟩ := own_shape HOY.out
                subst hrv
                have HBY9 := Lib.hid (HZY.out wy HCY.out)
                obtain ⟨a0, a1, a2, a3, a4, a5⟩ := HSIX.out wy HBY9.out
                obtain ⟨b0', b1'⟩ := blk2 HRY.out
                have hyl := HRY.out.lt
                have hgy : w4.heap.size < wy.heap.size := Nat.lt_of_lt_of_le HG9.out.lt HBY9.out.size
                have hby : bd < wy.heap.size := Nat.lt_of_lt_of_le hbd9 HBY9.out.size
                by_cases hlt2 : m < q.right.length
                · obtain ⟨s2, hs2⟩ : ∃ s2, q.right[m]? = some s2 := ⟨_, List.getElem?_eq_getElem hlt2⟩
                  obtain ⟨b3, o3, hA3, hb3, hc3⟩ := HQC.out m s2 hs2
                  subst hA3
                  have HTK : Hid ((q.right.take (m + 1)).map (findN (T ++ N)) = (q.right.take m).map (findN (T ++ N)) ++ [findN (T ++ N) s2]) := Lib.hid (by rw [List.take_add_one, hs2]; simp)
                  have HS2Y : Hid (∀ y, Chg (· = rb) WR y → y.cell? ⟨w4.heap.size, 0, none⟩ = some (.slice At T.length ct) ∧ y.cell? ⟨w4.heap.size, 1, none⟩ = some (.slice An N.length cn) ∧ y.cell? ⟨w4.heap.size, 2, none⟩ = some (.slice AR R.length cR) ∧ y.cell? ⟨w4.heap.size, 3, none⟩ = some (.int .i64 (findN (T ++ N) t0.s : Nat)) ∧ y.cell? ⟨bd, k * 2 + 1, none⟩ = some (.slice (some ⟨b3, o3, none⟩) q.right.length cq) ∧ y.cell? ⟨b3, o3 + m, none⟩ = some (.string (str s2))) := Lib.hid (fun y hy => by
                    obtain ⟨c0, c1, c2, c3, c4, c5⟩ := HSIX.out y (HZY.out y hy)
                    have h4y := Chg.of_below (X := fun _ => False) (HB9.out.trans ((HZY.out y hy).mono HB9.out.size))
                    exact ⟨c0, c1, c2, c3, c5, (h4y.cell hb3 id).trans hc3⟩)
                  have HQ1 : Hid (Chg (· = rb) WR wy.drew) := Lib.hid HCY.out.drew
                  have HFQ2 := Lib.hid (HFI.out wy.drew (findN (T ++ N) t0.s : Nat) s2 (AR, R.length, cR) (HC9.out.next (.of_below (HZY.out _ HQ1.out))))
                  have HRYD := Lib.hid HRY.out.drew
                  have HOYD := Lib.hid (((Chg.refl (fun _ => False) wy).drew).own HOY.out (fun _ _ => id))
                  have q4 : (m : Int) < (q.right.length : Int) := by omega
                  have hb3y : b3 < wy.heap.size := Nat.lt_of_lt_of_le hb3 (Nat.le_trans HB9.out.size HBY9.out.size)
                  have HLEN : Hid (((q.right.take m).map (findN (T ++ N))).length = m) := Lib.hid (by rw [List.length_map, List.length_take]; omega)
                  generalize hF2 : findN (T ++ N) s2 = f2 at *
                  clear hF2 hs2 hc3
                  go_wp2
                  obtain ⟨u0', u1', u2', u3'', u4', u5'⟩ := HS2Y.out wy HCY.out
                  go_region_law (first
                      | (go_simp; go_at_call 26
                         with_reducible refine HFQ2.out.mono ?_
                         rintro e wq ⟨rfl, hbq⟩
                         have HQ2 : Hid (Chg (· = rb) WR wq) := Lib.hid (HQ1.out.next (.of_below hbq))
                         have HRQ := Lib.hid (HRYD.out.below hbq HRYD.out.lt)
                         have HOQ := Lib.hid ((Chg.of_below (X := fun _ => False) hbq).own HOYD.out (fun _ _ => id))
                         obtain ⟨y0, y1⟩ := blk2 HRQ.out
                         have hyq := HRQ.out.lt
                         have hsq := HQ2.out.size
                         clear hbq)
                      | (refine step_app ElIntR (.tmp 89) (.tmp 100) ?_ ?_ (base := WR.heap.size) (n := m) (m := 1) (N := m + 1) (v := .slice Ax m cx) (src := .slice (some ⟨wq.heap.size, 0, none⟩) 1 1) (xs := ((q.right.take m).map (findN (T ++ N))).map Mark) (news := [.int .i64 f2]) ?_ ?_ ?_ ?_ ?_ ?_ ?_ ?_ ?_
                         · rfl
                         · rfl
                         · rfl
                         · rfl
                         · exact HOQ.out.alloc _
                         · exact src_int wq _
                         · rfl
                         · unfold maxLen; omega
                         · omega
                         · simp; omega
                         intro A5 c5 w5 r1 r2 r3
                         have r3' : Grew wq (.cells #[.int .i64 f2] 3) w5 (.slice Ax m cx) (.slice A5 (m + 1) c5) := r3
                         have HQ3 : Hid (Chg (· = rb) WR w5) := Lib.hid (HQ2.out.trans r3'.chg (fun i hi e => by have := (own_ge HOQ.out i e).1; omega))
                         have hb5 := r3'.chg.blk HRQ.out (own_blk (t := 3) (cs := #[]) HOQ.out hrl)
                         have HR5 := Lib.hid hb5
                         have HO5 := Lib.hid (own_far2 (i := 1) (x := .slice A5 (m + 1) c5) r1 hrl)
                         obtain ⟨-, cA⟩ := blk2 hb5
                         have vA := hb5.frozen 1
                         clear r1 r2 r3 r3' hb5))
                  all_goals go_wp2
                  all_goals go_roundw
                  all_goals first
                    | (case measure => simp [intOf]; omega)
                    | (case rel =>
                        refine ⟨m + 1, .slice A5 (m + 1) c5, by go_num, by omega, Lib.hid (by simpa using HR5.out.set_ 1 (.slice A5 (m + 1) c5)), Lib.hid ?_, Lib.hid (HQ3.out.set (p := ⟨rb, 1, none⟩) (.inr rfl) _)⟩
                        rw [HTK.out, List.map_append]
                        exact HO5.out)
                    | skip
                · obtain rfl : m = q.right.length := by omega
                  have HRE : Hid (q.right.take q.right.length = q.right) := Lib.hid List.take_length
                  have HOE := Lib.hid HOY.out
                  rw [HRE.out] at HOE
                  have HRW9 := Lib.hid ((Chg.of_below (X := fun _ => False) HBY9.out).own HRW.out (fun _ _ => id))
                  have HRI9 := Lib.hid (fun u hu => (Chg.of_below (X := fun _ => False) HBY9.out).own (HRI.out u hu) (fun _ _ => id))
                  have HGY := Lib.hid (HG9.out.below HBY9.out HG9.out.lt)
                  have HC9Y : Hid (Chg (· = w4.heap.size) W5 wy) := Lib.hid (HC9.out.next (.of_below HBY9.out))
                  have hRWy : WR.heap.size ≤ wy.heap.size := HCY.out.size
                  have vg2 := HGY.out.frozen 2
                  have hds1 : k < 100000 := by omega
                  go_wp2_with (first
                    | (at_builtin
                       refine wpList_app ElRu (.tmp 104) (.tmp 106) rfl rfl (base := w4.heap.size + 1) (n := R.length) (m := 1) (N := R.length + 1) (xs := R.flatMap RuG.cells) (news := [.int .i64 f, .slice Ax q.right.length cx]) rfl rfl (HRW9.out.alloc _) (src_ruD wy _ _ _ _) rfl (by unfold maxLen; omega) (by omega) (by rw [World.size_alloc]; omega) ?_
                       intro A8 c8 w8 r1 r2 r3
                       have r3' : Grew wy (.cells #[.int .i64 f, .slice Ax q.right.length cx] 68) w8 (.slice AR R.length cR) (.slice A8 (R.length + 1) c8) := r3
                       have hb8 := r3'.chg.blk HGY.out (own_blk (t := 68) (cs := #[]) HRW9.out (Nat.lt_succ_self _))
                       have HG8 := Lib.hid hb8
                       have HO8 := Lib.hid (own_far2 (i := 2) (x := .slice A8 (R.length + 1) c8) r1 (Nat.lt_succ_self w4.heap.size))
                       have HI8 := Lib.hid (fun (u : Value) (n : Nat) (ys : List Value) (B : Nat) (hB : w4.heap.size < B) (hu : wy.ownsRow B 3 1 u n ys) => own_far2 (i := 2) (x := .slice A8 (R.length + 1) c8) (r3'.chg.own hu (fun g h1 h2 => own_apart HRW9.out hu (by decide) g h2 h1)) hB)
                       have HC8 : Hid (Chg (· = w4.heap.size) W5 (w8.setCell ⟨w4.heap.size, 2, none⟩ (.slice A8 (R.length + 1) c8))) := Lib.hid ((HC9Y.out.trans r3'.chg (fun i hi e => by have := (own_ge HRW9.out i e).1; have := HS5.out; omega)).set (p := ⟨w4.heap.size, 2, none⟩) (.inr rfl) _)
                       obtain ⟨-, -, cA, -⟩ := blk4 hb8
                       have vA := hb8.frozen 2
                       clear r1 r2 r3 r3' hb8))
                  go_roundw
                  case rel =>
                    refine ⟨k + 1, _, R ++ [⟨f, .slice Ax q.right.length cx, q.right.map (findN (T ++ N))⟩], by go_num, by omega, Lib.hid ?_, Lib.hid (by simpa using HG8.out.set_ 2 (.slice A8 (R.length + 1) c8)), Lib.hid ?_, Lib.hid ?_, HC8⟩
                    · rw [List.map_append, ← HRN.out, ← HFE.out]
                      rfl
                    · have e2 : (R ++ [(⟨f, .slice Ax q.right.length cx, q.right.map (findN (T ++ N))⟩ : RuG)]).length = R.length + 1 := by simp
                      rw [e2, List.flatMap_append]
                      exact (by simpa [List.flatMap, RuG.cells] using HO8.out)
                    · intro u hu
                      rcases List.mem_append.1 hu with hu | hu
                      · exact HI8.out _ _ _ _ (Nat.lt_succ_self _) (HRI9.out u hu)
                      · rw [List.mem_singleton] at hu
                        subst hu
                        have h1 := own_mono HOE.out hRW
                        have h2 := HI8.out _ _ _ _ (Nat.lt_succ_self _) h1
                        have e3 : (q.right.map (findN (T ++ N))).length = q.right.length := List.length_map _
                        show World.ownsRow _ _ _ _ _ (q.right.map (findN (T ++ N))).length _
                        rw [e3]
                        exact h2
                  case measure => simp [intOf]; omega)
          · obtain rfl : k = ds.length := by omega
            have hws := HSZ.out
            have h3s := HB3.out.size
            have h4s := H34.out.size
            have h9s := HB9.out.size
            have HBE := Lib.hid (HB3.out.trans ((H34.out.trans (HB9.out.mono h4s)).mono h3s))
            have HRE := Lib.hid (HR0.out.below HBE.out HR0.out.lt)
            have HFE := Lib.hid (HF0.out.below HBE.out HF0.out.lt)
            obtain ⟨o0, o1, o2, o3⟩ := blk4 HRE.out
            obtain ⟨p0, p1⟩ := blk2 HFE.out
            have u0' := HRE.out.frozen 0
            have u1' := HRE.out.frozen 1
            have u2' := HRE.out.frozen 2
            have u3' := HRE.out.frozen 3
            have v0' := HFE.out.frozen 0
            have v1' := HFE.out.frozen 1
            have hrl9 := HRE.out.lt
            have hfl9 := HFE.out.lt
            have HSZ4 := Lib.hid (And.intro hws (And.intro h3s (And.intro h4s h9s)))
            clear hws h3s h4s h9s
            go_wp2
            have hR4 : Blk ((((((w9.setCell ⟨w.heap.size, 0, none⟩ (.slice At T.length ct)).setCell ⟨w.heap.size, 1, none⟩ (.slice An N.length cn)).setCell ⟨w.heap.size, 2, none⟩ (.slice AR R.length cR)).setCell ⟨w.heap.size, 3, none⟩ (.int .i64 (findN (T ++ N) t0.s : Nat))).setCell ⟨w.heap.size + 1, 0, none⟩ (.int .i64 0)).setCell ⟨w.heap.size + 1, 1, none⟩ (.int .i64 0)) w.heap.size 30 #[.slice At T.length ct, .slice An N.length cn, .slice AR R.length cR, .int .i64 (findN (T ++ N) t0.s : Nat)] :=
              ((set4_blk' HRE.out).far (p := ⟨w.heap.size + 1, 0, none⟩) (by simp) _).far (p := ⟨w.heap.size + 1, 1, none⟩) (by simp) _
            have hF2 : Blk ((((((w9.setCell ⟨w.heap.size, 0, none⟩ (.slice At T.length ct)).setCell ⟨w.heap.size, 1, none⟩ (.slice An N.length cn)).setCell ⟨w.heap.size, 2, none⟩ (.slice AR R.length cR)).setCell ⟨w.heap.size, 3, none⟩ (.int .i64 (findN (T ++ N) t0.s : Nat))).setCell ⟨w.heap.size + 1, 0, none⟩ (.int .i64 0)).setCell ⟨w.heap.size + 1, 1, none⟩ (.int .i64 0)) (w.heap.size + 1) 34 #[.int .i64 0, .int .i64 0] :=
              set2_blk ((((HFE.out.far (p := ⟨w.heap.size, 0, none⟩) (by simp) _).far (p := ⟨w.heap.size, 1, none⟩) (by simp) _).far (p := ⟨w.heap.size, 2, none⟩) (by simp) _).far (p := ⟨w.heap.size, 3, none⟩) (by simp) _)
            have hX : Chg (fun k => k = w.heap.size ∨ k = w.heap.size + 1) w9 ((((((w9.setCell ⟨w.heap.size, 0, none⟩ (.slice At T.length ct)).setCell ⟨w.heap.size, 1, none⟩ (.slice An N.length cn)).setCell ⟨w.heap.size, 2, none⟩ (.slice AR R.length cR)).setCell ⟨w.heap.size, 3, none⟩ (.int .i64 (findN (T ++ N) t0.s : Nat))).setCell ⟨w.heap.size + 1, 0, none⟩ (.int .i64 0)).setCell ⟨w.heap.size + 1, 1, none⟩ (.int .i64 0)) :=
              ((((((Chg.refl (fun k => k = w.heap.size ∨ k = w.heap.size + 1) w9).set (p := ⟨w.heap.size, 0, none⟩) (.inr (.inl rfl)) _).set (p := ⟨w.heap.size, 1, none⟩) (.inr (.inl rfl)) _).set (p := ⟨w.heap.size, 2, none⟩) (.inr (.inl rfl)) _).set (p := ⟨w.heap.size, 3, none⟩) (.inr (.inl rfl)) _).set (p := ⟨w.heap.size + 1, 0, none⟩) (.inr (.inr rfl)) _).set (p := ⟨w.heap.size + 1, 1, none⟩) (.inr (.inr rfl)) _
            generalize ((((((w9.setCell ⟨w.heap.size, 0, none⟩ (.slice At T.length ct)).setCell ⟨w.heap.size, 1, none⟩ (.slice An N.length cn)).setCell ⟨w.heap.size, 2, none⟩ (.slice AR R.length cR)).setCell ⟨w.heap.size, 3, none⟩ (.int .i64 (findN (T ++ N) t0.s : Nat))).setCell ⟨w.heap.size + 1, 0, none⟩ (.int .i64 0)).setCell ⟨w.heap.size + 1, 1, none⟩ (.int .i64 0)) = FW at *
            obtain ⟨s0, s1, s2, s3⟩ := blk4 hR4
            obtain ⟨s4, s5⟩ := blk2 hF2
            refine bodyPost_ret (v := .tuple #[.agg #[.slice At T.length ct, .slice An N.length cn, .slice AR R.length cR, .int .i64 (findN (T ++ N) t0.s : Nat)], .agg #[.int .i64 0, .int .i64 0]]) (by simp [results, Tryd.results13, go_sem, s0, s1, s2, s3, s4, s5]) rfl ?_
            obtain ⟨hws, h3s, h4s, h9s⟩ := HSZ4.out
            have hown : ∀ {e : TypeId} {s n : Nat} {u : Value} {ys : List Value} {B : Nat}, w.heap.size + 2 ≤ B → w9.ownsRow B e s u n ys → FW.ownsRow w.heap.size e s u n ys := fun hB hu => own_mono (hX.own hu (fun g hg e => by have := (own_ge hu g hg).1; omega)) (by omega)
            have h49 := Chg.of_below (X := fun _ => False) HB9.out
            have hgs : g.s = findN (T ++ N) t0.s := by rw [← HG.out]; exact HSN.out _
            rw [List.take_length] at HRM
            refine ⟨_, _, _, R, by rw [hgs], ⟨?_, ?_, hown (by omega) HRW.out, fun q hq => hown (by omega) (HRI.out q hq), ?_⟩, (HB0.out.trans (HBE.out.mono HB0.out.size)).trans (hX.below (by omega) (fun i hi e => by omega))⟩
            · rw [← HG.out]
              exact hown (by omega) (h49.own HO1.out (fun _ _ => id))
            · rw [← HG.out]
              exact hown (by omega) (h49.own HO2.out (fun _ _ => id))
            · rw [HRM.out, ← HG.out, ← HDS.out]
              simp [DV.dn, Function.comp]
end Go.Proofs.YtnpjhndgdlihjaaDoor
