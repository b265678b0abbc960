/- The grammar, by names: where the text is right. -/
import Derived.Test.YtnpjhndgdlihjaaDoorZq
import Derived.Deep.DeepCutAuto
import Derived.Deep.RegionHeld3
namespace Go.Proofs.YtnpjhndgdlihjaaDoor
open Go.RowKit
set_option linter.unusedVariables false
theorem name_split {lf T N T' N' : List Nme} {D k : Nat} {d d' : List DN} {l : List PR} {r : PR} (h : nameF lf D T N d (l.drop k) = some (T', N', d')) (hr : l[k]? = some r) :
    (T.take (min D T.length)).contains r.left.s = false ∧ (N.contains r.left.s = true ∨ N.length < 120) ∧ ∃ T2 d2, sideF lf r.left.s T d r.sides = some (T2, d2) ∧ nameF lf D T2 (if N.contains r.left.s then N else N ++ [r.left.s]) d2 (l.drop (k + 1)) = some (T', N', d') := by
  have hd : l.drop k = r :: l.drop (k + 1) := by
    obtain ⟨hk, rfl⟩ := List.getElem?_eq_some_iff.1 hr
    exact List.drop_eq_getElem_cons hk
  rw [hd] at h
  unfold nameF at h
  cases h1 : (T.take (min D T.length)).contains r.left.s with
  | true => rw [h1, if_pos rfl] at h; cases h
  | false =>
    rw [h1, if_neg (by simp)] at h
    cases h2 : (!N.contains r.left.s && decide (120 ≤ N.length)) with
    | true => rw [h2, if_pos rfl] at h; cases h
    | false =>
      rw [h2, if_neg (by simp)] at h
      cases h3 : sideF lf r.left.s T d r.sides with
      | none => rw [h3] at h; cases h
      | some q =>
        obtain ⟨T2, d2⟩ := q
        rw [h3] at h
        refine ⟨rfl, ?_, T2, d2, rfl, h⟩
        cases h4 : N.contains r.left.s with
        | true => exact .inl rfl
        | false =>
          rw [h4] at h2
          simp at h2
          exact .inr h2
theorem declF_len : ∀ (l : List Tk) (T T1 : List Nme), declF T l = some T1 → T1.length = T.length + l.length ∧ (T.length ≤ 120 → T1.length ≤ 120)
  | [], T, T1, h => by unfold declF at h; cases h; exact ⟨rfl, id⟩
  | t :: r, T, T1, h => by
    unfold declF at h
    split at h
    · cases h
    · split at h
      · cases h
      · have := declF_len r _ _ h
        simp at this
        exact ⟨by rw [this.1]; simp; omega, fun _ => this.2 (by omega)⟩
theorem symF_len (lf : List Nme) : ∀ (l : List Tk) (T T1 : List Nme) (k : Nat), symF lf T k l = some T1 → T.length ≤ T1.length
  | [], T, T1, k, h => by unfold symF at h; cases h; exact Nat.le_refl _
  | t :: r, T, T1, k, h => by
    unfold symF at h
    split at h
    · cases h
    · split at h
      · exact symF_len lf r _ _ _ h
      · split at h
        · split at h
          · exact symF_len lf r _ _ _ h
          · cases h
        · split at h
          · split at h
            · cases h
            · have := symF_len lf r _ _ _ h
              simp at this
              omega
          · cases h
theorem sideF_len (lf : List Nme) (left : Nme) : ∀ (l : List PS) (T T1 : List Nme) (d d1 : List DN), sideF lf left T d l = some (T1, d1) → T.length ≤ T1.length
  | [], T, T1, d, d1, h => by unfold sideF at h; cases h; exact Nat.le_refl _
  | s :: r, T, T1, d, d1, h => by
    unfold sideF at h
    split at h
    · cases h
    · cases hs : symF lf T 0 s.l with
      | none => rw [hs] at h; cases h
      | some T2 =>
        rw [hs] at h
        dsimp only at h
        split at h
        · cases h
        · exact Nat.le_trans (symF_len lf _ _ _ _ hs) (sideF_len lf left r _ _ _ _ h)
theorem keep_same {B : Nat} {T : List TypeId} {a w : World} {fb : Nat} {t : TypeId} (h : Keeps B T a w) (hF : Blk w fb t #[.int .i64 0, .int .i64 0]) : Keeps B T a ((w.setCell ⟨fb, 0, none⟩ (.int .i64 0)).setCell ⟨fb, 1, none⟩ (.int .i64 0)) :=
  ⟨h.os, h.tape, h.output, by have := h.size; simpa [World.setCell] using this, fun k hk hc => by
    by_cases e : k = fb
    · subst e
      have h1 : Blk ((w.setCell ⟨k, 0, none⟩ (.int .i64 0)).setCell ⟨k, 1, none⟩ (.int .i64 0)) k t #[.int .i64 0, .int .i64 0] := set2_blk hF
      exact (h1.trans hF.symm).trans (h.block k hk hc)
    · exact ((Below.heap_setCell _ _ _ _ e).trans (Below.heap_setCell _ _ _ _ e)).trans (h.block k hk hc)⟩
theorem fb_done {w3 W : World} {gb fb n : Nat} {tv : Value} {xs : List Value} (hF : Blk w3 fb 34 #[.int .i64 0, .int .i64 0]) (hfl : gb + 2 ≤ fb) (hW : W.heap.size = gb + 2) (hG : Blk w3 gb 30 #[tv, .slice none 0 0, .slice none 0 0, .int .i64 0]) (hR : w3.ownsRow (gb + 2) 9 1 tv n xs) (hC : Chg (· = gb) W w3) :
    Hid (Blk ((w3.setCell ⟨fb, 0, none⟩ (.int .i64 0)).setCell ⟨fb, 1, none⟩ (.int .i64 0)) fb 34 #[.int .i64 0, .int .i64 0]) ∧ Hid (Blk ((w3.setCell ⟨fb, 0, none⟩ (.int .i64 0)).setCell ⟨fb, 1, none⟩ (.int .i64 0)) gb 30 #[tv, .slice none 0 0, .slice none 0 0, .int .i64 0]) ∧
      Hid (((w3.setCell ⟨fb, 0, none⟩ (.int .i64 0)).setCell ⟨fb, 1, none⟩ (.int .i64 0)).ownsRow (gb + 2) 9 1 tv n xs) ∧ Hid (Chg (· = gb) W ((w3.setCell ⟨fb, 0, none⟩ (.int .i64 0)).setCell ⟨fb, 1, none⟩ (.int .i64 0))) := by
  have hX : Chg (· = fb) w3 ((w3.setCell ⟨fb, 0, none⟩ (.int .i64 0)).setCell ⟨fb, 1, none⟩ (.int .i64 0)) := ((Chg.refl (· = fb) w3).set (p := ⟨fb, 0, none⟩) (.inr rfl) _).set (p := ⟨fb, 1, none⟩) (.inr rfl) _
  refine ⟨Lib.hid (set2_blk hF), Lib.hid (hX.blk hG (by omega)), Lib.hid (hX.own hR (fun g hg e => own_blk_ne hR hF (by decide) (by rw [hg, e]))), Lib.hid (hC.trans hX (fun i hi e => by omega))⟩
/-- Behind the naming. -/
def NamesEnd (w : World) (T N : List Nme) (d : List DN) (e : Ending) (w' : World) : Prop :=
  ∃ (tv nv dv : Value) (ds : List DV), ds.map DV.dn = d ∧ e = .returned (.tuple #[.agg #[tv, nv, .slice none 0 0, .int .i64 0], dv, .agg #[.int .i64 0, .int .i64 0]]) ∧ T.length ≤ 120 ∧ N.length ≤ 120 ∧ (∀ q ∈ ds, q.right.length ≤ 8) ∧
    w'.ownsRow w.heap.size 9 1 tv T.length (T.map Nv) ∧ w'.ownsRow w.heap.size 9 1 nv N.length (N.map Nv) ∧ w'.ownsRow w.heap.size 65 2 dv ds.length (ds.flatMap DV.cells) ∧ (∀ q ∈ ds, w'.ownsRow w.heap.size 9 1 q.v q.right.length (q.right.map Nv)) ∧ Below w.heap.size w w'
set_option maxRecDepth 100000 in
set_option maxHeartbeats 6400000 in
theorem namesD_any {w : World} {xdv xkv xsv xrv : Value} {x : Txt} {T N : List Nme} {d : List DN} (h : TxR w xdv xkv xsv xrv x) (hn : namesF x = some (T, N, d)) (hne : x.decl ≠ []) : Calls Tryd.prog 25 #[.agg #[xdv, xkv, xsv, xrv]] w (NamesEnd w T N d) := by
  have HTX := Lib.hid (fun y (hy : Below w.heap.size w y) => h.later hy)
  have HTX0 := Lib.hid h
  obtain ⟨ml, m1, m2⟩ := h.marks
  obtain ⟨⟨A1, c1, rfl, -⟩, hdl⟩ := h.decl
  obtain ⟨⟨A2, c2, rfl, -⟩, -⟩ := m2
  obtain ⟨⟨A3, c3, rfl, -⟩, -⟩ := h.starts
  have hr := h.rules
  obtain ⟨⟨A4, c4, rfl, hc⟩, hrl⟩ := hr
  have HC := Lib.hid (fun (y : World) (hy : Below w.heap.size w y) (k : Nat) (r : PR) (hk : x.rules[k]? = some r) => (by
    obtain ⟨b, off, sv, hA, hlt, k1, k2, k3, k4, k5⟩ := hc k r hk
    have hcy := Chg.of_below (X := fun _ => False) hy
    exact ⟨b, off, sv, hA, hlt, (hcy.cell hlt id).trans k1, (hcy.cell hlt id).trans k2, (hcy.cell hlt id).trans k3, (hcy.cell hlt id).trans k4, k5⟩ : ∃ b off sv, A4 = some ⟨b, off, none⟩ ∧ b < w.heap.size ∧ y.cell? ⟨b, off + k * 4, none⟩ = some (.int .i64 r.left.k) ∧ y.cell? ⟨b, off + k * 4 + 1, none⟩ = some (.string (str r.left.s)) ∧ y.cell? ⟨b, off + k * 4 + 2, none⟩ = some (.int .i64 r.left.p) ∧ y.cell? ⟨b, off + k * 4 + 3, none⟩ = some sv ∧ Sds w sv r.sides))
  have hdp : 0 < x.decl.length := List.length_pos_iff.2 hne
  unfold namesF at hn
  cases hd : declF [] x.decl with
  | none => rw [hd] at hn; cases hn
  | some T0 =>
    rw [hd] at hn
    dsimp only at hn
    cases hs : startF x with
    | false => rw [hs, if_neg (by simp)] at hn; cases hn
    | true =>
      rw [hs, if_pos rfl] at hn
      have hlen := declF_len _ _ _ hd
      have HTL := Lib.hid (And.intro hlen.1 (hlen.2 (Nat.zero_le _)))
      clear hlen
      have HD0 := Lib.hid hd
      have HS0 := Lib.hid hs
      have HN0 : Hid (nameF (lefts x) x.decl.length T0 [] [] (x.rules.drop 0) = some (T, N, d)) := Lib.hid hn
      have HZ : Hid ((((((w.alloc (.cells #[.slice A1 x.decl.length c1, .slice A2 ml.length c2, .slice A3 x.starts.length c3, .slice A4 x.rules.length c4] 52)).alloc (.cells #[.slice none 0 0, .slice none 0 0, .slice none 0 0, .int .i64 0] 30)).alloc (.cells #[.int .i64 0, .int .i64 0] 34)).alloc (.cells #[.slice none 0 0, .slice none 0 0, .slice none 0 0, .int .i64 0] 30)).alloc (.cells #[.slice none 0 0] 55)).heap.size = w.heap.size + 1 + 1 + 1 + 1 + 1) := Lib.hid (by simp)
      have HBW : Hid (Below w.heap.size w (((((w.alloc (.cells #[.slice A1 x.decl.length c1, .slice A2 ml.length c2, .slice A3 x.starts.length c3, .slice A4 x.rules.length c4] 52)).alloc (.cells #[.slice none 0 0, .slice none 0 0, .slice none 0 0, .int .i64 0] 30)).alloc (.cells #[.int .i64 0, .int .i64 0] 34)).alloc (.cells #[.slice none 0 0, .slice none 0 0, .slice none 0 0, .int .i64 0] 30)).alloc (.cells #[.slice none 0 0] 55))) := Lib.hid (((((below_alloc w _).alloc (by simp) _).alloc (by simp; omega) _).alloc (by simp; omega) _).alloc (by simp; omega) _)
      have HX : Hid (Blk (((((w.alloc (.cells #[.slice A1 x.decl.length c1, .slice A2 ml.length c2, .slice A3 x.starts.length c3, .slice A4 x.rules.length c4] 52)).alloc (.cells #[.slice none 0 0, .slice none 0 0, .slice none 0 0, .int .i64 0] 30)).alloc (.cells #[.int .i64 0, .int .i64 0] 34)).alloc (.cells #[.slice none 0 0, .slice none 0 0, .slice none 0 0, .int .i64 0] 30)).alloc (.cells #[.slice none 0 0] 55)) w.heap.size 52 #[.slice A1 x.decl.length c1, .slice A2 ml.length c2, .slice A3 x.starts.length c3, .slice A4 x.rules.length c4]) := Lib.hid (((((Blk.new w 52 _).alloc _).alloc _).alloc _).alloc _)
      have HR : Hid (Blk (((((w.alloc (.cells #[.slice A1 x.decl.length c1, .slice A2 ml.length c2, .slice A3 x.starts.length c3, .slice A4 x.rules.length c4] 52)).alloc (.cells #[.slice none 0 0, .slice none 0 0, .slice none 0 0, .int .i64 0] 30)).alloc (.cells #[.int .i64 0, .int .i64 0] 34)).alloc (.cells #[.slice none 0 0, .slice none 0 0, .slice none 0 0, .int .i64 0] 30)).alloc (.cells #[.slice none 0 0] 55)) (w.heap.size + 1) 30 #[.slice none 0 0, .slice none 0 0, .slice none 0 0, .int .i64 0]) := Lib.hid (by
        have h1 := (((Blk.new (w.alloc (.cells #[.slice A1 x.decl.length c1, .slice A2 ml.length c2, .slice A3 x.starts.length c3, .slice A4 x.rules.length c4] 52)) 30 #[.slice none 0 0, .slice none 0 0, .slice none 0 0, .int .i64 0]).alloc (.cells #[.int .i64 0, .int .i64 0] 34)).alloc (.cells #[.slice none 0 0, .slice none 0 0, .slice none 0 0, .int .i64 0] 30)).alloc (.cells #[.slice none 0 0] 55)
        rwa [World.size_alloc] at h1)
      have HF : Hid (Blk (((((w.alloc (.cells #[.slice A1 x.decl.length c1, .slice A2 ml.length c2, .slice A3 x.starts.length c3, .slice A4 x.rules.length c4] 52)).alloc (.cells #[.slice none 0 0, .slice none 0 0, .slice none 0 0, .int .i64 0] 30)).alloc (.cells #[.int .i64 0, .int .i64 0] 34)).alloc (.cells #[.slice none 0 0, .slice none 0 0, .slice none 0 0, .int .i64 0] 30)).alloc (.cells #[.slice none 0 0] 55)) (w.heap.size + 1 + 1) 34 #[.int .i64 0, .int .i64 0]) := Lib.hid (by
        have h1 := ((Blk.new ((w.alloc (.cells #[.slice A1 x.decl.length c1, .slice A2 ml.length c2, .slice A3 x.starts.length c3, .slice A4 x.rules.length c4] 52)).alloc (.cells #[.slice none 0 0, .slice none 0 0, .slice none 0 0, .int .i64 0] 30)) 34 #[.int .i64 0, .int .i64 0]).alloc (.cells #[.slice none 0 0, .slice none 0 0, .slice none 0 0, .int .i64 0] 30)).alloc (.cells #[.slice none 0 0] 55)
        rwa [World.size_alloc, World.size_alloc] at h1)
      have HG : Hid (Blk (((((w.alloc (.cells #[.slice A1 x.decl.length c1, .slice A2 ml.length c2, .slice A3 x.starts.length c3, .slice A4 x.rules.length c4] 52)).alloc (.cells #[.slice none 0 0, .slice none 0 0, .slice none 0 0, .int .i64 0] 30)).alloc (.cells #[.int .i64 0, .int .i64 0] 34)).alloc (.cells #[.slice none 0 0, .slice none 0 0, .slice none 0 0, .int .i64 0] 30)).alloc (.cells #[.slice none 0 0] 55)) (w.heap.size + 1 + 1 + 1) 30 #[.slice none 0 0, .slice none 0 0, .slice none 0 0, .int .i64 0]) := Lib.hid (by
        have h1 := (Blk.new (((w.alloc (.cells #[.slice A1 x.decl.length c1, .slice A2 ml.length c2, .slice A3 x.starts.length c3, .slice A4 x.rules.length c4] 52)).alloc (.cells #[.slice none 0 0, .slice none 0 0, .slice none 0 0, .int .i64 0] 30)).alloc (.cells #[.int .i64 0, .int .i64 0] 34)) 30 #[.slice none 0 0, .slice none 0 0, .slice none 0 0, .int .i64 0]).alloc (.cells #[.slice none 0 0] 55)
        rwa [World.size_alloc, World.size_alloc, World.size_alloc] at h1)
      have HDB : Hid (Blk (((((w.alloc (.cells #[.slice A1 x.decl.length c1, .slice A2 ml.length c2, .slice A3 x.starts.length c3, .slice A4 x.rules.length c4] 52)).alloc (.cells #[.slice none 0 0, .slice none 0 0, .slice none 0 0, .int .i64 0] 30)).alloc (.cells #[.int .i64 0, .int .i64 0] 34)).alloc (.cells #[.slice none 0 0, .slice none 0 0, .slice none 0 0, .int .i64 0] 30)).alloc (.cells #[.slice none 0 0] 55)) (w.heap.size + 1 + 1 + 1 + 1) 55 #[.slice none 0 0]) := Lib.hid (by
        have h1 := Blk.new ((((w.alloc (.cells #[.slice A1 x.decl.length c1, .slice A2 ml.length c2, .slice A3 x.starts.length c3, .slice A4 x.rules.length c4] 52)).alloc (.cells #[.slice none 0 0, .slice none 0 0, .slice none 0 0, .int .i64 0] 30)).alloc (.cells #[.int .i64 0, .int .i64 0] 34)).alloc (.cells #[.slice none 0 0, .slice none 0 0, .slice none 0 0, .int .i64 0] 30)) 55 #[.slice none 0 0]
        rwa [World.size_alloc, World.size_alloc, World.size_alloc, World.size_alloc] at h1)
      clear h m1 hc hn hd hs
      go_enter Tryd.func25, Tryd.ntmps25
      go_upto_region 3 with fail
      generalize (((((w.alloc (.cells #[.slice A1 x.decl.length c1, .slice A2 ml.length c2, .slice A3 x.starts.length c3, .slice A4 x.rules.length c4] 52)).alloc (.cells #[.slice none 0 0, .slice none 0 0, .slice none 0 0, .int .i64 0] 30)).alloc (.cells #[.int .i64 0, .int .i64 0] 34)).alloc (.cells #[.slice none 0 0, .slice none 0 0, .slice none 0 0, .int .i64 0] 30)).alloc (.cells #[.slice none 0 0] 55)) = W at *
      generalize hgb : w.heap.size + 1 + 1 + 1 = gb at *
      have HGB := Lib.hid hgb
      clear hgb
      have hg1 : w.heap.size + 3 = gb := by have := HGB.out; omega
      have hgw : w.heap.size ≤ gb := by omega
      have hWs : W.heap.size = gb + 2 := by have := HZ.out; omega
      have HGW := Lib.hid hgw
      have HDE := Lib.hid (fun y (hy : Below W.heap.size W y) => declareD_any HTX0.out (HBW.out.trans (hy.mono HBW.out.size)) hgw (HG.out.below hy HG.out.lt) HD0.out)
      have HST := Lib.hid (fun y (hy : Below w.heap.size w y) => startsD_any (HTX.out y hy) HS0.out)
      have HCB : Hid (∀ y, Chg (· = gb) W y → Below w.heap.size w y) := Lib.hid (fun y hy => HBW.out.trans (hy.below HBW.out.size (fun i hi e => by omega)))
      have HSIX : Hid (∀ w', Chg (· = gb) W w' → w'.cell? ⟨w.heap.size, 0, none⟩ = some (.slice A1 x.decl.length c1) ∧ w'.cell? ⟨w.heap.size, 1, none⟩ = some (.slice A2 ml.length c2) ∧ w'.cell? ⟨w.heap.size, 2, none⟩ = some (.slice A3 x.starts.length c3) ∧ w'.cell? ⟨w.heap.size, 3, none⟩ = some (.slice A4 x.rules.length c4)) := Lib.hid (fun y hy => blk4 (hy.blk HX.out (by omega)))
      have HGW2 : Hid (gb < W.heap.size) := Lib.hid HG.out.lt
      have HWS := Lib.hid hWs
      have HG1 := Lib.hid hg1
      clear hWs hg1 hgw
      go_cut [7] (fun p wx => ∃ (fb : Nat) (tv : Value), p = .pointer (some ⟨fb, 0, none⟩) ∧ gb + 2 ≤ fb ∧ Hid (Blk wx fb 34 #[.int .i64 0, .int .i64 0]) ∧ Hid (Blk wx gb 30 #[tv, .slice none 0 0, .slice none 0 0, .int .i64 0]) ∧ Hid (wx.ownsRow (gb + 2) 9 1 tv T0.length (T0.map Nv)) ∧ Hid (Chg (· = gb) W wx))
      case first =>
        go_region_held3 (fun w' => w'.cell? ⟨w.heap.size, 0, none⟩ = some (.slice A1 x.decl.length c1) ∧ w'.cell? ⟨w.heap.size, 1, none⟩ = some (.slice A2 ml.length c2) ∧ w'.cell? ⟨w.heap.size, 2, none⟩ = some (.slice A3 x.starts.length c3) ∧ w'.cell? ⟨w.heap.size, 3, none⟩ = some (.slice A4 x.rules.length c4))
          (first | exact HSIX.out _ HCC.out | exact HSIX.out _ ((Chg.refl _ W).drew) | exact HSIX.out _ (((Chg.refl _ W).drew).alloc _) | exact HSIX.out _ (HCC.out.alloc _) | exact HSIX.out _ ((HCC.out.set (.inl (by first | exact Nat.le_refl _ | (have := HWS.out; have := HFL.out; simp; omega))) _).set (.inl (by first | exact Nat.le_refl _ | (have := HWS.out; have := HFL.out; simp; omega))) _) | exact HSIX.out _ (((HCC.out.alloc _).set (.inl (by have := HCC.out.size; simp; omega)) _).set (.inl (by have := HCC.out.size; simp; omega)) _))
          (first
            | (go_at_call 43
               refine (HDE.out _ (by first | exact ⟨rfl, rfl, rfl, Nat.le_refl _, fun _ _ => rfl⟩ | exact (below_drewD W).alloc (Nat.le_refl _) _)).mono ?_
               rintro e w1 ⟨tv, rfl, hb, hrow, hch, hT⟩
               have HGA := Lib.hid hb
               have HCC : Hid (Chg (· = gb) W w1) := Lib.hid ((by first | exact (Chg.refl (· = gb) W).drew | exact ((Chg.refl (· = gb) W).drew.alloc _) : Chg (· = gb) W _).next hch)
               have HRW : Hid (w1.ownsRow (gb + 2) 9 1 tv T0.length (T0.map Nv)) := Lib.hid (own_mono hrow (by simp; have := HWS.out; omega))
               try (have HFB : Hid (Blk w1 W.heap.size 34 #[.int .i64 0, .int .i64 0]) := Lib.hid (hch.blk (Blk.new W.drew 34 #[.int .i64 0, .int .i64 0]) (by show ¬ W.heap.size = gb; have := HWS.out; omega)); have HFL : Hid (gb + 2 ≤ W.heap.size) := Lib.hid (by have := HWS.out; omega); obtain ⟨zf0, zf1⟩ := blk2 HFB.out; have vf0 := HFB.out.frozen 0; have vf1 := HFB.out.frozen 1; have hfl := HFB.out.lt)
               clear hb hrow hch hT)
            | (go_at_call 44
               refine (HST.out _ (by first | exact HCB.out _ HCC.out | exact HCB.out _ (HCC.out.alloc _))).mono ?_
               rintro e w2 ⟨rfl, hb2⟩
               have HY2 : Hid (Chg (fun _ => False) w1 w2) := Lib.hid ((by first | exact Chg.refl _ w1 | exact (Chg.refl _ w1).alloc _ : Chg (fun _ => False) w1 _).next (.of_below hb2))
               have HCC2 : Hid (Chg (· = gb) W w2) := Lib.hid (HCC.out.trans HY2.out (fun _ _ h => h.elim))
               have HG2 := Lib.hid (HY2.out.blk HGA.out id)
               have HRW2 := Lib.hid (HY2.out.own HRW.out (fun _ _ => id))
               first
                 | (have HFB2 := Lib.hid (HY2.out.blk HFB.out id); have HFL2 := HFL; clear HFB HFL)
                 | (have HFB2 := Lib.hid ((Blk.new w1 34 #[.int .i64 0, .int .i64 0]).below hb2 (by simp)); have HFL2 : Hid (gb + 2 ≤ w1.heap.size) := Lib.hid (by have := HCC.out.size; have := HWS.out; omega))
                 | skip
               clear HCC HGA HRW hb2
               have HCC := HCC2
               have HGA := HG2
               have HRW := HRW2
               clear HCC2 HG2 HRW2
               try (have HFB := HFB2; have HFL := HFL2; clear HFB2 HFL2; obtain ⟨zf0, zf1⟩ := blk2 HFB.out; have vf0 := HFB.out.frozen 0; have vf1 := HFB.out.frozen 1; have hfl := HFB.out.lt))
            | (go_at_call 42
               refine (firstD_any _).mono ?_
               rintro e w3 ⟨rfl, hb2⟩
               have HY3 : Hid (Chg (fun _ => False) w2 w3) := Lib.hid ((by first | exact Chg.refl _ w2 | exact (Chg.refl _ w2).alloc _ : Chg (fun _ => False) w2 _).next (.of_below hb2))
               have HCC3 : Hid (Chg (· = gb) W w3) := Lib.hid (HCC.out.trans HY3.out (fun _ _ h => h.elim))
               have HG3 := Lib.hid (HY3.out.blk HGA.out id)
               have HRW3 := Lib.hid (HY3.out.own HRW.out (fun _ _ => id))
               first
                 | (have HFB3 := Lib.hid (HY3.out.blk HFB.out id); have HFL3 := HFL; clear HFB HFL)
                 | (have HFB3 := Lib.hid ((Blk.new w2 34 #[.int .i64 0, .int .i64 0]).below hb2 (by simp)); have HFL3 : Hid (gb + 2 ≤ w2.heap.size) := Lib.hid (by have := HCC.out.size; have := HWS.out; omega))
                 | skip
               clear HCC HGA HRW hb2
               have HCC := HCC3
               have HGA := HG3
               have HRW := HRW3
               clear HCC3 HG3 HRW3
               try (have HFB := HFB3; have HFL := HFL3; clear HFB3 HFL3; obtain ⟨zf0, zf1⟩ := blk2 HFB.out; have vf0 := HFB.out.frozen 0; have vf1 := HFB.out.frozen 1; have hfl := HFB.out.lt)))
        all_goals go_wp2_with fail
        all_goals go_meet
        all_goals first
          | exact ⟨_, tv, rfl, HFL.out, fb_done HFB.out HFL.out HWS.out HGA.out HRW.out HCC.out⟩
          | exact ⟨w3.heap.size, tv, rfl, by have := HCC.out.size; have := HWS.out; omega, Lib.hid (Blk.new w3 _ _), Lib.hid (HGA.out.alloc _), Lib.hid (((Chg.refl (fun _ => False) w3).alloc _).own HRW.out (fun _ _ => id)), Lib.hid (HCC.out.alloc _)⟩
          | trace_state
      case rest =>
        obtain ⟨fb, tv0, rfl, hfb, HFB0, HGA0, HRW0, HCC0⟩ := hcut
        rename World => WX
        have HDB1 := Lib.hid (HCC0.out.blk HDB.out (by omega))
        have hgx : gb < WX.heap.size := HGA0.out.lt
        have hT0 : T0.length ≤ 120 := HTL.out.2
        have hT00 : x.decl.length ≤ T0.length := by have := HTL.out.1; simp at this; omega
        have HWX : Hid (gb + 2 ≤ WX.heap.size) := Lib.hid (by have := HCC0.out.size; have := HWS.out; omega)
        have HBD0 : Hid (BD WX (gb + 2) gb (gb + 1) T0 [] tv0 (.slice none 0 0) (.slice none 0 0) [] []) := Lib.hid ⟨HGA0.out, HDB1.out, World.ownsRow_nil _ _ _ _, ⟨fun p hp => by
            rcases List.mem_cons.1 hp with rfl | hp
            · exact HRW0.out
            · simp at hp
              subst hp
              exact World.ownsRow_nil _ _ _ _, List.Pairwise.cons (fun p hp => by
                simp at hp
                subst hp
                exact (Ap.nil _).symm) (List.pairwise_singleton _ _)⟩, by omega, by omega, HWX.out⟩
        have HBX := Lib.hid (HCB.out _ HCC0.out)
        have HXX := Lib.hid (HCC0.out.blk HX.out (by have := HG1.out; omega))
        have HRX := Lib.hid (HCC0.out.blk HR.out (by have := HG1.out; omega))
        have HFX := Lib.hid (HCC0.out.blk HF.out (by have := HG1.out; omega))
        obtain ⟨zf0, zf1⟩ := blk2 HFB0.out
        go_wp2
        clear zf0 zf1
        have HKB : Hid (∀ y, Keeps gb TT WX y → Below w.heap.size w y) := Lib.hid (fun y hy => HBX.out.trans ((hy.below (Nat.le_of_lt hgx)).mono HGW.out))
        go_loopw [8] (fun i wr => ∃ (k : Nat) (T1 N1 : List Nme) (tv1 nv1 dv1 : Value) (ds1 : List DV), i = .int .i64 k ∧ k ≤ x.rules.length ∧ Hid (T1.length ≤ 120 ∧ N1.length ≤ 120 ∧ x.decl.length ≤ T1.length) ∧ Hid (∀ q ∈ ds1, q.right.length ≤ 8) ∧ Hid (nameF (lefts x) x.decl.length T1 N1 (ds1.map DV.dn) (x.rules.drop k) = some (T, N, d)) ∧ Hid (BD wr (gb + 2) gb (gb + 1) T1 N1 tv1 nv1 dv1 ds1 []) ∧ Hid (Keeps gb TT WX wr)) (fun i _ => x.rules.length - (intOf i).toNat)
        case atStart => exact ⟨0, T0, [], tv0, _, _, [], rfl, Nat.zero_le _, Lib.hid ⟨hT0, Nat.zero_le _, hT00⟩, Lib.hid (by simp), HN0, HBD0, Lib.hid (Keeps.refl _ _ _)⟩
        case round =>
          rename World => w9
          obtain ⟨k, T1, N1, tv1, nv1, dv1, ds1, rfl, hk, HTN, HR8, HNF, HBD, HK⟩ := hrel
          have HX9 := Lib.hid (HK.out.blk HXX.out (.inl (by have := HG1.out; omega)))
          obtain ⟨x0, x1, x2, x3⟩ := blk4 HX9.out
          have hx9 := HX9.out.lt
          have hg9 := HBD.out.gblk.lt
          by_cases hlt : k < x.rules.length
          · obtain ⟨r, hr⟩ : ∃ r, x.rules[k]? = some r := ⟨_, List.getElem?_eq_getElem hlt⟩
            obtain ⟨b, off, sv, hA, hbl, k0, k1, k2, k3, hsds⟩ := HC.out w9 (HKB.out _ HK.out) k r hr
            subst hA
            have HSDS := Lib.hid hsds
            obtain ⟨⟨A5, c5, rfl, -⟩, -⟩ := hsds
            obtain ⟨hn1, hn2, T2, d2, hn3, hn4⟩ := name_split HNF.out hr
            have HN1 := Lib.hid hn1
            have HN3 := Lib.hid hn3
            have HN4 := Lib.hid hn4
            have hbl9 : b < w9.heap.size := by omega
            have q1 : (k : Int) < (x.rules.length : Int) := by omega
            have hDT : x.decl.length ≤ T1.length := HTN.out.2.2
            obtain ⟨bt, ct, htv⟩ : ∃ bt ct, tv1 = .slice (some ⟨bt, 0, none⟩) T1.length ct := by
              rcases own_form HBD.out.tRow with ⟨_, h0⟩ | ⟨b, c, e, _⟩
              · omega
              · exact ⟨b, c, e⟩
            subst htv
            obtain ⟨An, cn, hnv⟩ := own_shape HBD.out.nRow
            subst hnv
            have HRB : Hid (Blk (w9.alloc (.cells #[.int .i64 r.left.k, .string (str r.left.s), .int .i64 r.left.p, .slice A5 r.sides.length c5] 63)) w9.heap.size 63 #[.int .i64 r.left.k, .string (str r.left.s), .int .i64 r.left.p, .slice A5 r.sides.length c5]) := Lib.hid (Blk.new w9 63 _)
            have HBDA := Lib.hid (HBD.out.later (below_alloc w9 (.cells #[.int .i64 r.left.k, .string (str r.left.s), .int .i64 r.left.p, .slice A5 r.sides.length c5] 63)))
            have HKA := Lib.hid (HK.out.alloc (.cells #[.int .i64 r.left.k, .string (str r.left.s), .int .i64 r.left.p, .slice A5 r.sides.length c5] 63))
            have HXA := Lib.hid (HX9.out.alloc (.cells #[.int .i64 r.left.k, .string (str r.left.s), .int .i64 r.left.p, .slice A5 r.sides.length c5] 63))
            clear hr hn1 hn3 hn4
            go_wp2
            generalize w9.alloc (.cells #[.int .i64 r.left.k, .string (str r.left.s), .int .i64 r.left.p, .slice A5 r.sides.length c5] 63) = WA at *
            generalize w9.heap.size = rb at *
            have harr : Arr StrV WA.drew (.slice (some ⟨bt, 0, none⟩) T1.length ct) (T1.map str) := arr_nv HBDA.out.drew.tRow (by have := HTN.out.1; omega)
            have hroom := harr.room (some ⟨bt, 0, none⟩) T1.length ct rfl
            have HPL := Lib.hid (rplace_any (harr.take (min x.decl.length T1.length) (Nat.min_le_right _ _) ct ⟨Nat.le_trans (Nat.min_le_right _ _) hroom.1, fun e => by cases e⟩) (str r.left.s))
            rw [← List.map_take, place_nat, HN1.out, if_neg (by simp)] at HPL
            have HSX : Hid (∀ y, Below WA.heap.size WA y → y.cell? ⟨gb, 0, none⟩ = some (.slice (some ⟨bt, 0, none⟩) T1.length ct) ∧ y.cell? ⟨w.heap.size, 0, none⟩ = some (.slice A1 x.decl.length c1) ∧ y.cell? ⟨rb, 1, none⟩ = some (.string (str r.left.s))) := Lib.hid (fun y hy => by
              obtain ⟨a0, -, -, -⟩ := blk4 (HBDA.out.later hy).gblk
              obtain ⟨a1, -, -, -⟩ := blk4 (HXA.out.below hy HXA.out.lt)
              obtain ⟨-, a2, -, -⟩ := blk4 (HRB.out.below hy HRB.out.lt)
              exact ⟨a0, a1, a2⟩)
            clear k0 k1 k2 k3
            rw [Nat.min_eq_left hDT] at HPL
            have q2 : (x.decl.length : Int) ≤ (T1.length : Int) := by omega
            have q3 : ¬ (T1.length : Int) < (x.decl.length : Int) := by omega
            have q4 : (x.decl.length : Int) ≤ (ct : Int) := by omega
            have hmin : min (x.decl.length : Int) (T1.length : Int) = (x.decl.length : Int) := Int.min_eq_left q2
            go_region_held3 (fun w' => w'.cell? ⟨gb, 0, none⟩ = some (.slice (some ⟨bt, 0, none⟩) T1.length ct) ∧ w'.cell? ⟨w.heap.size, 0, none⟩ = some (.slice A1 x.decl.length c1) ∧ w'.cell? ⟨rb, 1, none⟩ = some (.string (str r.left.s)))
              (exact HSX.out _ ⟨rfl, rfl, rfl, Nat.le_refl _, fun _ _ => rfl⟩)
              (first | (go_at_call 45; refine HPL.out.mono ?_; rintro e w' ⟨rfl, rfl⟩))
            have HBDD := Lib.hid HBDA.out.drew
            have HRBD : Hid (Blk WA.drew rb 63 #[.int .i64 r.left.k, .string (str r.left.s), .int .i64 r.left.p, .slice A5 r.sides.length c5]) := Lib.hid HRB.out.drew
            have HXD := Lib.hid HXA.out.drew
            have HKD : Hid (Keeps gb TT WX WA.drew) := Lib.hid HKA.out.drew
            clear HSX HPL harr hroom hmin q2 q3 q4 HBDA HRB HXA HKA
            generalize WA.drew = WD at *
            obtain ⟨g0, g1, g2, g3⟩ := blk4 HBDD.out.gblk
            obtain ⟨y0, y1, y2, y3⟩ := blk4 HXD.out
            obtain ⟨r0, r1, r2, r3⟩ := blk4 HRBD.out
            have v1 := HBDD.out.gblk.frozen 1
            have hgD := HBDD.out.gblk.lt
            have hxD := HXD.out.lt
            have hrD := HRBD.out.lt
            have hN1 : N1.length ≤ 120 := HTN.out.2.1
            have HPN := Lib.hid (rplace_any (arr_nv HBDD.out.nRow (by omega)) (str r.left.s))
            rw [place_nat] at HPN
            cases hc : N1.contains r.left.s with
            | true =>
              rw [hc, if_pos rfl] at HPN HN4
              have HN5 := Lib.hid HN4.out
              have q5 : ¬ ((N1.findIdx (· == r.left.s) : Nat) : Int) < 0 := by omega
              generalize N1.findIdx (· == r.left.s) = p at *
              clear hn2 hc
              go_wp2_with (first
                | (go_at_call 45; refine HPN.out.mono ?_; rintro e w' ⟨rfl, hw⟩; replace hw := hw.symm; subst hw)
                | (go_at_call 46
                   refine (sidesD_any HTX0.out HSDS.out (HKB.out _ HKD.out) HGW.out (Nat.le_refl _) (Nat.le_add_right gb 1) HBDD.out HTN.out.1 HR8.out HN3.out).mono ?_
                   rintro e w2 ⟨rfl, hk2, tv2, dv2, ds2, hm2, hT2, h82, hbd2⟩
                   have HK2 := Lib.hid hk2
                   have HM2 := Lib.hid hm2
                   have HT2 := Lib.hid hT2
                   have H82 := Lib.hid h82
                   have HBD2 := Lib.hid hbd2
                   have HKX : Hid (Keeps gb TT WX w2) := Lib.hid ((HKD.out).trans hk2)
                   have HF2 := Lib.hid (HKX.out.blk HFB0.out (.inr (by decide)))
                   obtain ⟨zf0, zf1⟩ := blk2 HF2.out
                   have vf0 := HF2.out.frozen 0
                   have vf1 := HF2.out.frozen 1
                   have hfl := HF2.out.lt
                   clear hk2 hm2 hT2 h82 hbd2))
              go_roundw
              case rel =>
                refine ⟨k + 1, T2, N1, tv2, _, dv2, ds2, by go_num, by omega, Lib.hid ⟨HT2.out, hN1, Nat.le_trans hDT (sideF_len _ _ _ _ _ _ _ HN3.out)⟩, H82, Lib.hid ?_, Lib.hid ((HBD2.out.set (i := 0) HF2.out (by decide) (by decide) (by decide) (by decide) (.int .i64 0)).set (i := 1) (HF2.out.set_ 0 (.int .i64 0)) (by decide) (by decide) (by decide) (by decide) (.int .i64 0)), Lib.hid (keep_same HKX.out HF2.out)⟩
                rw [HM2.out]
                exact HN5.out
              case measure => simp [intOf]; omega
            | false =>
              rw [hc, if_neg (by simp)] at HPN HN4
              have HN5 := Lib.hid HN4.out
              have hn120 : N1.length < 120 := by
                rcases hn2 with h | h
                · rw [hc] at h; cases h
                · exact h
              have q5 : ¬ (120 : Int) ≤ (N1.length : Int) := by omega
              have q6 : (N1.length : Int) < 120 := by omega
              clear hn2 hc
              go_wp2_with (first
                | (go_at_call 45; refine HPN.out.mono ?_; rintro e w' ⟨rfl, hw⟩; replace hw := hw.symm; subst hw)
                | (go_at_call 46
                   refine (sidesD_any HTX0.out HSDS.out (HKB.out _ HKN.out) HGW.out (Nat.le_refl _) (Nat.le_add_right gb 1) HBN.out HTN.out.1 HR8.out HN3.out).mono ?_
                   rintro e w2 ⟨rfl, hk2, tv2, dv2, ds2, hm2, hT2, h82, hbd2⟩
                   have HK2 := Lib.hid hk2
                   have HM2 := Lib.hid hm2
                   have HT2 := Lib.hid hT2
                   have H82 := Lib.hid h82
                   have HBD2 := Lib.hid hbd2
                   have HKX : Hid (Keeps gb TT WX w2) := Lib.hid ((HKN.out).trans hk2)
                   have HF2 := Lib.hid (HKX.out.blk HFB0.out (.inr (by decide)))
                   obtain ⟨zf0, zf1⟩ := blk2 HF2.out
                   have vf0 := HF2.out.frozen 0
                   have vf1 := HF2.out.frozen 1
                   have hfl := HF2.out.lt
                   clear hk2 hm2 hT2 h82 hbd2)
                | (at_builtin
                   refine wpList_app ElStr (.tmp 69) (.tmp 73) rfl rfl (base := gb + 2) (n := N1.length) (m := 1) (N := N1.length + 1) (xs := N1.map Nv) (news := [.string (str r.left.s)]) rfl rfl (HBDD.out.nRow.alloc _) (src_str _ _) rfl (by unfold maxLen; omega) (by omega) (by rw [World.size_alloc]; exact Nat.le_trans HBDD.out.bB (Nat.le_succ _)) ?_
                   intro A9 c9 w9' r1' r2' r3'
                   have r3'' : Grew WD (.cells #[.string (str r.left.s)] 9) w9' (.slice An N1.length cn) (.slice A9 (N1.length + 1) c9) := r3'
                   obtain ⟨hF1, hF3⟩ := BD.ngrow (s := r.left.s) HBDD.out r1' r2' r3''
                   have HBN := Lib.hid hF1
                   have HKN : Hid (Keeps gb TT WX (w9'.setCell ⟨gb, 1, none⟩ (.slice A9 (N1.length + 1) c9))) := Lib.hid (((HKD.out.alloc _).trans (r2'.mono (by omega) (by simp))).setBlk hF3 (Nat.le_refl _) (by decide) 1 _)
                   have HXN : Hid (Blk (w9'.setCell ⟨gb, 1, none⟩ (.slice A9 (N1.length + 1) c9)) w.heap.size 52 #[.slice A1 x.decl.length c1, .slice A2 ml.length c2, .slice A3 x.starts.length c3, .slice (some ⟨b, off, none⟩) x.rules.length c4]) := Lib.hid ((r2'.blk (HXD.out.alloc _) (.inr (by decide))).far (p := ⟨gb, 1, none⟩) (Ne.symm (Blk.ne_ hF3 (r2'.blk (HXD.out.alloc _) (.inr (by decide))) (by decide))) _)
                   have HRN : Hid (Blk (w9'.setCell ⟨gb, 1, none⟩ (.slice A9 (N1.length + 1) c9)) rb 63 #[.int .i64 r.left.k, .string (str r.left.s), .int .i64 r.left.p, .slice A5 r.sides.length c5]) := Lib.hid ((r2'.blk (HRBD.out.alloc _) (.inr (by decide))).far (p := ⟨gb, 1, none⟩) (Ne.symm (Blk.ne_ hF3 (r2'.blk (HRBD.out.alloc _) (.inr (by decide))) (by decide))) _)
                   obtain ⟨-, cA, -, -⟩ := blk4 hF3
                   have vA := hF3.frozen 1
                   have hx' : Blk w9' w.heap.size 52 _ := r2'.blk (HXD.out.alloc _) (.inr (by decide))
                   have hr' : Blk w9' rb 63 _ := r2'.blk (HRBD.out.alloc _) (.inr (by decide))
                   obtain ⟨y0, y1, y2, y3⟩ := blk4 HXN.out
                   obtain ⟨r0, r1, r2, r3⟩ := blk4 HRN.out
                   clear r1' r2' r3' r3'' hF1 hF3 hx' hr'))
              go_roundw
              case rel =>
                refine ⟨k + 1, T2, N1 ++ [r.left.s], tv2, _, dv2, ds2, by go_num, by omega, Lib.hid ⟨HT2.out, by simp; omega, Nat.le_trans hDT (sideF_len _ _ _ _ _ _ _ HN3.out)⟩, H82, Lib.hid ?_, Lib.hid ((HBD2.out.set (i := 0) HF2.out (by decide) (by decide) (by decide) (by decide) (.int .i64 0)).set (i := 1) (HF2.out.set_ 0 (.int .i64 0)) (by decide) (by decide) (by decide) (by decide) (.int .i64 0)), Lib.hid (keep_same HKX.out HF2.out)⟩
                rw [HM2.out]
                exact HN5.out
              case measure => simp [intOf]; omega
          · obtain rfl : k = x.rules.length := by omega
            have hE := HNF.out
            rw [List.drop_length] at hE
            unfold nameF at hE
            have hE2 := Option.some.inj hE
            have HE1 : Hid (T1 = T) := Lib.hid (congrArg Prod.fst hE2)
            have HE2 : Hid (N1 = N) := Lib.hid (congrArg (fun q => q.2.1) hE2)
            have HE3 : Hid (ds1.map DV.dn = d) := Lib.hid (congrArg (fun q => q.2.2) hE2)
            obtain ⟨At, ct, htv⟩ := own_shape HBD.out.tRow
            subst htv
            obtain ⟨An, cn, hnv⟩ := own_shape HBD.out.nRow
            subst hnv
            obtain ⟨Ad, cd, hdv⟩ := own_shape HBD.out.dR
            subst hdv
            obtain ⟨g0, g1, g2, g3⟩ := blk4 HBD.out.gblk
            have d0 := HBD.out.dblk.cell 0
            simp at d0
            have HR9 := Lib.hid (HK.out.blk HRX.out (.inl (by have := HG1.out; omega)))
            have HF9 := Lib.hid (HK.out.blk HFX.out (.inl (by have := HG1.out; omega)))
            obtain ⟨o0, o1, o2, o3⟩ := blk4 HR9.out
            obtain ⟨p0, p1⟩ := blk2 HF9.out
            have u0 := HR9.out.frozen 0
            have u1 := HR9.out.frozen 1
            have u2 := HR9.out.frozen 2
            have u3' := HR9.out.frozen 3
            have v0 := HF9.out.frozen 0
            have v1 := HF9.out.frozen 1
            have hrl9 := HR9.out.lt
            have hfl9 := HF9.out.lt
            have hdl9 := HBD.out.dblk.lt
            have e3 : gb = w.heap.size + 3 := HG1.out.symm
            have n1 : ¬ gb = w.heap.size := by omega
            have n2 : ¬ gb = w.heap.size + 1 := by omega
            have n3 : ¬ gb = w.heap.size + 1 + 1 := by omega
            have n4 : ¬ w.heap.size = gb := by omega
            have n5 : ¬ w.heap.size + 1 = gb := by omega
            have n6 : ¬ w.heap.size + 1 + 1 = gb := by omega
            clear hE hE2 e3
            go_wp2
            go_region
            go_wp2
            have hR4 : Blk ((((((w9.setCell ⟨w.heap.size + 1, 0, none⟩ (.slice At T1.length ct)).setCell ⟨w.heap.size + 1, 1, none⟩ (.slice An N1.length cn)).setCell ⟨w.heap.size + 1, 2, none⟩ (.slice none 0 0)).setCell ⟨w.heap.size + 1, 3, none⟩ (.int .i64 0)).setCell ⟨w.heap.size + 1 + 1, 0, none⟩ (.int .i64 0)).setCell ⟨w.heap.size + 1 + 1, 1, none⟩ (.int .i64 0)) (w.heap.size + 1) 30 #[.slice At T1.length ct, .slice An N1.length cn, .slice none 0 0, .int .i64 0] :=
              ((set4_blk' HR9.out).far (p := ⟨w.heap.size + 1 + 1, 0, none⟩) (by simp) _).far (p := ⟨w.heap.size + 1 + 1, 1, none⟩) (by simp) _
            have hF2 : Blk ((((((w9.setCell ⟨w.heap.size + 1, 0, none⟩ (.slice At T1.length ct)).setCell ⟨w.heap.size + 1, 1, none⟩ (.slice An N1.length cn)).setCell ⟨w.heap.size + 1, 2, none⟩ (.slice none 0 0)).setCell ⟨w.heap.size + 1, 3, none⟩ (.int .i64 0)).setCell ⟨w.heap.size + 1 + 1, 0, none⟩ (.int .i64 0)).setCell ⟨w.heap.size + 1 + 1, 1, none⟩ (.int .i64 0)) (w.heap.size + 1 + 1) 34 #[.int .i64 0, .int .i64 0] :=
              set2_blk ((((HF9.out.far (p := ⟨w.heap.size + 1, 0, none⟩) (by simp) _).far (p := ⟨w.heap.size + 1, 1, none⟩) (by simp) _).far (p := ⟨w.heap.size + 1, 2, none⟩) (by simp) _).far (p := ⟨w.heap.size + 1, 3, none⟩) (by simp) _)
            have hX : Chg (fun k => k = w.heap.size + 1 ∨ k = w.heap.size + 1 + 1) w9 ((((((w9.setCell ⟨w.heap.size + 1, 0, none⟩ (.slice At T1.length ct)).setCell ⟨w.heap.size + 1, 1, none⟩ (.slice An N1.length cn)).setCell ⟨w.heap.size + 1, 2, none⟩ (.slice none 0 0)).setCell ⟨w.heap.size + 1, 3, none⟩ (.int .i64 0)).setCell ⟨w.heap.size + 1 + 1, 0, none⟩ (.int .i64 0)).setCell ⟨w.heap.size + 1 + 1, 1, none⟩ (.int .i64 0)) :=
              ((((((Chg.refl (fun k => k = w.heap.size + 1 ∨ k = w.heap.size + 1 + 1) w9).set (p := ⟨w.heap.size + 1, 0, none⟩) (.inr (.inl rfl)) _).set (p := ⟨w.heap.size + 1, 1, none⟩) (.inr (.inl rfl)) _).set (p := ⟨w.heap.size + 1, 2, none⟩) (.inr (.inl rfl)) _).set (p := ⟨w.heap.size + 1, 3, none⟩) (.inr (.inl rfl)) _).set (p := ⟨w.heap.size + 1 + 1, 0, none⟩) (.inr (.inr rfl)) _).set (p := ⟨w.heap.size + 1 + 1, 1, none⟩) (.inr (.inr rfl)) _
            have hXd := hX.drew
            have hR4d := hR4.drew
            have hF2d := hF2.drew
            have hB9 := HKB.out _ HK.out
            generalize ((((((w9.setCell ⟨w.heap.size + 1, 0, none⟩ (.slice At T1.length ct)).setCell ⟨w.heap.size + 1, 1, none⟩ (.slice An N1.length cn)).setCell ⟨w.heap.size + 1, 2, none⟩ (.slice none 0 0)).setCell ⟨w.heap.size + 1, 3, none⟩ (.int .i64 0)).setCell ⟨w.heap.size + 1 + 1, 0, none⟩ (.int .i64 0)).setCell ⟨w.heap.size + 1 + 1, 1, none⟩ (.int .i64 0)) = FW at *
            obtain ⟨s0, s1, s2, s3⟩ := blk4 hR4
            obtain ⟨s4, s5⟩ := blk2 hF2
            refine bodyPost_ret (v := .tuple #[.agg #[.slice At T1.length ct, .slice An N1.length cn, .slice none 0 0, .int .i64 0], .slice Ad ds1.length cd, .agg #[.int .i64 0, .int .i64 0]]) (by simp [results, Tryd.results25, go_sem, s0, s1, s2, s3, s4, s5]) rfl ?_
            have e3 := HG1.out
            have hown : ∀ {e : TypeId} {s n : Nat} {u : Value} {ys : List Value}, w9.ownsRow (gb + 2) e s u n ys → FW.drew.ownsRow w.heap.size e s u n ys := fun hu => own_mono (hXd.own hu (fun g hg e => by have := (own_ge hu g hg).1; omega)) (by omega)
            rw [← HE1.out, ← HE2.out]
            exact ⟨_, _, _, ds1, HE3.out, rfl, HTN.out.1, HTN.out.2.1, HR8.out, hown HBD.out.tRow, hown HBD.out.nRow, hown HBD.out.dR, fun q hq => hown (HBD.out.rRow hq), hB9.trans (hXd.below (by omega) (fun i hi e => by omega))⟩
end Go.Proofs.YtnpjhndgdlihjaaDoor
