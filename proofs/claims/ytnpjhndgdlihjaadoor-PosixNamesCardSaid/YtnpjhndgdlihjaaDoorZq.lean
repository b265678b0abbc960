/- A rule's right sides, by names: where they are right. -/
import Derived.Test.YtnpjhndgdlihjaaDoorZp
namespace Go.Proofs.YtnpjhndgdlihjaaDoor
open Go.RowKit
set_option linter.unusedVariables false
theorem ElNamed : El Tryd.prog 55 65 2 40 := El.of (z := .agg #[.string ⟨#[]⟩, .slice none 0 0]) Tryd.underlying55 (by kernel_rfl) rfl (by decide)
theorem src_named (y : World) (s : ByteArray) (A : Option Addr) (n c : Nat) : SrcOK (y.alloc (.cells #[.string s, .slice A n c] 65)) (.slice (some ⟨y.heap.size, 0, none⟩) 1 1) 1 2 [.string s, .slice A n c] :=
  SrcOK.blk (c := 1) (Blk.new y 65 #[.string s, .slice A n c]) rfl (by simp [Value.oneCell'])
theorem BD.set {w : World} {B gb db g i : Nat} {T N : List Nme} {tv nv dv : Value} {ds : List DV} {C : List NR} {t : TypeId} {cs : Array Value} (h : BD w B gb db T N tv nv dv ds C) (hb : Blk w g t cs) (h1 : 30 ≠ t) (h2 : 55 ≠ t) (h3 : 65 ≠ t) (h4 : 9 ≠ t) (u : Value) : BD (w.setCell ⟨g, i, none⟩ u) B gb db T N tv nv dv ds C :=
  ⟨h.gblk.far (p := ⟨g, i, none⟩) (Blk.ne_ h.gblk hb h1) _, h.dblk.far (p := ⟨g, i, none⟩) (Blk.ne_ h.dblk hb h2) _, own_far h.dR (own_blk_ne h.dR hb h3) _, h.fam.set hb h4 _, h.gbB, h.dbB, by have := h.bB; simpa [World.setCell] using this⟩
/-- Behind a rule's right sides. -/
def SidesEnd (w : World) (B0 B gb db : Nat) (T' N : List Nme) (nv : Value) (d' : List DN) (e : Ending) (w' : World) : Prop :=
  e = .returned (.agg #[.int .i64 0, .int .i64 0]) ∧ Keeps B0 TT w w' ∧ ∃ tv dv ds, ds.map DV.dn = d' ∧ T'.length ≤ 120 ∧ (∀ d ∈ ds, d.right.length ≤ 8) ∧ BD w' B gb db T' N tv nv dv ds []
theorem blk3 {w : World} {b : Nat} {t : TypeId} {x0 x1 x2 : Value} (h : Blk w b t #[x0, x1, x2]) : w.cell? ⟨b, 0, none⟩ = some x0 ∧ w.cell? ⟨b, 1, none⟩ = some x1 ∧ w.cell? ⟨b, 2, none⟩ = some x2 := ⟨h.cell 0, h.cell 1, h.cell 2⟩
/-- The three blocks that the sides' walk begins with. -/
structure SBox (w : World) (n0 : Nat) (dv kv sv rv : Value) (r : PR) (ssv : Value) : Prop where
  x : Blk w n0 52 #[dv, kv, sv, rv]
  r : Blk w (n0 + 1) 63 #[.int .i64 r.left.k, .string (str r.left.s), .int .i64 r.left.p, ssv]
  f : Blk w (n0 + 1 + 1) 34 #[.int .i64 0, .int .i64 0]
theorem SBox.keeps {w w' : World} {n0 B : Nat} {dv kv sv rv ssv : Value} {r : PR} (h : SBox w n0 dv kv sv rv r ssv) (hk : Keeps B TT w w') : SBox w' n0 dv kv sv rv r ssv :=
  ⟨hk.blk h.x (.inr (by decide)), hk.blk h.r (.inr (by decide)), hk.blk h.f (.inr (by decide))⟩
set_option maxRecDepth 100000 in
set_option maxHeartbeats 6400000 in
theorem sidesD_any {w0 w : World} {B0 B gb db : Nat} {xdv xkv xsv xrv ssv tv nv dv : Value} {x : Txt} {r : PR} {T N T' : List Nme} {d' : List DN} {ds : List DV} (h : TxR w0 xdv xkv xsv xrv x) (hs : Sds w0 ssv r.sides) (hb : Below w0.heap.size w0 w) (h0 : w0.heap.size ≤ B0) (hg0 : B0 ≤ gb) (hd0 : B0 ≤ db)
    (hD : BD w B gb db T N tv nv dv ds []) (hT : T.length ≤ 120) (hr8 : ∀ d ∈ ds, d.right.length ≤ 8) (hf : sideF (lefts x) r.left.s T (ds.map DV.dn) r.sides = some (T', d')) :
    Calls Tryd.prog 46 #[.agg #[xdv, xkv, xsv, xrv], .agg #[.int .i64 r.left.k, .string (str r.left.s), .int .i64 r.left.p, ssv], .pointer (some ⟨gb, 0, none⟩), .pointer (some ⟨db, 0, none⟩)] w (SidesEnd w B0 B gb db T' N nv d') := by
  have HTX := Lib.hid (fun y (hy : Below w0.heap.size w0 y) => h.later hy)
  obtain ⟨ml, m1, m2⟩ := h.marks
  obtain ⟨⟨A1, c1, rfl, -⟩, -⟩ := h.decl
  obtain ⟨⟨A2, c2, rfl, -⟩, -⟩ := m2
  obtain ⟨⟨A3, c3, rfl, -⟩, -⟩ := h.starts
  obtain ⟨⟨A4, c4, rfl, -⟩, -⟩ := h.rules
  obtain ⟨⟨A5, c5, rfl, hc⟩, hsl⟩ := hs
  have HC := Lib.hid (fun (y : World) (hy : Below w0.heap.size w0 y) (k : Nat) (s : PS) (hk : r.sides[k]? = some s) => (by
    obtain ⟨b, off, tv, hA, hlt, k1, k2, k3⟩ := hc k s hk
    have hcy := Chg.of_below (X := fun _ => False) hy
    exact ⟨b, off, tv, hA, hlt, (hcy.cell hlt id).trans k1, (hcy.cell hlt id).trans k2, k3⟩ : ∃ b off tv, A5 = some ⟨b, off, none⟩ ∧ b < w0.heap.size ∧ y.cell? ⟨b, off + k * 2, none⟩ = some tv ∧ y.cell? ⟨b, off + k * 2 + 1, none⟩ = some (.int .i64 s.p) ∧ Toks w0 tv s.l))
  have HSB : Hid (SBox (((w.alloc (.cells #[.slice A1 x.decl.length c1, .slice A2 ml.length c2, .slice A3 x.starts.length c3, .slice A4 x.rules.length c4] 52)).alloc (.cells #[.int .i64 r.left.k, .string (str r.left.s), .int .i64 r.left.p, .slice A5 r.sides.length c5] 63)).alloc (.cells #[.int .i64 0, .int .i64 0] 34)) w.heap.size (.slice A1 x.decl.length c1) (.slice A2 ml.length c2) (.slice A3 x.starts.length c3) (.slice A4 x.rules.length c4) r (.slice A5 r.sides.length c5)) := Lib.hid ⟨((Blk.new w 52 _).alloc _).alloc _, by
      have h1 := (Blk.new (w.alloc (.cells #[.slice A1 x.decl.length c1, .slice A2 ml.length c2, .slice A3 x.starts.length c3, .slice A4 x.rules.length c4] 52)) 63 #[.int .i64 r.left.k, .string (str r.left.s), .int .i64 r.left.p, .slice A5 r.sides.length c5]).alloc (.cells #[.int .i64 0, .int .i64 0] 34)
      rwa [World.size_alloc] at h1, by
      have h1 := Blk.new ((w.alloc (.cells #[.slice A1 x.decl.length c1, .slice A2 ml.length c2, .slice A3 x.starts.length c3, .slice A4 x.rules.length c4] 52)).alloc (.cells #[.int .i64 r.left.k, .string (str r.left.s), .int .i64 r.left.p, .slice A5 r.sides.length c5] 63)) 34 #[.int .i64 0, .int .i64 0]
      rwa [World.size_alloc, World.size_alloc] at h1⟩
  have hbw : Below w.heap.size w (((w.alloc (.cells #[.slice A1 x.decl.length c1, .slice A2 ml.length c2, .slice A3 x.starts.length c3, .slice A4 x.rules.length c4] 52)).alloc (.cells #[.int .i64 r.left.k, .string (str r.left.s), .int .i64 r.left.p, .slice A5 r.sides.length c5] 63)).alloc (.cells #[.int .i64 0, .int .i64 0] 34)) := ((below_alloc w _).alloc (by simp) _).alloc (by simp; omega) _
  have HBW := Lib.hid hbw
  have HSZ : Hid ((((w.alloc (.cells #[.slice A1 x.decl.length c1, .slice A2 ml.length c2, .slice A3 x.starts.length c3, .slice A4 x.rules.length c4] 52)).alloc (.cells #[.int .i64 r.left.k, .string (str r.left.s), .int .i64 r.left.p, .slice A5 r.sides.length c5] 63)).alloc (.cells #[.int .i64 0, .int .i64 0] 34)).heap.size = w.heap.size + 3) := Lib.hid (by simp)
  have HD0 := Lib.hid (hD.later hbw)
  have hbs := hb.size
  have HB0 := Lib.hid (hb.trans (hbw.mono hbs))
  have HF0 : Hid (sideF (lefts x) r.left.s T (ds.map DV.dn) (r.sides.drop 0) = some (T', d')) := Lib.hid hf
  have hgw : gb < w.heap.size := hD.gblk.lt
  have hdw : db < w.heap.size := hD.dblk.lt
  have hB0w : B0 ≤ w.heap.size := by omega
  have HR0 := Lib.hid hr8
  clear h m1 hc hb hD hf hbw hr8
  go_enter Tryd.func46, Tryd.ntmps46
  go_wp2
  generalize (((w.alloc (.cells #[.slice A1 x.decl.length c1, .slice A2 ml.length c2, .slice A3 x.starts.length c3, .slice A4 x.rules.length c4] 52)).alloc (.cells #[.int .i64 r.left.k, .string (str r.left.s), .int .i64 r.left.p, .slice A5 r.sides.length c5] 63)).alloc (.cells #[.int .i64 0, .int .i64 0] 34)) = W at *
  have HBK : Hid (∀ y, Keeps B0 TT W y → Below w0.heap.size w0 y) := Lib.hid (fun y hy => HB0.out.trans ((hy.below (by have := HSZ.out; omega)).mono h0))
  go_loopw [9] (fun i wr => ∃ (k : Nat) (T1 : List Nme) (tv1 dv1 : Value) (ds1 : List DV), i = .int .i64 k ∧ k ≤ r.sides.length ∧ Hid (T1.length ≤ 120) ∧ Hid (∀ d ∈ ds1, d.right.length ≤ 8) ∧ Hid (sideF (lefts x) r.left.s T1 (ds1.map DV.dn) (r.sides.drop k) = some (T', d')) ∧ Hid (BD wr B gb db T1 N tv1 nv dv1 ds1 []) ∧ Hid (Keeps B0 TT W wr)) (fun i _ => r.sides.length - (intOf i).toNat)
  case atStart => exact ⟨0, T, tv, dv, ds, rfl, Nat.zero_le _, Lib.hid hT, HR0, HF0, HD0, Lib.hid (Keeps.refl _ _ _)⟩
  case round =>
    rename World => w9
    obtain ⟨k, T1, tv1, dv1, ds1, rfl, hk, HT1, HR1, HF, HD, HK⟩ := hrel
    have HSB9 := Lib.hid (HSB.out.keeps HK.out)
    obtain ⟨x0, x1, x2, x3⟩ := blk4 HSB9.out.x
    obtain ⟨r0, r1, r2, r3⟩ := blk4 HSB9.out.r
    have hw9 : w.heap.size + 3 ≤ w9.heap.size := by have := HK.out.size; rw [HSZ.out] at this; exact this
    by_cases hlt : k < r.sides.length
    · obtain ⟨s, hs⟩ : ∃ s, r.sides[k]? = some s := ⟨_, List.getElem?_eq_getElem hlt⟩
      obtain ⟨b, off, tsv, hA, hbl, e0, e1, htk⟩ := HC.out w9 (HBK.out _ HK.out) k s hs
      subst hA
      obtain ⟨⟨A6, c6, rfl, hc6⟩, hsl6⟩ := htk
      have HC6 := Lib.hid (fun (y : World) (hy : Below w0.heap.size w0 y) (k : Nat) (t : Tk) (hk : s.l[k]? = some t) => (by
        obtain ⟨b, off, hA, hlt, k1, k2, k3⟩ := hc6 k t hk
        have hcy := Chg.of_below (X := fun _ => False) hy
        exact ⟨b, off, hA, hlt, (hcy.cell hlt id).trans k1, (hcy.cell hlt id).trans k2, (hcy.cell hlt id).trans k3⟩ : ∃ b off, A6 = some ⟨b, off, none⟩ ∧ b < w0.heap.size ∧ y.cell? ⟨b, off + k * 3, none⟩ = some (.int .i64 t.k) ∧ y.cell? ⟨b, off + k * 3 + 1, none⟩ = some (.string (str t.s)) ∧ y.cell? ⟨b, off + k * 3 + 2, none⟩ = some (.int .i64 t.p)))
      obtain ⟨hd3, T2, hsym, hany, hside⟩ := side_split HF.out hs
      rw [List.length_map] at hd3
      have HSYM : Hid (symF (lefts x) T1 0 (s.l.drop 0) = some T2) := Lib.hid hsym
      have HANY := Lib.hid hany
      have HSIDE := Lib.hid hside
      obtain ⟨Ad, cd, hdv⟩ := own_shape HD.out.dR
      subst hdv
      have g0 := HD.out.dblk.cell 0
      simp at g0
      have q1 : (k : Int) < (r.sides.length : Int) := by omega
      have q2 : ¬ (300 : Int) ≤ (ds1.length : Int) := by omega
      have q2' : (ds1.length : Int) < 300 := by omega
      have hbl9 : b < w9.heap.size := by omega
      have hdl9 : db < w9.heap.size := by omega
      have hx9 : w.heap.size < w9.heap.size := by omega
      have hr9 : w.heap.size + 1 < w9.heap.size := by omega
      clear hc6 hs hsym hany hside
      go_wp2
      have HSDV : Hid (Blk ((w9.alloc (.cells #[.slice A6 s.l.length c6, .int .i64 s.p] 125)).alloc (.cells #[.string (str r.left.s), .slice none 0 0] 65)) w9.heap.size 125 #[.slice A6 s.l.length c6, .int .i64 s.p]) := Lib.hid ((Blk.new w9 125 _).alloc _)
      have HNBV : Hid (Blk ((w9.alloc (.cells #[.slice A6 s.l.length c6, .int .i64 s.p] 125)).alloc (.cells #[.string (str r.left.s), .slice none 0 0] 65)) (w9.heap.size + 1) 65 #[.string (str r.left.s), .slice none 0 0]) := Lib.hid (by
        have h1 := Blk.new (w9.alloc (.cells #[.slice A6 s.l.length c6, .int .i64 s.p] 125)) 65 #[.string (str r.left.s), .slice none 0 0]
        rwa [World.size_alloc] at h1)
      have HBDV : Hid (BD ((w9.alloc (.cells #[.slice A6 s.l.length c6, .int .i64 s.p] 125)).alloc (.cells #[.string (str r.left.s), .slice none 0 0] 65)) B gb db T1 N tv1 nv (.slice Ad ds1.length cd) ds1 [(.slice none 0 0, (s.l.take 0).map (·.s))]) := Lib.hid (HD.out.later ((below_alloc w9 _).alloc (by simp) _)).begin
      have HKV := Lib.hid ((HK.out.alloc (.cells #[.slice A6 s.l.length c6, .int .i64 s.p] 125)).alloc (.cells #[.string (str r.left.s), .slice none 0 0] 65))
      have HDN : Hid (¬ (Value.slice Ad ds1.length cd).ownBlock = some (w9.heap.size + 1)) := Lib.hid (fun e => by have := (own_ge HD.out.dR _ e).2; omega)
      have HVS : Hid (((w9.alloc (.cells #[.slice A6 s.l.length c6, .int .i64 s.p] 125)).alloc (.cells #[.string (str r.left.s), .slice none 0 0] 65)).heap.size = w9.heap.size + 2) := Lib.hid (by simp)
      generalize ((w9.alloc (.cells #[.slice A6 s.l.length c6, .int .i64 s.p] 125)).alloc (.cells #[.string (str r.left.s), .slice none 0 0] 65)) = V at *
      have HB0W : Hid (B0 ≤ w9.heap.size) := Lib.hid (by omega)
      generalize w9.heap.size = sb at *
      clear x0 x1 x2 x3 r0 r1 r2 r3 g0 e0 e1 q1 q2 q2'
      go_loopw [12] (fun i wr => ∃ (m : Nat) (T3 : List Nme) (tv3 cv : Value), i = .int .i64 m ∧ m ≤ s.l.length ∧ m ≤ 8 ∧ Hid (T3.length ≤ 120) ∧ Hid (symF (lefts x) T3 m (s.l.drop m) = some T2) ∧ Hid (BD wr B gb db T3 N tv3 nv (.slice Ad ds1.length cd) ds1 [(cv, (s.l.take m).map (·.s))]) ∧ Hid (Blk wr (sb + 1) 65 #[.string (str r.left.s), cv]) ∧ Hid (Blk wr sb 125 #[.slice A6 s.l.length c6, .int .i64 s.p]) ∧ Hid (Keeps B0 TT W wr) ∧ Hid (sb + 2 ≤ wr.heap.size)) (fun i _ => s.l.length - (intOf i).toNat)
      case atStart => exact ⟨0, T1, tv1, _, rfl, Nat.zero_le _, Nat.zero_le _, HT1, HSYM, HBDV, HNBV, HSDV, HKV, Lib.hid (by rw [HVS.out]; exact Nat.le_refl _)⟩
      case round =>
        obtain ⟨m, T3, tv3, cv, rfl, hm, hm8, HT3, HSY, HBD, HNB, HSD, HK3, HWS⟩ := hrel
        obtain ⟨s0, s1⟩ := blk2 HSD.out
        have hsl3 := HSD.out.lt
        have hnl3 := HNB.out.lt
        by_cases hlt2 : m < s.l.length
        · obtain ⟨t, ht⟩ : ∃ t, s.l[m]? = some t := ⟨_, List.getElem?_eq_getElem hlt2⟩
          obtain ⟨h8, hcs⟩ := sym_split HSY.out ht
          obtain ⟨b2, off2, hA2, hb2l, t0, t1, t2⟩ := HC6.out wr (HBK.out _ HK3.out) m t ht
          subst hA2
          have q1 : (m : Int) < (s.l.length : Int) := by omega
          have q2 : ¬ (8 : Int) ≤ (m : Int) := by omega
          have q2' : (m : Int) < 8 := by omega
          have hb2w : b2 < wr.heap.size := by have := HWS.out; omega
          have HTK : Hid ((s.l.take (m + 1)).map (·.s) = (s.l.take m).map (·.s) ++ [t.s]) := Lib.hid (by rw [List.take_add_one, ht]; simp)
          have HLEN : Hid (((s.l.take m).map (·.s)).length = m) := Lib.hid (by rw [List.length_map, List.length_take]; omega)
          obtain ⟨Ac, cc, hcv⟩ := own_shape HBD.out.cRow
          rw [HLEN.out] at hcv
          subst hcv
          have HB0B : Hid (B0 ≤ B) := Lib.hid (by have := HBD.out.gbB; omega)
          have HBA := Lib.hid (HBD.out.later (below_alloc wr t.obj))
          have HNA := Lib.hid (HNB.out.alloc t.obj)
          have HSA := Lib.hid (HSD.out.alloc t.obj)
          have HTA : Hid (Blk (wr.alloc t.obj) wr.heap.size 60 #[.int .i64 t.k, .string (str t.s), .int .i64 t.p]) := Lib.hid (Blk.new wr 60 _)
          have HKA := Lib.hid (HK3.out.alloc t.obj)
          obtain ⟨At, ct, htv⟩ := own_shape HBD.out.tRow
          subst htv
          obtain ⟨g0, g1, -, -⟩ := blk4 HBD.out.gblk
          have hgl3 : gb < wr.heap.size := HBD.out.gblk.lt
          clear ht
          go_wp2
          have HZA : Hid ((wr.alloc t.obj).heap.size = wr.heap.size + 1) := Lib.hid (by unfold Tk.obj; simp)
          have hob : (wr.alloc (.cells #[.int .i64 t.k, .string (str t.s), .int .i64 t.p] 60)) = wr.alloc t.obj := rfl
          rw [hob]
          generalize wr.alloc t.obj = WA at *
          generalize wr.heap.size = tb at *
          clear hob t0 t1 t2 s0 s1 g0 g1
          have HPL := Lib.hid (rplace_any (arr_nv HBA.out.drew.tRow (by have := HT3.out; omega)) (str t.s))
          rw [place_nat] at HPL
          have HSIX : Hid (∀ y, Below WA.heap.size WA y → y.cell? ⟨gb, 0, none⟩ = some (.slice At T3.length ct) ∧ y.cell? ⟨sb + 1, 1, none⟩ = some (.slice Ac m cc) ∧ y.cell? ⟨tb, 0, none⟩ = some (.int .i64 t.k) ∧ y.cell? ⟨tb, 1, none⟩ = some (.string (str t.s)) ∧ y.cell? ⟨w.heap.size, 0, none⟩ = some (.slice A1 x.decl.length c1) ∧ y.cell? ⟨w.heap.size, 1, none⟩ = some (.slice A2 ml.length c2) ∧ y.cell? ⟨w.heap.size, 2, none⟩ = some (.slice A3 x.starts.length c3) ∧ y.cell? ⟨w.heap.size, 3, none⟩ = some (.slice A4 x.rules.length c4)) := Lib.hid (fun y hy => by
            obtain ⟨a0, -, -, -⟩ := blk4 (HBA.out.later hy).gblk
            obtain ⟨-, a1⟩ := blk2 (HNA.out.below hy HNA.out.lt)
            obtain ⟨a2, a3, -⟩ := blk3 (HTA.out.below hy HTA.out.lt)
            obtain ⟨a4, a5, a6, a7⟩ := blk4 (HSB.out.keeps (HKA.out.trans (Keeps.of_below hy))).x
            exact ⟨a0, a1, a2, a3, a4, a5, a6, a7⟩)
          have hgA : gb < WA.heap.size := HBA.out.gblk.lt
          have hnA : sb + 1 < WA.heap.size := HNA.out.lt
          have htA : tb < WA.heap.size := HTA.out.lt
          rcases hcs with ⟨k1, k2⟩ | ⟨k1, k2, k3, k4⟩ | ⟨k1, k2, k3, k4⟩
          · rw [k1, if_pos rfl] at HPL
            have HY2 := Lib.hid k2
            have q3 : (0 : Int) ≤ ((T3.findIdx (· == t.s) : Nat) : Int) := by omega
            generalize T3.findIdx (· == t.s) = p at *
            clear k1 k2
            go_region_held3 (fun w' => w'.cell? ⟨gb, 0, none⟩ = some (.slice At T3.length ct) ∧ w'.cell? ⟨sb + 1, 1, none⟩ = some (.slice Ac m cc) ∧ w'.cell? ⟨tb, 0, none⟩ = some (.int .i64 t.k) ∧ w'.cell? ⟨tb, 1, none⟩ = some (.string (str t.s)) ∧ w'.cell? ⟨w.heap.size, 0, none⟩ = some (.slice A1 x.decl.length c1) ∧ w'.cell? ⟨w.heap.size, 1, none⟩ = some (.slice A2 ml.length c2) ∧ w'.cell? ⟨w.heap.size, 2, none⟩ = some (.slice A3 x.starts.length c3) ∧ w'.cell? ⟨w.heap.size, 3, none⟩ = some (.slice A4 x.rules.length c4))
              (exact HSIX.out _ ⟨rfl, rfl, rfl, Nat.le_refl _, fun _ _ => rfl⟩)
              (first | (go_at_call 45; refine HPL.out.mono ?_; rintro e w' ⟨rfl, rfl⟩))
            go_wp2
            obtain ⟨z0, z1, z2, z3, -, -, -, -⟩ := HSIX.out WA.drew ⟨rfl, rfl, rfl, Nat.le_refl _, fun _ _ => rfl⟩
            go_region
            have hbF : Below WA.heap.size WA WA.drew.drew := ⟨rfl, rfl, rfl, Nat.le_refl _, fun _ _ => rfl⟩
            have HBF := Lib.hid (HBA.out.later hbF)
            have HNF := Lib.hid (HNA.out.below hbF HNA.out.lt)
            have HSF := Lib.hid (HSA.out.below hbF HSA.out.lt)
            have HTF := Lib.hid (HTA.out.below hbF HTA.out.lt)
            have HKF : Hid (Keeps B0 TT W WA.drew.drew) := Lib.hid (HKA.out.trans (Keeps.of_below hbF))
            have HSX : Hid (WA.drew.drew.cell? ⟨gb, 0, none⟩ = some (.slice At T3.length ct) ∧ WA.drew.drew.cell? ⟨sb + 1, 1, none⟩ = some (.slice Ac m cc) ∧ WA.drew.drew.cell? ⟨tb, 0, none⟩ = some (.int .i64 t.k) ∧ WA.drew.drew.cell? ⟨tb, 1, none⟩ = some (.string (str t.s)) ∧ WA.drew.drew.cell? ⟨w.heap.size, 0, none⟩ = some (.slice A1 x.decl.length c1) ∧ WA.drew.drew.cell? ⟨w.heap.size, 1, none⟩ = some (.slice A2 ml.length c2) ∧ WA.drew.drew.cell? ⟨w.heap.size, 2, none⟩ = some (.slice A3 x.starts.length c3) ∧ WA.drew.drew.cell? ⟨w.heap.size, 3, none⟩ = some (.slice A4 x.rules.length c4)) := Lib.hid (HSIX.out WA.drew.drew hbF)
            have hgF : gb < WA.drew.drew.heap.size := HBF.out.gblk.lt
            have hnF : sb + 1 < WA.drew.drew.heap.size := HNF.out.lt
            have htF : tb < WA.drew.drew.heap.size := HTF.out.lt
            clear hbF z0 z1 z2 z3
            generalize WA.drew.drew = WF at *
            have HCR : Hid (WF.ownsRow B 9 1 (.slice Ac m cc) m (((s.l.take m).map (·.s)).map Nv)) := Lib.hid (by have := HBF.out.cRow; rw [HLEN.out] at this; exact this)
            obtain ⟨z0, z1, z2, z3, -, -, -, -⟩ := HSX.out
            go_wp2_with (first
              | (at_builtin
                 refine wpList_app ElStr (.tmp 111) (.tmp 114) rfl rfl (base := B) (n := m) (m := 1) (N := m + 1) (xs := ((s.l.take m).map (·.s)).map Nv) (news := [.string (str t.s)]) rfl rfl (HCR.out.alloc _) (src_str _ _) rfl (by unfold maxLen; omega) (by omega) (by rw [World.size_alloc]; exact Nat.le_trans HBF.out.bB (Nat.le_succ _)) ?_
                 intro A9 c9 w9' r1 r2 r3
                 have r3' : Grew WF (.cells #[.string (str t.s)] 9) w9' (.slice Ac m cc) (.slice A9 (m + 1) c9) := r3
                 obtain ⟨hF1, hF2, hF3⟩ := BD.cgrow (s := t.s) HBF.out HNF.out HDN.out (by rw [HLEN.out]; exact r1) r2 r3'
                 have HG1 := Lib.hid hF1
                 have HG2 := Lib.hid hF2
                 have HG3 : Hid (Blk (w9'.setCell ⟨sb + 1, 1, none⟩ (.slice A9 (m + 1) c9)) sb 125 #[.slice (some ⟨b2, off2, none⟩) s.l.length c6, .int .i64 s.p]) := Lib.hid ((r2.blk (HSF.out.alloc _) (.inr (by decide))).far (p := ⟨sb + 1, 1, none⟩) (by simp) _)
                 have HG4 : Hid (Keeps B0 TT W (w9'.setCell ⟨sb + 1, 1, none⟩ (.slice A9 (m + 1) c9))) := Lib.hid (((HKF.out.alloc _).trans (r2.mono HB0B.out (by simp))).setBlk hF3 (by have := HB0W.out; omega) (by decide) 1 _)
                 have HG5 : Hid (sb + 2 ≤ (w9'.setCell ⟨sb + 1, 1, none⟩ (.slice A9 (m + 1) c9)).heap.size) := Lib.hid (by have h1 := r2.size; have h2 := HNF.out.lt; simp [World.setCell] at h1 ⊢; omega)
                 obtain ⟨-, cA⟩ := blk2 hF3
                 have vA := hF3.frozen 1
                 clear r1 r2 r3 r3' hF1 hF2 hF3))
            go_roundw
            case rel => exact ⟨m + 1, T3, _, _, by go_num, by omega, by omega, HT3, HY2, by rw [HTK.out]; exact HG1, HG2, HG3, HG4, HG5⟩
            case measure => simp [intOf]; omega
          · rw [k1, if_neg (by simp)] at HPL
            have HY2 := Lib.hid k4
            have HLC := Lib.hid k3
            have q3 : ((t.k : Int) == 1) = true := by rw [k2]; rfl
            have q4 : ((t.k : Int) == 2) = false := by rw [k2]; rfl
            have HLF := Lib.hid (lefts_any (HTX.out WA.drew.drew (HBK.out _ (HKA.out.trans (Keeps.of_below ⟨rfl, rfl, rfl, Nat.le_refl _, fun _ _ => rfl⟩)))))
            obtain ⟨p, hp⟩ : ∃ p : Nat, p = (lefts x).findIdx (· == t.s) := ⟨_, rfl⟩
            have HPP := Lib.hid hp
            have q5 : ¬ (p : Int) < 0 := by omega
            clear k1 k2 k3 k4 hp
            go_region_held3 (fun w' => w'.cell? ⟨gb, 0, none⟩ = some (.slice At T3.length ct) ∧ w'.cell? ⟨sb + 1, 1, none⟩ = some (.slice Ac m cc) ∧ w'.cell? ⟨tb, 0, none⟩ = some (.int .i64 t.k) ∧ w'.cell? ⟨tb, 1, none⟩ = some (.string (str t.s)) ∧ w'.cell? ⟨w.heap.size, 0, none⟩ = some (.slice A1 x.decl.length c1) ∧ w'.cell? ⟨w.heap.size, 1, none⟩ = some (.slice A2 ml.length c2) ∧ w'.cell? ⟨w.heap.size, 2, none⟩ = some (.slice A3 x.starts.length c3) ∧ w'.cell? ⟨w.heap.size, 3, none⟩ = some (.slice A4 x.rules.length c4))
              (exact HSIX.out _ ⟨rfl, rfl, rfl, Nat.le_refl _, fun _ _ => rfl⟩)
              (first | (go_at_call 45; refine HPL.out.mono ?_; rintro e w' ⟨rfl, rfl⟩))
            go_wp2
            go_region_held3 (fun w' => w'.cell? ⟨gb, 0, none⟩ = some (.slice At T3.length ct) ∧ w'.cell? ⟨sb + 1, 1, none⟩ = some (.slice Ac m cc) ∧ w'.cell? ⟨tb, 0, none⟩ = some (.int .i64 t.k) ∧ w'.cell? ⟨tb, 1, none⟩ = some (.string (str t.s)) ∧ w'.cell? ⟨w.heap.size, 0, none⟩ = some (.slice A1 x.decl.length c1) ∧ w'.cell? ⟨w.heap.size, 1, none⟩ = some (.slice A2 ml.length c2) ∧ w'.cell? ⟨w.heap.size, 2, none⟩ = some (.slice A3 x.starts.length c3) ∧ w'.cell? ⟨w.heap.size, 3, none⟩ = some (.slice A4 x.rules.length c4))
              (first | exact HSIX.out _ HZ2.out | exact HSIX.out _ ⟨rfl, rfl, rfl, Nat.le_refl _, fun _ _ => rfl⟩)
              (first
                | (go_at_call 66; refine HLF.out.mono ?_; rintro e WF ⟨o, rfl, ho, hb1⟩
                   have HP1 := Lib.hid (rplace_any ho (str t.s))
                   rw [place_nat, HLC.out, if_pos rfl, ← HPP.out] at HP1
                   have HZ2 : Hid (Below WA.heap.size WA WF) := Lib.hid ((show Below WA.heap.size WA WA.drew.drew from ⟨rfl, rfl, rfl, Nat.le_refl _, fun _ _ => rfl⟩).trans (hb1.mono (Nat.le_refl _)))
                   clear ho hb1)
                | (go_at_call 45; refine HP1.out.mono ?_; rintro e w2 ⟨rfl, hw⟩; replace hw := hw.symm; subst hw))
            have HBF := Lib.hid (HBA.out.later HZ2.out)
            have HNF := Lib.hid (HNA.out.below HZ2.out HNA.out.lt)
            have HSF := Lib.hid (HSA.out.below HZ2.out HSA.out.lt)
            have HTF := Lib.hid (HTA.out.below HZ2.out HTA.out.lt)
            have HKF : Hid (Keeps B0 TT W WF) := Lib.hid (HKA.out.trans (Keeps.of_below HZ2.out))
            have HSX : Hid (WF.cell? ⟨gb, 0, none⟩ = some (.slice At T3.length ct) ∧ WF.cell? ⟨sb + 1, 1, none⟩ = some (.slice Ac m cc) ∧ WF.cell? ⟨tb, 0, none⟩ = some (.int .i64 t.k) ∧ WF.cell? ⟨tb, 1, none⟩ = some (.string (str t.s)) ∧ WF.cell? ⟨w.heap.size, 0, none⟩ = some (.slice A1 x.decl.length c1) ∧ WF.cell? ⟨w.heap.size, 1, none⟩ = some (.slice A2 ml.length c2) ∧ WF.cell? ⟨w.heap.size, 2, none⟩ = some (.slice A3 x.starts.length c3) ∧ WF.cell? ⟨w.heap.size, 3, none⟩ = some (.slice A4 x.rules.length c4)) := Lib.hid (HSIX.out WF HZ2.out)
            have hgF : gb < WF.heap.size := HBF.out.gblk.lt
            have hnF : sb + 1 < WF.heap.size := HNF.out.lt
            have htF : tb < WF.heap.size := HTF.out.lt
            have HCR : Hid (WF.ownsRow B 9 1 (.slice Ac m cc) m (((s.l.take m).map (·.s)).map Nv)) := Lib.hid (by have := HBF.out.cRow; rw [HLEN.out] at this; exact this)
            obtain ⟨z0, z1, z2, z3, -, -, -, -⟩ := HSX.out
            go_wp2_with (first
              | (at_builtin
                 refine wpList_app ElStr (.tmp 111) (.tmp 114) rfl rfl (base := B) (n := m) (m := 1) (N := m + 1) (xs := ((s.l.take m).map (·.s)).map Nv) (news := [.string (str t.s)]) rfl rfl (HCR.out.alloc _) (src_str _ _) rfl (by unfold maxLen; omega) (by omega) (by rw [World.size_alloc]; exact Nat.le_trans HBF.out.bB (Nat.le_succ _)) ?_
                 intro A9 c9 w9' r1 r2 r3
                 have r3' : Grew WF (.cells #[.string (str t.s)] 9) w9' (.slice Ac m cc) (.slice A9 (m + 1) c9) := r3
                 obtain ⟨hF1, hF2, hF3⟩ := BD.cgrow (s := t.s) HBF.out HNF.out HDN.out (by rw [HLEN.out]; exact r1) r2 r3'
                 have HG1 := Lib.hid hF1
                 have HG2 := Lib.hid hF2
                 have HG3 : Hid (Blk (w9'.setCell ⟨sb + 1, 1, none⟩ (.slice A9 (m + 1) c9)) sb 125 #[.slice (some ⟨b2, off2, none⟩) s.l.length c6, .int .i64 s.p]) := Lib.hid ((r2.blk (HSF.out.alloc _) (.inr (by decide))).far (p := ⟨sb + 1, 1, none⟩) (by simp) _)
                 have HG4 : Hid (Keeps B0 TT W (w9'.setCell ⟨sb + 1, 1, none⟩ (.slice A9 (m + 1) c9))) := Lib.hid (((HKF.out.alloc _).trans (r2.mono HB0B.out (by simp))).setBlk hF3 (by have := HB0W.out; omega) (by decide) 1 _)
                 have HG5 : Hid (sb + 2 ≤ (w9'.setCell ⟨sb + 1, 1, none⟩ (.slice A9 (m + 1) c9)).heap.size) := Lib.hid (by have h1 := r2.size; have h2 := HNF.out.lt; simp [World.setCell] at h1 ⊢; omega)
                 obtain ⟨-, cA⟩ := blk2 hF3
                 have vA := hF3.frozen 1
                 clear r1 r2 r3 r3' hF1 hF2 hF3))
            go_roundw
            case rel => exact ⟨m + 1, T3, _, _, by go_num, by omega, by omega, HT3, HY2, by rw [HTK.out]; exact HG1, HG2, HG3, HG4, HG5⟩
            case measure => simp [intOf]; omega
          · rw [k1, if_neg (by simp)] at HPL
            have HY2 := Lib.hid k4
            have q3 : ((t.k : Int) == 1) = false := by rw [k2]; rfl
            have q4 : ((t.k : Int) == 2) = true := by rw [k2]; rfl
            have q5 : ¬ (120 : Int) ≤ (T3.length : Int) := by omega
            have q6 : (T3.length : Int) < 120 := by omega
            have hT120 : T3.length < 120 := k3
            clear k1 k2 k3 k4
            go_region_held3 (fun w' => w'.cell? ⟨gb, 0, none⟩ = some (.slice At T3.length ct) ∧ w'.cell? ⟨sb + 1, 1, none⟩ = some (.slice Ac m cc) ∧ w'.cell? ⟨tb, 0, none⟩ = some (.int .i64 t.k) ∧ w'.cell? ⟨tb, 1, none⟩ = some (.string (str t.s)) ∧ w'.cell? ⟨w.heap.size, 0, none⟩ = some (.slice A1 x.decl.length c1) ∧ w'.cell? ⟨w.heap.size, 1, none⟩ = some (.slice A2 ml.length c2) ∧ w'.cell? ⟨w.heap.size, 2, none⟩ = some (.slice A3 x.starts.length c3) ∧ w'.cell? ⟨w.heap.size, 3, none⟩ = some (.slice A4 x.rules.length c4))
              (exact HSIX.out _ ⟨rfl, rfl, rfl, Nat.le_refl _, fun _ _ => rfl⟩)
              (first | (go_at_call 45; refine HPL.out.mono ?_; rintro e w' ⟨rfl, rfl⟩))
            go_wp2
            obtain ⟨z0, z1, z2, z3, -, -, -, -⟩ := HSIX.out WA.drew ⟨rfl, rfl, rfl, Nat.le_refl _, fun _ _ => rfl⟩
            go_region
            have hbF : Below WA.heap.size WA WA.drew.drew := ⟨rfl, rfl, rfl, Nat.le_refl _, fun _ _ => rfl⟩
            have HBG := Lib.hid (HBA.out.later hbF)
            have HNG := Lib.hid (HNA.out.below hbF HNA.out.lt)
            have HSG := Lib.hid (HSA.out.below hbF HSA.out.lt)
            have HTG := Lib.hid (HTA.out.below hbF HTA.out.lt)
            have HKG : Hid (Keeps B0 TT W WA.drew.drew) := Lib.hid (HKA.out.trans (Keeps.of_below hbF))
            have HSX : Hid (WA.drew.drew.cell? ⟨gb, 0, none⟩ = some (.slice At T3.length ct) ∧ WA.drew.drew.cell? ⟨sb + 1, 1, none⟩ = some (.slice Ac m cc) ∧ WA.drew.drew.cell? ⟨tb, 0, none⟩ = some (.int .i64 t.k) ∧ WA.drew.drew.cell? ⟨tb, 1, none⟩ = some (.string (str t.s)) ∧ WA.drew.drew.cell? ⟨w.heap.size, 0, none⟩ = some (.slice A1 x.decl.length c1) ∧ WA.drew.drew.cell? ⟨w.heap.size, 1, none⟩ = some (.slice A2 ml.length c2) ∧ WA.drew.drew.cell? ⟨w.heap.size, 2, none⟩ = some (.slice A3 x.starts.length c3) ∧ WA.drew.drew.cell? ⟨w.heap.size, 3, none⟩ = some (.slice A4 x.rules.length c4)) := Lib.hid (HSIX.out WA.drew.drew hbF)
            have hgG : gb < WA.drew.drew.heap.size := HBG.out.gblk.lt
            have hnG : sb + 1 < WA.drew.drew.heap.size := HNG.out.lt
            have htG : tb < WA.drew.drew.heap.size := HTG.out.lt
            clear hbF z0 z1 z2 z3
            generalize WA.drew.drew = WB at *
            obtain ⟨z0, z1, z2, z3, -, -, -, -⟩ := HSX.out
            go_wp2
            have HBD2 := Lib.hid HBG.out.drew
            have HTR := Lib.hid HBD2.out.tRow
            have v0 := HBG.out.gblk.frozen 0
            have hBB := HBG.out.bB
            go_region_law (first
              | (refine step_app ElStr (.tmp 103) (.tmp 106) ?_ ?_ (base := B) (n := T3.length) (m := 1) (N := T3.length + 1) (v := .slice At T3.length ct) (src := .slice (some ⟨WB.heap.size, 0, none⟩) 1 1) (xs := T3.map Nv) (news := [.string (str t.s)]) ?_ ?_ ?_ ?_ ?_ ?_ ?_ ?_ ?_
                 · rfl
                 · rfl
                 · rfl
                 · rfl
                 · exact HTR.out.alloc _
                 · exact src_str WB.drew _
                 · rfl
                 · unfold maxLen; omega
                 · omega
                 · simp; omega
                 intro A8 c8 w8 r1 r2 r3
                 have r3' : Grew WB.drew (.cells #[.string (str t.s)] 9) w8 (.slice At T3.length ct) (.slice A8 (T3.length + 1) c8) := r3
                 obtain ⟨hF1, hF3⟩ := BD.tgrow (s := t.s) HBD2.out r1 r2 r3'
                 have HBF := Lib.hid hF1
                 have HNF : Hid (Blk (w8.setCell ⟨gb, 0, none⟩ (.slice A8 (T3.length + 1) c8)) (sb + 1) 65 #[.string (str r.left.s), .slice Ac m cc]) := Lib.hid ((r2.blk (HNG.out.drew.alloc _) (.inr (by decide))).far (p := ⟨gb, 0, none⟩) (Ne.symm (Blk.ne_ HBG.out.gblk HNG.out (by decide))) _)
                 have HSF : Hid (Blk (w8.setCell ⟨gb, 0, none⟩ (.slice A8 (T3.length + 1) c8)) sb 125 #[.slice (some ⟨b2, off2, none⟩) s.l.length c6, .int .i64 s.p]) := Lib.hid ((r2.blk (HSG.out.drew.alloc _) (.inr (by decide))).far (p := ⟨gb, 0, none⟩) (Ne.symm (Blk.ne_ HBG.out.gblk HSG.out (by decide))) _)
                 have HTF : Hid (Blk (w8.setCell ⟨gb, 0, none⟩ (.slice A8 (T3.length + 1) c8)) tb 60 #[.int .i64 t.k, .string (str t.s), .int .i64 t.p]) := Lib.hid ((r2.blk (HTG.out.drew.alloc _) (.inr (by decide))).far (p := ⟨gb, 0, none⟩) (Ne.symm (Blk.ne_ HBG.out.gblk HTG.out (by decide))) _)
                 have HKF : Hid (Keeps B0 TT W (w8.setCell ⟨gb, 0, none⟩ (.slice A8 (T3.length + 1) c8))) := Lib.hid (((HKG.out.drew.alloc _).trans (r2.mono HB0B.out (by decide))).setBlk hF3 hg0 (by decide) 0 _)
                 obtain ⟨cA, -, -, -⟩ := blk4 hF3
                 have vA := hF3.frozen 0
                 clear r1 r2 r3 r3' hF1 hF3))
            all_goals clear cA vA z0 z1 z2 z3 v0 hBB HBD2 HTR
            all_goals generalize w8.setCell ⟨gb, 0, none⟩ (.slice A8 (T3.length + 1) c8) = WF at *
            all_goals
              have hgF : gb < WF.heap.size := HBF.out.gblk.lt
              have hnF : sb + 1 < WF.heap.size := HNF.out.lt
              have htF : tb < WF.heap.size := HTF.out.lt
              obtain ⟨z2, z3, -⟩ := blk3 HTF.out
              obtain ⟨-, z1⟩ := blk2 HNF.out
              have HCR : Hid (WF.ownsRow B 9 1 (.slice Ac m cc) m (((s.l.take m).map (·.s)).map Nv)) := Lib.hid (by have := HBF.out.cRow; rw [HLEN.out] at this; exact this)
              go_wp2_with (first
                | (at_builtin
                   refine wpList_app ElStr (.tmp 111) (.tmp 114) rfl rfl (base := B) (n := m) (m := 1) (N := m + 1) (xs := ((s.l.take m).map (·.s)).map Nv) (news := [.string (str t.s)]) rfl rfl (HCR.out.alloc _) (src_str _ _) rfl (by unfold maxLen; omega) (by omega) (by rw [World.size_alloc]; exact Nat.le_trans HBF.out.bB (Nat.le_succ _)) ?_
                   intro A9 c9 w9' r1 r2 r3
                   have r3' : Grew WF (.cells #[.string (str t.s)] 9) w9' (.slice Ac m cc) (.slice A9 (m + 1) c9) := r3
                   obtain ⟨hF1, hF2, hF3⟩ := BD.cgrow (s := t.s) HBF.out HNF.out HDN.out (by rw [HLEN.out]; exact r1) r2 r3'
                   have HG1 := Lib.hid hF1
                   have HG2 := Lib.hid hF2
                   have HG3 : Hid (Blk (w9'.setCell ⟨sb + 1, 1, none⟩ (.slice A9 (m + 1) c9)) sb 125 #[.slice (some ⟨b2, off2, none⟩) s.l.length c6, .int .i64 s.p]) := Lib.hid ((r2.blk (HSF.out.alloc _) (.inr (by decide))).far (p := ⟨sb + 1, 1, none⟩) (by simp) _)
                   have HG4 : Hid (Keeps B0 TT W (w9'.setCell ⟨sb + 1, 1, none⟩ (.slice A9 (m + 1) c9))) := Lib.hid (((HKF.out.alloc _).trans (r2.mono HB0B.out (by simp))).setBlk hF3 (by have := HB0W.out; omega) (by decide) 1 _)
                   have HG5 : Hid (sb + 2 ≤ (w9'.setCell ⟨sb + 1, 1, none⟩ (.slice A9 (m + 1) c9)).heap.size) := Lib.hid (by have h1 := r2.size; have h2 := HNF.out.lt; simp [World.setCell] at h1 ⊢; omega)
                   obtain ⟨-, cA⟩ := blk2 hF3
                   have vA := hF3.frozen 1
                   clear r1 r2 r3 r3' hF1 hF2 hF3))
              go_roundw
              case rel => exact ⟨m + 1, T3 ++ [t.s], _, _, by go_num, by omega, by omega, Lib.hid (by have := HT3.out; simp; omega), HY2, by rw [HTK.out]; exact HG1, HG2, HG3, HG4, HG5⟩
              case measure => simp [intOf]; omega
        · obtain rfl : m = s.l.length := by omega
          have hsy := HSY.out
          rw [List.drop_length] at hsy
          obtain rfl : T3 = T2 := by unfold symF at hsy; exact Option.some.inj hsy
          have hcl : (s.l.take s.l.length).map (·.s) = rightN s := by rw [List.take_length]; rfl
          rw [hcl] at HBD
          obtain ⟨Ac, cc, hcv⟩ := own_shape HBD.out.cRow
          subst hcv
          have hdcell := own_cells (f := DV.cells) (fun a => rfl) HBD.out.dR
          have HDC := Lib.hid hdcell
          have HB0B : Hid (B0 ≤ B) := Lib.hid (by have := HBD.out.gbB; omega)
          clear hsy hcl hdcell HSY
          go_wp2
          clear s0 s1
          have HDL : Hid (db < wr.heap.size) := Lib.hid HBD.out.dblk.lt
          have HBR := Lib.hid (Below.refl wr.heap.size wr)
          obtain ⟨WX, hWX⟩ : ∃ WX, WX = wr := ⟨_, rfl⟩
          rw [← hWX] at HBD HNB HSD HK3 HWS HDC HDL HBR hsl3 hnl3
          have HWX : Hid (Below WX.heap.size WX wr) := Lib.hid (by rw [hWX]; exact Below.refl _ _)
          clear hWX
          go_loopw [15] (fun i wy => ∃ j : Nat, i = .int .i64 j ∧ j ≤ ds1.length ∧ Hid (Below WX.heap.size WX wy)) (fun i _ => ds1.length - (intOf i).toNat)
          case atStart => exact ⟨0, rfl, Nat.zero_le _, HWX⟩
          case round =>
            rename World => wy
            obtain ⟨j, rfl, hj, HBY⟩ := hrel
            have hds : ds1.length ≤ 300 := by omega
            have HBDy := Lib.hid (HBD.out.later HBY.out)
            have HNBy := Lib.hid (HNB.out.below HBY.out HNB.out.lt)
            have hdly := HBDy.out.dblk.lt
            have hnly := HNBy.out.lt
            have w0' := HBDy.out.dblk.cell 0
            simp at w0'
            by_cases hlt3 : j < ds1.length
            · obtain ⟨d, hd⟩ : ∃ d, ds1[j]? = some d := ⟨_, List.getElem?_eq_getElem hlt3⟩
              obtain ⟨A', c', hAc, hcells⟩ := HDC.out
              obtain ⟨b3, hA3, hb3l, hcell3⟩ := hcells j d hd
              cases hAc
              subst hA3
              have f0 := hcell3 0 (by omega)
              have f1 := hcell3 1 (by omega)
              have f0 : WX.cell? ⟨b3, j * 2, none⟩ = some (.string (str d.left)) := f0
              have f1 : WX.cell? ⟨b3, j * 2 + 1, none⟩ = some d.v := f1
              have hdm := List.mem_of_getElem? hd
              obtain ⟨Ae, ce, hdv⟩ := own_shape (HBD.out.rRow hdm)
              rw [hdv] at f1
              have hrow := HBDy.out.rRow hdm
              rw [hdv] at hrow
              have hne := List.any_eq_false.1 HANY.out d.dn (List.mem_map_of_mem hdm)
              have hne' : ¬ (d.left = r.left.s ∧ d.right = rightN s) := by
                intro e
                apply hne
                unfold DV.dn
                simp [e.1, e.2]
              have q1 : (j : Int) < (ds1.length : Int) := by omega
              have hb3y : b3 < wy.heap.size := Nat.lt_of_lt_of_le hb3l HBY.out.size
              have HSIX : Hid (∀ y, Below wy.heap.size wy y → y.cell? ⟨db, 0, none⟩ = some (.slice (some ⟨b3, 0, none⟩) ds1.length cd) ∧ y.cell? ⟨b3, j * 2, none⟩ = some (.string (str d.left)) ∧ y.cell? ⟨b3, j * 2 + 1, none⟩ = some (.slice Ae d.right.length ce) ∧ y.cell? ⟨sb + 1, 0, none⟩ = some (.string (str r.left.s)) ∧ y.cell? ⟨sb + 1, 1, none⟩ = some (.slice Ac (rightN s).length cc)) := Lib.hid (fun y hy => by
                have hXy := HBY.out.trans (hy.mono HBY.out.size)
                have hcX := Chg.of_below (X := fun _ => False) hXy
                obtain ⟨a3, a4⟩ := blk2 (HNBy.out.below hy HNBy.out.lt)
                have a0 := (HBDy.out.later hy).dblk.cell 0
                simp at a0
                exact ⟨a0, (hcX.cell hb3l id).trans f0, (hcX.cell hb3l id).trans f1, a3, a4⟩)
              have HNE := Lib.hid hne'
              have HD8 := Lib.hid (HR1.out d hdm)
              have hR8 : (rightN s).length ≤ 100000 := by unfold rightN; rw [List.length_map]; exact hsl6
              have HROW := Lib.hid (((Chg.refl (fun _ => False) wy).drew).own hrow (fun _ _ => id))
              have HCROW := Lib.hid HBDy.out.drew.cRow
              clear hd hcells hcell3 f0 f1 hdv hrow hne hne' hdm
              go_wp2
              clear w0'
              by_cases hle : d.left = r.left.s
              · have q3 : ((str d.left).toList == (str r.left.s).toList) = true := by rw [hle]; simp
                have q4 : (d.right == rightN s) = false := by rw [beq_eq_false_iff_ne]; exact fun e => HNE.out ⟨hle, e⟩
                have HSAME := Lib.hid (same4g_any (arr_nv HROW.out (by have := HD8.out; omega)) (arr_nv HCROW.out hR8))
                rw [q4] at HSAME
                clear hle
                go_region_held3 (fun w' => w'.cell? ⟨db, 0, none⟩ = some (.slice (some ⟨b3, 0, none⟩) ds1.length cd) ∧ w'.cell? ⟨b3, j * 2, none⟩ = some (.string (str d.left)) ∧ w'.cell? ⟨b3, j * 2 + 1, none⟩ = some (.slice Ae d.right.length ce) ∧ w'.cell? ⟨sb + 1, 0, none⟩ = some (.string (str r.left.s)) ∧ w'.cell? ⟨sb + 1, 1, none⟩ = some (.slice Ac (rightN s).length cc))
                  (first | exact HSIX.out _ HZ2.out | exact HSIX.out _ ⟨rfl, rfl, rfl, Nat.le_refl _, fun _ _ => rfl⟩)
                  (first
                    | (go_at_call 27; refine HSAME.out.mono ?_; rintro e w2 ⟨rfl, q, rfl⟩
                       have HZ2 : Hid (Below wy.heap.size wy (wy.drew.drewN q)) := Lib.hid ⟨rfl, rfl, rfl, Nat.le_refl _, fun _ _ => rfl⟩))
                go_wp2
                go_roundw
                case rel => exact ⟨j + 1, by go_num, by omega, Lib.hid (HBY.out.trans ⟨rfl, rfl, rfl, Nat.le_refl _, fun _ _ => rfl⟩)⟩
                case measure => simp [intOf]; omega
              · have q3 : ((str d.left).toList == (str r.left.s).toList) = false := by
                  rw [beq_eq_false_iff_ne]
                  exact fun e => hle (str_inj (bytes_eq e))
                obtain ⟨a0, a1, a2, a3, a4⟩ := HSIX.out wy (Below.refl _ _)
                clear hle
                go_region
                go_wp2
                go_roundw
                case rel => exact ⟨j + 1, by go_num, by omega, Lib.hid (HBY.out.trans ⟨rfl, rfl, rfl, Nat.le_refl _, fun _ _ => rfl⟩)⟩
                case measure => simp [intOf]; omega
            · obtain rfl : j = ds1.length := by omega
              have HKy : Hid (Keeps B0 TT W wy) := Lib.hid (HK3.out.trans (Keeps.of_below HBY.out))
              go_wp2
              obtain ⟨b0', b1'⟩ := blk2 HNBy.out
              have v0 := HBDy.out.dblk.frozen 0
              have HBD2 := Lib.hid HBDy.out.drew
              have HDR2 := Lib.hid HBD2.out.dR
              have hBB := HBDy.out.bB
              go_region_law (first
                | (refine step_app ElNamed (.tmp 153) (.tmp 155) ?_ ?_ (base := B) (n := ds1.length) (m := 1) (N := ds1.length + 1) (v := .slice Ad ds1.length cd) (src := .slice (some ⟨wy.heap.size, 0, none⟩) 1 1) (xs := ds1.flatMap DV.cells) (news := [.string (str r.left.s), .slice Ac (rightN s).length cc]) ?_ ?_ ?_ ?_ ?_ ?_ ?_ ?_ ?_
                   · rfl
                   · rfl
                   · rfl
                   · rfl
                   · exact HDR2.out.alloc _
                   · exact src_named wy.drew _ _ _ _
                   · rfl
                   · unfold maxLen; omega
                   · omega
                   · simp; omega
                   intro A8 c8 w8 r1 r2 r3
                   have r3' : Grew wy.drew (.cells #[.string (str r.left.s), .slice Ac (rightN s).length cc] 65) w8 (.slice Ad ds1.length cd) (.slice A8 (ds1.length + 1) c8) := r3
                   obtain ⟨hF1, hF3⟩ := BD.dgrow (left := r.left.s) HBD2.out r1 r2 r3'
                   have HBF := Lib.hid hF1
                   have HKF : Hid (Keeps B0 TT W (w8.setCell ⟨db, 0, none⟩ (.slice A8 (ds1.length + 1) c8))) := Lib.hid (((HKy.out.drew.alloc _).trans (r2.mono HB0B.out (by simp))).setBlk hF3 hd0 (by decide) 0 _)
                   have cA := hF3.cell 0
                   simp at cA
                   have vA := hF3.frozen 0
                   clear r1 r2 r3 r3' hF1 hF3))
              all_goals go_wp2
              all_goals go_roundw
              all_goals first
                | (case measure => simp [intOf]; omega)
                | (case rel =>
                    refine ⟨k + 1, T3, tv3, _, ds1 ++ [⟨r.left.s, rightN s, .slice Ac (rightN s).length cc⟩], by go_num, by omega, HT3, Lib.hid ?_, Lib.hid ?_, HBF, HKF⟩
                    · intro d hd
                      rcases List.mem_append.1 hd with hd | hd
                      · exact HR1.out d hd
                      · rw [List.mem_singleton] at hd
                        subst hd
                        show (rightN s).length ≤ 8
                        unfold rightN
                        rw [List.length_map]
                        exact hm8
                    · rw [List.map_append]
                      exact HSIDE.out)
                | skip
    · obtain rfl : k = r.sides.length := by omega
      have hE := HF.out
      rw [List.drop_length] at hE
      unfold sideF at hE
      have hE2 := Option.some.inj hE
      have HE1 : Hid (T1 = T') := Lib.hid (congrArg Prod.fst hE2)
      have HE2 : Hid (ds1.map DV.dn = d') := Lib.hid (congrArg Prod.snd hE2)
      obtain ⟨o0, o1⟩ := blk2 HSB9.out.f
      have v0 := HSB9.out.f.frozen 0
      have v1 := HSB9.out.f.frozen 1
      have hff := HSB9.out.f.lt
      clear hE hE2
      go_wp2
      have hF2 := set2_blk (y0 := .int .i64 0) (y1 := .int .i64 0) HSB9.out.f
      obtain ⟨r0', r1'⟩ := blk2 hF2
      refine bodyPost_ret (v := .agg #[.int .i64 0, .int .i64 0]) (by simp [results, Tryd.results46, go_sem, r0', r1']) rfl ?_
      have hf1 := HSB9.out.f.set_ 0 (.int .i64 0)
      have hK : Keeps B0 TT w ((w9.setCell ⟨w.heap.size + 1 + 1, 0, none⟩ (.int .i64 0)).setCell ⟨w.heap.size + 1 + 1, 1, none⟩ (.int .i64 0)) := (((Keeps.of_below HBW.out).trans HK.out).setNew (p := ⟨w.heap.size + 1 + 1, 0, none⟩) (by simp; omega) _).setNew (p := ⟨w.heap.size + 1 + 1, 1, none⟩) (by simp; omega) _
      have hB1 := HD.out.set (i := 0) HSB9.out.f (by decide) (by decide) (by decide) (by decide) (.int .i64 0)
      have hB2 := hB1.set (i := 1) hf1 (by decide) (by decide) (by decide) (by decide) (.int .i64 0)
      rw [← HE1.out]
      exact ⟨rfl, hK, tv1, dv1, ds1, HE2.out, HT1.out, HR1.out, hB2⟩
end Go.Proofs.YtnpjhndgdlihjaaDoor
