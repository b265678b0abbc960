/- The builder: the grammar. -/
import Derived.Test.YtnpjhndgdlihjaaDoorZi
import Derived.Deep.DeepCutAuto
namespace Go.Proofs.YtnpjhndgdlihjaaDoor
open Go.RowKit Go.Maps
set_option linter.unusedVariables false
/-- The grammar that has been built, as it lies. -/
structure Has (w0 w : World) (tv nv Rv : Value) (g : PG) (R : List RuG) : Prop where
  ft : w.ownsRow w0.heap.size 9 1 tv g.T.length (g.T.map Nv)
  fn : w.ownsRow w0.heap.size 9 1 nv g.N.length (g.N.map Nv)
  fR : w.ownsRow w0.heap.size 68 2 Rv R.length (R.flatMap RuG.cells)
  rights : ∀ q ∈ R, w.ownsRow w0.heap.size 3 1 q.v q.r.length (q.r.map Mark)
  r : R.map RuG.g = g.R
def GEnd (w0 : World) (r : Except Flt PG) (e : Ending) (w' : World) : Prop :=
  Below w0.heap.size w0 w' ∧ match r with
  | .ok g => ∃ tv nv Rv R, e = .returned (.agg #[tv, nv, Rv, .int .i64 g.s]) ∧ Has w0 w' tv nv Rv g R
  | .error f => GivesO f e
theorem rule_cells {w : World} {B : Nat} {g : Nat} {c : Nat} {l : List GRu} {k : Nat} {q : GRu} (h : w.ownsRow B 113 4 (.slice (some ⟨g, 0, none⟩) l.length c) l.length (l.flatMap GRu.cells)) (ht : l[k]? = some q) :
    w.cell? ⟨g, k * 4, none⟩ = some (.int .i64 q.left.k) ∧ w.cell? ⟨g, k * 4 + 1, none⟩ = some (.string (str q.left.s)) ∧ w.cell? ⟨g, k * 4 + 2, none⟩ = some (.int .i64 q.left.p) ∧ w.cell? ⟨g, k * 4 + 3, none⟩ = some q.v := by
  obtain ⟨hk, hx⟩ := List.getElem?_eq_some_iff.1 ht
  have hg : ∀ j, j < 4 → (l.flatMap GRu.cells)[k * 4 + j]? = (GRu.cells q)[j]? := fun j hj => by rw [fm_get GRu.cells 4 (fun _ => rfl) l k j hk hj, hx]
  have e0 := own_cell h (k * 4) (by omega)
  have e1 := own_cell h (k * 4 + 1) (by omega)
  have e2 := own_cell h (k * 4 + 2) (by omega)
  have e3 := own_cell h (k * 4 + 3) (by omega)
  rw [e0, e1, e2, e3, hg 1 (by omega), hg 2 (by omega), hg 3 (by omega)]
  have := hg 0 (by omega)
  rw [Nat.add_zero] at this
  rw [this]
  exact ⟨rfl, rfl, rfl, rfl⟩
theorem side_cells {w : World} {B : Nat} {g : Nat} {c : Nat} {l : List GS} {k : Nat} {q : GS} (h : w.ownsRow B 116 2 (.slice (some ⟨g, 0, none⟩) l.length c) l.length (l.flatMap GS.cells)) (ht : l[k]? = some q) :
    w.cell? ⟨g, k * 2, none⟩ = some q.v ∧ w.cell? ⟨g, k * 2 + 1, none⟩ = some (.int .i64 q.s.p) := by
  obtain ⟨hk, hx⟩ := List.getElem?_eq_some_iff.1 ht
  have hg : ∀ j, j < 2 → (l.flatMap GS.cells)[k * 2 + j]? = (GS.cells q)[j]? := fun j hj => by rw [fm_get GS.cells 2 (fun _ => rfl) l k j hk hj, hx]
  have e0 := own_cell h (k * 2) (by omega)
  have e1 := own_cell h (k * 2 + 1) (by omega)
  rw [e0, e1, hg 1 (by omega)]
  have := hg 0 (by omega)
  rw [Nat.add_zero] at this
  rw [this]
  exact ⟨rfl, rfl⟩
theorem drop_some {α : Type} {l : List α} {k : Nat} {a : α} (h : l[k]? = some a) : l.drop k = a :: l.drop (k + 1) := by
  obtain ⟨hk', e⟩ := List.getElem?_eq_some_iff.1 h
  rw [List.drop_eq_getElem_cons hk', e]
theorem row_cap {w : World} {B n g c : Nat} {e : TypeId} {s : Nat} {xs : List Value} (h : w.ownsRow B e s (.slice (some ⟨g, 0, none⟩) n c) n xs) : n ≤ c ∧ c ≤ 9223372036854775807 := by
  rcases own_form h with ⟨h1, _⟩ | ⟨b, c2, h1, _, _, h2, h3, _⟩
  · cases h1
  · cases h1
    unfold maxLen at h3
    exact ⟨h2, by omega⟩
def ZG : Array Value := #[.slice none 0 0, .slice none 0 0, .slice none 0 0, .int .i64 0]
theorem keep_blk {w0 w w' : World} {bb tm nm rb g : Nat} {tv nv gv : Value} {b : Bd} {gs : List GN} {DT DN : DataW Unit} {t : TypeId} {cs : Array Value} (h : BAt w0 w bb tm nm rb tv nv gv b gs DT DN) (hc : Chg (Mine bb tm nm tv nv) w w') (hb : Blk w g t cs) (h1 : t ≠ 88) (h2 : t ≠ 9) : Blk w' g t cs := hc.blk hb (mine_no h hb h1 h2)
theorem keep_blkG {w0 w w' : World} {bb tm nm rb g : Nat} {tv nv gv : Value} {b : Bd} {gs : List GN} {DT DN : DataW Unit} {t : TypeId} {cs : Array Value} (h : BAt w0 w bb tm nm rb tv nv gv b gs DT DN) (hc : Chg (MineG bb tm nm tv nv gv) w w') (hb : Blk w g t cs) (h1 : t ≠ 88) (h2 : t ≠ 9) (h3 : t ≠ 27) : Blk w' g t cs := hc.blk hb (mineG_no h hb h1 h2 h3)
/-- What is handed back, laid into a block of its own. -/
theorem GAt.last {w0 w : World} {bb g0 : Nat} {p1 p2 p3 tv nv gv Rv : Value} {b : Bd} {gs : List GN} {R : List RuG} {st : Int} {g : PG} (h : GAt w0 w bb p1 p2 p3 tv nv gv Rv b gs R st) (hg : Blk w g0 30 ZG) (hg0 : w0.heap.size ≤ g0) (hT : g.T = b.T) (hN : g.N = b.N) (hR : R.map RuG.g = g.R) (hs : (g.s : Int) = st) (u0 u1 u2 u3 : Value) :
    GEnd w0 (.ok g) (.returned (.agg #[tv, nv, Rv, .int .i64 st])) ((((w.setCell ⟨g0, 0, none⟩ u0).setCell ⟨g0, 1, none⟩ u1).setCell ⟨g0, 2, none⟩ u2).setCell ⟨g0, 3, none⟩ u3) := by
  have hX : Chg (· = g0) w ((((w.setCell ⟨g0, 0, none⟩ u0).setCell ⟨g0, 1, none⟩ u1).setCell ⟨g0, 2, none⟩ u2).setCell ⟨g0, 3, none⟩ u3) := ((((Chg.refl (· = g0) w).set (p := ⟨g0, 0, none⟩) (.inr rfl) _).set (p := ⟨g0, 1, none⟩) (.inr rfl) _).set (p := ⟨g0, 2, none⟩) (.inr rfl) _).set (p := ⟨g0, 3, none⟩) (.inr rfl) _
  have hrow : ∀ {e : TypeId} {sz n : Nat} {v : Value} {xs : List Value}, w.ownsRow w0.heap.size e sz v n xs → e ≠ 30 → World.ownsRow ((((w.setCell ⟨g0, 0, none⟩ u0).setCell ⟨g0, 1, none⟩ u1).setCell ⟨g0, 2, none⟩ u2).setCell ⟨g0, 3, none⟩ u3) w0.heap.size e sz v n xs := by
    intro e sz n v xs hr he
    refine hX.own hr ?_
    rintro k hk rfl
    exact row_blk hr hg he hk
  refine ⟨h.below.trans (hX.below h.below.size (fun k hk e => by omega)), tv, nv, Rv, R, by rw [hs], ⟨?_, ?_, hrow h.fR (by decide), fun q hq => hrow (h.rights q hq) (by decide), hR⟩⟩
  · rw [hT]; exact hrow h.ft (by decide)
  · rw [hN]; exact hrow h.fn (by decide)
set_option maxRecDepth 100000 in
set_option maxHeartbeats 8000000 in
theorem build_any {w0 w : World} {bb tm nm rb : Nat} {tv nv gv : Value} {DT DN : DataW Unit} (h : BAt w0 w bb tm nm rb tv nv gv ⟨[], [], []⟩ [] DT DN) {B mb : Nat} {tb : Option Nat} {l : List Tk} {x : Txt} {dv kv sv rv : Value} {rs : List GRu} {D : DataW Unit} (hr : Rules w0 B rb mb tb l x dv kv sv rv rs D) (hrl : rs.map GRu.r = x.rules)
    (hsame : x.marks.length = x.starts.length) (hsd : ∀ t ∈ x.decl, t.s.length ≤ 8192) (hss : ∀ t ∈ x.starts, t.s.length ≤ 8192) (hsl : secondL x.marks ≤ 100000)
    (hsr : ∀ r ∈ rs, r.left.s.length ≤ 8192 ∧ ∀ q ∈ r.ss, (∀ t ∈ q.s.l, t.s.length ≤ 8192) ∧ q.s.l.length ≤ 100000) :
    Calls Tryd.prog 38 #[.pointer (some ⟨bb, 0, none⟩)] w (GEnd w0 (buildL x)) := by
  have HA0 := Lib.hid (h.alloc (.cells ZG 30))
  have HG0 := Lib.hid (Blk.new w 30 ZG)
  have HHD := Lib.hid (bheads_any HA0.out hr hrl hsame hsd hss rfl hsl)
  have hw0 := h.below.size
  have hg0 : w.heap.size < (w.alloc (.cells ZG 30)).heap.size := by simp
  unfold ZG at HHD
  have HCE : Hid (∀ w', Below w0.heap.size w0 w' → w'.cell? ⟨rb, 3, none⟩ = some sv ∧ w'.cell? ⟨rb, 4, none⟩ = some rv) := Lib.hid (fun w' hb => by
    obtain ⟨_, _, a3, a4, _, _⟩ := (hr.later hb).heads.stand.cells
    exact ⟨a3, a4⟩)
  obtain ⟨As, cs, hsv⟩ := own_shape hr.heads.starts
  obtain ⟨Ar, cr, hrv⟩ := own_shape hr.rules
  have HRL : Hid (∀ k q, rs[k]? = some q → ∃ g c, rv = .slice (some ⟨g, 0, none⟩) rs.length c ∧ ∀ w', Below w0.heap.size w0 w' → w'.cell? ⟨g, k * 4, none⟩ = some (.int .i64 q.left.k) ∧ w'.cell? ⟨g, k * 4 + 1, none⟩ = some (.string (str q.left.s)) ∧ w'.cell? ⟨g, k * 4 + 2, none⟩ = some (.int .i64 q.left.p) ∧ w'.cell? ⟨g, k * 4 + 3, none⟩ = some q.v) := Lib.hid (fun k t ht => by
    obtain ⟨hk, _⟩ := List.getElem?_eq_some_iff.1 ht
    obtain ⟨g, c, hv⟩ := row_some hr.rules (by omega)
    refine ⟨g, c, hv, fun w' hw' => ?_⟩
    have h2 := (Chg.of_below (X := fun _ => False) hw').own hr.rules (fun _ _ => id)
    rw [hv] at h2
    exact rule_cells h2 ht)
  have HSL : Hid (∀ q ∈ rs, (∃ A c, q.v = .slice A q.ss.length c) ∧ q.ss.length ≤ 9223372036854775807 ∧ ∀ j s, q.ss[j]? = some s → ∃ g c, q.v = .slice (some ⟨g, 0, none⟩) q.ss.length c ∧ ∀ w', Below w0.heap.size w0 w' → w'.cell? ⟨g, j * 2, none⟩ = some s.v ∧ w'.cell? ⟨g, j * 2 + 1, none⟩ = some (.int .i64 s.s.p)) := Lib.hid (fun q hq => by
    have hgd := (hr.good q hq).1
    refine ⟨own_shape hgd, (by have := own_max hgd; unfold maxLen at this; omega), fun j s hs => ?_⟩
    obtain ⟨hk, _⟩ := List.getElem?_eq_some_iff.1 hs
    obtain ⟨g, c, hv⟩ := row_some hgd (by omega)
    refine ⟨g, c, hv, fun w' hw' => ?_⟩
    have h2 := (Chg.of_below (X := fun _ => False) hw').own hgd (fun _ _ => id)
    rw [hv] at h2
    exact side_cells h2 hs)
  have HST : Hid ((x.starts = [] ∧ x.starts.length = 0) ∨ ∃ st r, x.starts = st :: r ∧ (0 : Int) < (x.starts.length : Int) ∧ ∃ g c, sv = .slice (some ⟨g, 0, none⟩) x.starts.length c ∧ ∀ w', Below w0.heap.size w0 w' → w'.cell? ⟨g, 1, none⟩ = some (.string (str st.s))) := Lib.hid (by
    cases hs : x.starts with
    | nil => exact .inl ⟨rfl, rfl⟩
    | cons st r =>
      have hpos : 0 < x.starts.length := by rw [hs]; simp
      obtain ⟨g, c, hv⟩ := row_some hr.heads.starts hpos
      refine .inr ⟨st, r, rfl, by rw [← hs]; omega, g, c, by rw [← hs]; exact hv, fun w' hw' => ?_⟩
      have h2 := (Chg.of_below (X := fun _ => False) hw').own hr.heads.starts (fun _ _ => id)
      rw [hv] at h2
      exact (tok_cells (k := 0) h2 (by rw [hs]; rfl)).2.1)
  have hnr : rs.length ≤ 100000 := by have := hr.lr; omega
  have hns : x.starts.length ≤ 100000 := by have := hr.heads.ls; omega
  have HR := Lib.hid hr
  have HX := Lib.hid hrl
  have HSR := Lib.hid hsr
  clear h hr hrl hsame hsd hss hsl hsr
  subst hsv
  subst hrv
  generalize hnr0 : rs.length = nr at *
  generalize hns0 : x.starts.length = ns at *
  have HNR := Lib.hid hnr0
  clear hnr0 hns0
  cases hh : headsB x with
  | error f =>
    have HE : Hid (buildL x = .error f) := Lib.hid (by unfold buildL; rw [hh])
    rw [hh] at HHD
    clear hh
    go_enter Tryd.func38, Tryd.ntmps38
    go_wp2_with (go_at_call 54; refine HHD.out.mono ?_; rintro e w1 ⟨hb1, older, hol, rfl⟩)
    refine ⟨rfl, hb1, ?_⟩
    rw [HE.out]
    exact ⟨_, hol, rfl⟩
  | ok T =>
    rw [hh] at HHD
    have HE1 : Hid (∀ r, rulesB (leftOf x) T.length ⟨T, [], []⟩ x.rules = r → buildL x = match r with | .error f => .error f | .ok b => .ok (gramL x b)) := Lib.hid (fun r hr => by unfold buildL; rw [hh]; simp only; rw [hr]; cases r <;> rfl)
    clear hh
    go_enter Tryd.func38, Tryd.ntmps38
    go_wp2_with (go_at_call 54; refine HHD.out.mono ?_; rintro e w1 ⟨hb1, rfl, tv1, nv1, DT1, DN1, z1, z2⟩
                 have HA1 : Hid (BAt w0 w1 bb tm nm rb tv1 nv1 gv ⟨T, [], []⟩ [] DT1 DN1) := Lib.hid z1
                 have HG1 : Hid (Blk w1 w.heap.size 30 ZG) := Lib.hid (keep_blk HA0.out z2 HG0.out (by decide) (by decide))
                 have hg1 := HG1.out.lt
                 obtain ⟨c0, c1, c2, c3, c4, c7, hbb⟩ := HA1.out.cells
                 obtain ⟨k3, k4⟩ := HCE.out w1 HA1.out.below
                 obtain ⟨At, ct, htv⟩ := own_shape HA1.out.ft
                 subst htv
                 clear z1 z2)
    generalize w.heap.size = g0 at *
    clear c1 c2 c3 c4 c7 HHD HG0 HA0
    have hTl : T.length ≤ 120 := HA1.out.lt
    go_loopw [29] (fun i wr => ∃ (k : Nat) (b' : Bd) (tv' nv' gv' : Value) (gs' : List GN) (DT' DN' : DataW Unit), k ≤ nr ∧ i = .int .i64 k ∧ Hid (BAt w0 wr bb tm nm rb tv' nv' gv' b' gs' DT' DN') ∧ Hid (Blk wr g0 30 ZG) ∧ Hid (rulesB (leftOf x) T.length ⟨T, [], []⟩ x.rules = rulesB (leftOf x) T.length b' ((rs.drop k).map GRu.r)) ∧ Hid (NoE b'.R)) (fun i _ => nr - (intOf i).toNat)
    case atStart => exact ⟨0, ⟨T, [], []⟩, _, nv1, gv, [], DT1, DN1, Nat.zero_le _, rfl, HA1, HG1, Lib.hid (by rw [← HX.out]; rfl), Lib.hid (fun r hr => by cases hr)⟩
    case round =>
      rename World => w9
      obtain ⟨k, b', tv', nv', gv', gs', DT', DN', hk, rfl, HA, HG, HY, HN⟩ := hrel
      by_cases hlt : k < nr
      · obtain ⟨q, hq⟩ : ∃ q, rs[k]? = some q := ⟨_, List.getElem?_eq_getElem (by rw [HNR.out]; exact hlt)⟩
        obtain ⟨g, c, hgv, hcell⟩ := HRL.out k q hq
        obtain ⟨e0, e1, e2, e3⟩ := hcell w9 HA.out.below
        cases hgv
        have hqm := List.mem_of_getElem? hq
        have HY1 : Hid (rulesB (leftOf x) T.length ⟨T, [], []⟩ x.rules = rulesB (leftOf x) T.length b' (q.r :: (rs.drop (k + 1)).map GRu.r)) := Lib.hid (by rw [HY.out, drop_some hq]; rfl)
        obtain ⟨⟨Aq, cq, hqv⟩, hqn, hqc⟩ := HSL.out q hqm
        have HQC := Lib.hid (fun j s hs => by obtain ⟨g, c, h1, h2⟩ := hqc j s hs; rw [hqv] at h1; exact (⟨g, c, h1, h2⟩ : ∃ g c, Value.slice Aq q.ss.length cq = .slice (some ⟨g, 0, none⟩) q.ss.length c ∧ ∀ w', Below w0.heap.size w0 w' → w'.cell? ⟨g, j * 2, none⟩ = some s.v ∧ w'.cell? ⟨g, j * 2 + 1, none⟩ = some (.int .i64 s.s.p)))
        rw [hqv] at e3
        have HGD := Lib.hid (HR.out.good q hqm)
        obtain ⟨hql, hqs⟩ := HSR.out q hqm
        have HQS := Lib.hid hqs
        have HX1 := Lib.hid (Blk.new w9 113 #[.int .i64 q.left.k, .string (str q.left.s), .int .i64 q.left.p, (.slice Aq q.ss.length cq)])
        have HA1' := Lib.hid (HA.out.alloc (.cells #[.int .i64 q.left.k, .string (str q.left.s), .int .i64 q.left.p, (.slice Aq q.ss.length cq)] 113))
        have HG1' : Hid (Blk (w9.alloc (.cells #[.int .i64 q.left.k, .string (str q.left.s), .int .i64 q.left.p, (.slice Aq q.ss.length cq)] 113)) g0 30 ZG) := Lib.hid (HG.out.alloc _)
        have HLE := Lib.hid (left_any HA1'.out q.left hql T.length (T.length : Int) rfl)
        have hbbr := HA.out.cells
        obtain ⟨d0, _, _, _, _, _, hbbr⟩ := hbbr
        clear hq hcell hqc hqs hqm hqv
        cases hle : leftB T.length b' q.left with
        | error f =>
          have HE := Lib.hid (HE1.out (.error f) (by rw [HY1.out, rulesB, ruleB, show q.r.left = q.left from rfl, hle]))
          rw [hle] at HLE
          clear hle hql
          go_wp2_with (go_at_call 55; refine HLE.out.mono ?_; intro e w2 hx; obtain ⟨hb2, hx⟩ := hx; have hx : e = _ := hx; subst hx)
          refine ⟨rfl, hb2, ?_⟩
          rw [HE.out]
          exact ⟨_, rfl, rfl⟩
        | ok b2 =>
          have HY2 : Hid (rulesB (leftOf x) T.length ⟨T, [], []⟩ x.rules = match sidesB (leftOf x) q.left.s b2 (q.ss.map GS.s) with | .error e => .error e | .ok b' => rulesB (leftOf x) T.length b' ((rs.drop (k + 1)).map GRu.r)) := Lib.hid (by
            rw [HY1.out, rulesB, ruleB, show q.r.left = q.left from rfl, hle]
            have e1 : q.r.sides = q.ss.map GS.s := rfl
            simp only [e1]
            cases sidesB (leftOf x) q.left.s b2 (q.ss.map GS.s) <;> rfl)
          have HN2 : Hid (NoE b2.R) := Lib.hid (by rw [left_E hle]; exact HN.out)
          rw [hle] at HLE
          clear hle hql HY1
          go_wp2_with (go_at_call 55; refine HLE.out.mono ?_; intro e w2 hx; obtain ⟨hb2, rfl, tv2, nv2, DT2, DN2, z1, z2, z3, z4⟩ := hx
                       have HA2 := Lib.hid z1
                       have HG2 := Lib.hid (keep_blk HA1'.out z2 HG1'.out (by decide) (by decide))
                       have HX2 := Lib.hid (keep_blk HA1'.out z2 HX1.out (by decide) (by decide))
                       have x3 := HX2.out.cell 3
                       simp at x3
                       have hxl := HX2.out.lt
                       clear hb2 z1 z2 z3 z4)
          have xl1 := HX2.out.cell 1
          simp at xl1
          generalize w9.heap.size = xb at *
          generalize hnq : q.ss.length = nq at *
          have HNQ := Lib.hid hnq
          clear hnq x3 xl1 e0 e1 e2 e3 d0 c0 k3 k4 hxl
          go_loopw [41] (fun j wy => ∃ (m : Nat) (b3 : Bd) (tv3 nv3 gv3 : Value) (gs3 : List GN) (DT3 DN3 : DataW Unit), m ≤ nq ∧ j = .int .i64 m ∧ Hid (BAt w0 wy bb tm nm rb tv3 nv3 gv3 b3 gs3 DT3 DN3) ∧ Hid (Blk wy g0 30 ZG) ∧ Hid (Blk wy xb 113 #[.int .i64 q.left.k, .string (str q.left.s), .int .i64 q.left.p, .slice Aq nq cq]) ∧ Hid (rulesB (leftOf x) T.length ⟨T, [], []⟩ x.rules = match sidesB (leftOf x) q.left.s b3 ((q.ss.drop m).map GS.s) with | .error e => .error e | .ok b' => rulesB (leftOf x) T.length b' ((rs.drop (k + 1)).map GRu.r)) ∧ Hid (NoE b3.R)) (fun j _ => nq - (intOf j).toNat)
          case atStart => exact ⟨0, b2, tv2, nv2, gv', gs', DT2, DN2, Nat.zero_le _, rfl, HA2, HG2, HX2, HY2, HN2⟩
          case round =>
            obtain ⟨m, b3, tv3, nv3, gv3, gs3, DT3, DN3, hm, rfl, HA3, HG3, HX3, HY3, HN3⟩ := hrel
            by_cases hlt2 : m < nq
            · obtain ⟨s, hs⟩ : ∃ s, q.ss[m]? = some s := ⟨_, List.getElem?_eq_getElem (by rw [HNQ.out]; exact hlt2)⟩
              obtain ⟨g2, c2, hgv2, hcell2⟩ := HQC.out m s hs
              obtain ⟨s0, s1⟩ := hcell2 wr HA3.out.below
              cases hgv2
              have hsm := List.mem_of_getElem? hs
              obtain ⟨As2, cs2, hsv⟩ := own_shape (show w0.ownsRow B 60 3 s.v s.s.l.length (s.s.l.flatMap Tk.cells) from HGD.out.2 s hsm)
              rw [hsv] at s0
              have HX4 := Lib.hid (HX3.out.alloc (.cells #[.slice As2 s.s.l.length cs2, .int .i64 s.s.p] 116))
              have HG4 := Lib.hid (HG3.out.alloc (.cells #[.slice As2 s.s.l.length cs2, .int .i64 s.s.p] 116))
              have HA4 := Lib.hid (HA3.out.alloc (.cells #[.slice As2 s.s.l.length cs2, .int .i64 s.s.p] 116))
              have HBS := Lib.hid (bside_any HA4.out HR.out HX.out q.left.s s (HGD.out.2 s hsm) (HQS.out s hsm).1 (HQS.out s hsm).2)
              rw [hsv] at HBS
              have x1 := HX3.out.cell 1
              simp at x1
              have hxl := HX3.out.lt
              have HD3 := Lib.hid (drop_some hs)
              have HSE := Lib.hid (fun b4 (h : sideB (leftOf x) b3 q.left.s s.s = .ok b4) => side_E (HQS.out s hsm).2 HN3.out h)
              clear hs hcell2 hsm hsv
              generalize s.s.l.length = nsl at *
              cases hsb : sideB (leftOf x) b3 q.left.s s.s with
              | error f =>
                have HE := Lib.hid (HE1.out (.error f) (by rw [HY3.out, HD3.out, List.map_cons, sidesB, hsb]))
                rw [hsb] at HBS
                clear hsb
                go_wp2_with (go_at_call 56; refine HBS.out.mono ?_; intro e w2 hx; obtain ⟨hb2, hx⟩ := hx; have hx : e = _ := hx; subst hx)
                refine ⟨rfl, hb2, ?_⟩
                rw [HE.out]
                exact ⟨_, rfl, rfl⟩
              | ok b4 =>
                have HY4 : Hid (rulesB (leftOf x) T.length ⟨T, [], []⟩ x.rules = match sidesB (leftOf x) q.left.s b4 ((q.ss.drop (m + 1)).map GS.s) with | .error e => .error e | .ok b' => rulesB (leftOf x) T.length b' ((rs.drop (k + 1)).map GRu.r)) := Lib.hid (by rw [HY3.out, HD3.out, List.map_cons, sidesB, hsb])
                have HN4 := Lib.hid (HSE.out b4 hsb)
                rw [hsb] at HBS
                clear hsb
                go_wp2_with (go_at_call 56; refine HBS.out.mono ?_; intro e w2 hx; obtain ⟨hb2, rfl, tv4, nv4, gv4, gs4, DT4, DN4, z1, z2, _, _, _⟩ := hx
                             have HA5 := Lib.hid z1
                             have HG5 := Lib.hid (keep_blkG HA4.out z2 HG4.out (by decide) (by decide) (by decide))
                             have HX5 := Lib.hid (keep_blkG HA4.out z2 HX4.out (by decide) (by decide) (by decide))
                             clear hb2 z1 z2)
                go_roundw
                case rel => exact ⟨m + 1, b4, tv4, nv4, gv4, gs4, DT4, DN4, by omega, by go_num, HA5, HG5, HX5, HY4, HN4⟩
                case measure => simp [intOf]; omega
            · obtain rfl : m = nq := by omega
              have HYE : Hid (rulesB (leftOf x) T.length ⟨T, [], []⟩ x.rules = rulesB (leftOf x) T.length b3 ((rs.drop (k + 1)).map GRu.r)) := Lib.hid (by rw [HY3.out, List.drop_of_length_le (by have := HNQ.out; omega)]; rfl)
              go_wp2
              go_roundw
              case rel => exact ⟨k + 1, b3, tv3, nv3, gv3, gs3, DT3, DN3, by omega, by go_num, HA3, HG3, HYE, HN3⟩
              case measure => simp [intOf]; omega
      · obtain rfl : k = nr := by omega
        have HE : Hid (buildL x = .ok (gramL x b')) := Lib.hid (HE1.out (.ok b') (by rw [HY.out, List.drop_of_length_le (by have := HNR.out; omega)]; rfl))
        have hgl : gs'.length ≤ 300 := by have h1 := HA.out.names; have h2 := HA.out.lr; rw [← h1, List.length_map] at h2; exact h2
        obtain ⟨Ag, cg, hgv⟩ := own_shape HA.out.fg
        subst hgv
        have HGA := Lib.hid (GAt.of HA.out)
        obtain ⟨d0, _, _, _, _, d7, hbbr⟩ := HA.out.cells
        have HNE : Hid (∀ u ∈ gs', ∃ a r, u.l = a :: r ∧ r.length ≤ 100000) := Lib.hid (fun u hu => by
          have := HN.out u.l (by rw [← HA.out.names]; exact List.mem_map_of_mem hu)
          cases hl : u.l with
          | nil => exact absurd hl this.1
          | cons a r => exact ⟨a, r, rfl, by have h2 := this.2; rw [hl] at h2; simp at h2; omega⟩)
        have HNM : Hid (gs'.map GN.l = b'.R) := Lib.hid HA.out.names
        generalize hng : gs'.length = ng at *
        have HNG := Lib.hid hng
        clear hng hlt HA HN HE1
        go_wp2
        clear d0 d7 c0 k3 k4 hbb
        go_loopg [58] ng (fun n i wx => ∃ (k : Nat) (R : List RuG) (Rv : Value), n = ng - k ∧ k ≤ ng ∧ i = .int .i64 k ∧ Hid (GAt w0 wx bb (.pointer (some ⟨rb, 0, none⟩)) (.map (some tm)) (.map (some nm)) tv' nv' (.slice Ag ng cg) Rv b' gs' R 0) ∧ Hid (Blk wx g0 30 ZG) ∧ Hid (R.map RuG.g = (b'.R.take k).map (ruleL2 b'.T b'.N)))
        case atStart => exact ⟨0, [], _, rfl, Nat.zero_le _, rfl, HGA, HG, Lib.hid rfl⟩
        case round =>
          rename World => w8
          obtain ⟨k, R, Rv, hgh, hk, rfl, HB, HG2, HRR⟩ := hrel
          obtain ⟨c0, c3, c4, c5, c6, c7, hbb⟩ := HB.out.cells
          obtain ⟨AR, cR, hRv⟩ := own_shape HB.out.fR
          subst hRv
          by_cases hlt : k < ng
          · obtain ⟨u, hu⟩ : ∃ u, gs'[k]? = some u := ⟨_, List.getElem?_eq_getElem (by rw [HNG.out]; exact hlt)⟩
            have hum := List.mem_of_getElem? hu
            obtain ⟨a, ra, hul, hra8⟩ := HNE.out u hum
            obtain ⟨g, c, hgv⟩ := row_some HB.out.fg (by rw [HNG.out]; omega)
            rw [HNG.out] at hgv
            cases hgv
            have hfg := HB.out.fg
            rw [HNG.out] at hfg
            have u0 := own_cell hfg k (by omega)
            rw [List.getElem?_map, hu] at u0
            simp only [Option.map_some] at u0
            have HUR := Lib.hid (HB.out.rows u hum)
            have hur := HB.out.rows u hum
            rw [hul] at hur
            obtain ⟨gu, cu, huv⟩ := row_some hur (by simp)
            rw [huv] at u0 hur
            have HUC : Hid (∀ w', Below w8.heap.size w8 w' → w'.cell? ⟨gu, 0, none⟩ = some (.string (str a)) ∧ ∀ j s, ra[j]? = some s → w'.cell? ⟨gu, 1 + j, none⟩ = some (.string (str s))) := Lib.hid (fun w' hb => by
              have h2 := (Chg.of_below (X := fun _ => False) hb).own hur (fun _ _ => id)
              refine ⟨own_cell h2 0 (by simp), fun j s hs => ?_⟩
              obtain ⟨hj, _⟩ := List.getElem?_eq_some_iff.1 hs
              have := own_cell h2 (1 + j) (by simp; omega)
              rw [this, Nat.add_comm]
              simp only [List.map_cons, List.getElem?_cons_succ, List.getElem?_map, hs]
              rfl)
            have hmu := own_max hur
            obtain ⟨hcu1, hcu2⟩ := row_cap hur
            have HRN : Hid ((b'.R.take (k + 1)).map (ruleL2 b'.T b'.N) = (b'.R.take k).map (ruleL2 b'.T b'.N) ++ [(findL b'.T b'.N a, ra.map (findL b'.T b'.N))]) := Lib.hid (by
              have h1 : b'.R[k]? = some (a :: ra) := by rw [← HNM.out, List.getElem?_map, hu]; exact congrArg some hul
              obtain ⟨hk', e⟩ := List.getElem?_eq_some_iff.1 h1
              rw [List.take_succ_eq_append_getElem hk', e, List.map_append]
              rfl)
            have HBD := Lib.hid HB.out.drew
            have HFA := Lib.hid (HBD.out.find a)
            have HBZ := Lib.hid ((HB.out.later (below_alloc w8 (.cells #[.int .i64 0, .slice none 0 0] 68))).drew)
            have HFB := Lib.hid (HBZ.out.find a)
            have HWB := Lib.hid (Blk.new w8 68 #[.int .i64 0, .slice none 0 0])
            obtain ⟨v0, _⟩ := HUC.out w8 (Below.refl _ _)
            have hgu := World.block_lt_of_cell? w8 _ v0
            simp at hgu
            have hru : (a :: ra).length = ra.length + 1 := rfl
            rw [hru] at u0 hmu hcu1
            unfold maxLen at hmu
            have hn0 : (0 : Int) < ((ra.length + 1 : Nat) : Int) := by omega
            clear hur hu hum huv hul hfg hru HUR
            generalize hnra : ra.length = na at *
            have HNA := Lib.hid hnra
            clear hnra
            generalize hF : findL b'.T b'.N a = F at *
            go_upto_region 16 with fail
            go_cut [9, 10] (fun uv xp wz => uv = .slice (some ⟨gu, 0, none⟩) (na + 1) cu ∧ ∃ xb : Nat, xp = .pointer (some ⟨xb, 0, none⟩) ∧ Hid (RAt w8 xb F (.slice none 0 0) [] wz))
            case first =>
              go_region_law (go_simp; go_at_call 57; first
                             | ((with_reducible refine HFA.out.mono ?_); rintro e wi ⟨rfl, hbi⟩
                                have HWI : Hid (Below w8.heap.size w8 wi) := Lib.hid ((drew_below w8).trans hbi)
                                clear hbi)
                             | ((with_reducible refine HFB.out.mono ?_); rintro e wi ⟨rfl, hbi⟩
                                have HWI : Hid (Below w8.heap.size w8 wi) := Lib.hid ((below_alloc w8 _).trans (((drew_below _).trans hbi).mono (by simp)))
                                have HWK : Hid (Blk wi w8.heap.size 68 #[.int .i64 0, .slice none 0 0]) := Lib.hid (HWB.out.below ((drew_below _).trans hbi) (by simp))
                                have y0 := HWK.out.cell 0
                                have y1 := HWK.out.cell 1
                                have y2 := HWK.out.frozen 0
                                have y3 := HWK.out.frozen 1
                                simp at y0 y1
                                clear hbi))
              all_goals (
                go_wp2_with fail
                go_meet
                first
                  | exact ⟨rfl, _, rfl, Lib.hid ⟨HWI.out.trans ((below_alloc wi _).mono HWI.out.size), Blk.new wi 68 #[.int .i64 F, .slice none 0 0], World.ownsRow_nil _ _ _ _, HWI.out.size⟩⟩
                  | exact ⟨rfl, _, rfl, Lib.hid ⟨(((Chg.of_below (X := fun _ => False) HWI.out).set (p := ⟨w8.heap.size, 0, none⟩) (.inl (Nat.le_refl _)) _).set (p := ⟨w8.heap.size, 1, none⟩) (.inl (Nat.le_refl _)) _).below (Nat.le_refl _) (fun _ _ => id), by simpa using (HWK.out.set_ 0 (.int .i64 F)).set_ 1 (.slice none 0 0), World.ownsRow_nil _ _ _ _, Nat.le_refl _⟩⟩)
            case rest =>
              obtain ⟨rfl, xb, rfl, HRA⟩ := hcut
              have HBW := Lib.hid (HB.out.later HRA.out.below)
              clear c0 c3 c4 c5 c6 c7 hbb v0 u0 HFA HFB HBZ HBD HWB
              go_upto_region 17 with fail
              go_cut [9, 72, 73, 74] (fun _ sw nw iw wy => wy = wc ∧ nw = .int .i64 na ∧ iw = .int .i64 0 ∧ ∃ ad cw, sw = .slice (some ad) na cw ∧ (0 < na → ad = ⟨gu, 1, none⟩))
              case first =>
                go_wp2_with fail
                all_goals (
                  go_wp2_with fail
                  go_meet
                  first
                    | exact ⟨rfl, rfl, rfl, _, _, rfl, fun _ => rfl⟩
                    | exact ⟨rfl, rfl, rfl, _, _, rfl, fun h => by omega⟩)
              case rest =>
                obtain ⟨rfl, rfl, rfl, ad, cw, rfl, had⟩ := hcut
                have HAD := Lib.hid had
                clear had hn0 hcu1 hcu2 hgu
                have hw08 := HB.out.below.size
                have hRl : R.length ≤ 300 := by
                  have h1 := congrArg List.length HRR.out
                  simp at h1
                  omega
                go_wp2
                go_loopg [74] na (fun n i wy => ∃ (j : Nat) (done : List Nat) (xv : Value), n = na - j ∧ j ≤ na ∧ i = .int .i64 j ∧ done.length = j ∧ Hid (RAt w8 xb F xv done wy) ∧ Hid (done = (ra.take j).map (findL b'.T b'.N)))
                case atStart => exact ⟨0, [], _, rfl, Nat.zero_le _, rfl, rfl, HRA, Lib.hid rfl⟩
                case round =>
                  obtain ⟨_, done, xv, hgh2, hj, rfl, rfl, HRA2, HDN⟩ := hrel
                  have HB9 := Lib.hid (HB.out.later HRA2.out.below)
                  have hw8r := HRA2.out.below.size
                  obtain ⟨Ax, cx, hxv⟩ := own_shape HRA2.out.own
                  subst hxv
                  obtain ⟨c0, c3, c4, c5, c6, c7, hbb⟩ := HB9.out.cells
                  have y0 := HRA2.out.box.cell 0
                  have y1 := HRA2.out.box.cell 1
                  have hxl := HRA2.out.box.lt
                  simp at y0 y1
                  by_cases hlt2 : done.length < na
                  · obtain ⟨t, ht⟩ : ∃ t, ra[done.length]? = some t := ⟨_, List.getElem?_eq_getElem (by rw [HNA.out]; exact hlt2)⟩
                    have e0 := (HUC.out wr HRA2.out.below).2 done.length t ht
                    obtain rfl := HAD.out (by omega)
                    have HDN2 : Hid (done ++ [findL b'.T b'.N t] = (ra.take (done.length + 1)).map (findL b'.T b'.N)) := Lib.hid (by
                      obtain ⟨hk', e⟩ := List.getElem?_eq_some_iff.1 ht
                      have h1 := HDN.out
                      rw [List.take_succ_eq_append_getElem hk', e, List.map_append, ← h1]
                      rfl)
                    have HFD := Lib.hid (HB9.out.drew.find t)
                    have HRD := Lib.hid (HRA2.out.later (drew_below wr))
                    clear ht
                    generalize hF2 : findL b'.T b'.N t = F2 at *
                    go_wp2
                    go_region_law (first
                      | (refine step_app ElIntR (.tmp 79) (.tmp 86) ?_ ?_ (base := w8.heap.size) (n := done.length) (m := 1) (N := done.length + 1) (v := .slice Ax done.length cx) (src := .slice (some ⟨wi.heap.size, 0, none⟩) 1 1) (xs := done.map Mark) (news := [.int .i64 F2]) ?_ ?_ ?_ ?_ ?_ ?_ ?_ ?_ ?_
                         · rfl
                         · rfl
                         · rfl
                         · rfl
                         · exact HR3.out.own.alloc _
                         · exact src_int wi _
                         · rfl
                         · unfold maxLen; omega
                         · omega
                         · simp; omega
                         intro A3 c3' w3 r1 r2 r3
                         have HF := Lib.hid (HR3.out.app (s := F2) r1 r3)
                         have hX : Chg (fun k => (Value.slice Ax done.length cx).ownBlock = some k) wi w3 := ((Chg.refl _ wi).alloc (.cells #[.int .i64 F2] 3)).next (.of_grown r3.1)
                         have hk3 := hX.blk HR3.out.box (row_blk HR3.out.own HR3.out.box (by decide))
                         have z1 := hk3.cell 1
                         have zf := hk3.frozen 1
                         simp at z1
                         clear r1 r2 r3 hk3 hX)
                      | (go_simp; go_at_call 57; refine HFD.out.mono ?_; rintro e wi ⟨rfl, hbi⟩
                         have HR3 := Lib.hid (HRD.out.later hbi)
                         have yi1 := HR3.out.box.cell 1
                         have hwi8 := HR3.out.below.size
                         have hwi9 := HR3.out.box.lt
                         simp at yi1
                         clear hbi))
                    all_goals go_wp2
                    all_goals go_roundg (na - (done.length + 1))
                    all_goals first
                      | (case measure => omega)
                      | (case rel => exact ⟨done.length + 1, done ++ [F2], _, rfl, by omega, by go_num, by simp, HF, HDN2⟩)
                  · obtain rfl : na = done.length := by omega
                    have HDE : Hid (done = ra.map (findL b'.T b'.N)) := Lib.hid (by
                      have h1 := HDN.out
                      rw [List.take_of_length_le (by have := HNA.out; omega)] at h1
                      exact h1)
                    have HBD := Lib.hid HB9.out.drew
                    have HRD := Lib.hid (HRA2.out.later (drew_below wr))
                    have HGD2 := Lib.hid ((HG2.out.below HRA2.out.below HG2.out.lt).drew)
                    have HR2' : Hid ((R ++ [(⟨F, .slice Ax done.length cx, done⟩ : RuG)]).map RuG.g = (b'.R.take (k + 1)).map (ruleL2 b'.T b'.N)) := Lib.hid (by
                      rw [List.map_append, HRR.out, HRN.out, ← HDE.out]
                      rfl)
                    go_wp2
                    go_region_law (refine step_app ElRu (.tmp 95) (.tmp 97) ?_ ?_ (base := w0.heap.size) (n := R.length) (m := 1) (N := R.length + 1) (v := .slice AR R.length cR) (src := .slice (some ⟨wr.heap.size, 0, none⟩) 1 1) (xs := R.flatMap RuG.cells) (news := [.int .i64 F, .slice Ax done.length cx]) ?_ ?_ ?_ ?_ ?_ ?_ ?_ ?_ ?_
                                   · rfl
                                   · rfl
                                   · rfl
                                   · rfl
                                   · exact HBD.out.fR.alloc _
                                   · exact SrcOK.blk (c := 1) (Blk.new wr.drew 68 #[.int .i64 F, .slice Ax done.length cx]) rfl (by simp [Value.oneCell'])
                                   · rfl
                                   · unfold maxLen; omega
                                   · omega
                                   · simp; omega
                                   intro A3 c3' w3 r1 r2 r3
                                   have HF := Lib.hid (HBD.out.app (q := ⟨F, .slice Ax done.length cx, done⟩) (own_mono HRD.out.own hw08) r1 r3)
                                   have HG3 := Lib.hid (HF.out.2.blk HGD2.out (by
                                     rintro (hh | hh)
                                     · exact row_blk HBD.out.fR HGD2.out (by decide) hh
                                     · subst hh; exact Blk.ne_ HGD2.out HBD.out.blk (by decide) rfl))
                                   have hX : Chg (fun k => (Value.slice AR R.length cR).ownBlock = some k) wr.drew w3 := ((Chg.refl _ wr.drew).alloc (.cells #[.int .i64 F, .slice Ax done.length cx] 68)).next (.of_grown r3.1)
                                   have hk3 := hX.blk HBD.out.blk (row_blk HBD.out.fR HBD.out.blk (by decide))
                                   have z5 := hk3.cell 5
                                   have zf := hk3.frozen 5
                                   simp at z5
                                   clear r1 r2 r3 hk3 hX)
                    all_goals go_wp2
                    all_goals go_roundg (ng - (k + 1))
                    all_goals first
                      | (case measure => omega)
                      | (case rel => exact ⟨k + 1, R ++ [⟨F, .slice Ax done.length cx, done⟩], _, rfl, by omega, by go_num, Lib.hid HF.out.1, HG3, HR2'⟩)
          · obtain rfl : k = ng := by omega
            have HRE : Hid (R.map RuG.g = b'.R.map (ruleL2 b'.T b'.N)) := Lib.hid (by
              have h1 := HRR.out
              rw [List.take_of_length_le (by have h2 := HNM.out; have h3 := HNG.out; rw [← h2, List.length_map]; omega)] at h1
              exact h1)
            obtain ⟨AT, cT, hTv⟩ := own_shape HB.out.ft
            subst hTv
            obtain ⟨AN, cN, hNv⟩ := own_shape HB.out.fn
            subst hNv
            have hTl2 := HB.out.lt
            have HS1 := Lib.hid (HB.out.start ((b'.T.length : Int) + 1))
            have HG3 : Hid (Blk (w8.setCell ⟨bb, 6, none⟩ (.int .i64 ((b'.T.length : Int) + 1))) g0 30 ZG) := Lib.hid (HG2.out.far (p := ⟨bb, 6, none⟩) (by rintro rfl; exact Blk.ne_ HG2.out HB.out.blk (by decide) rfl) _)
            have b6 := HB.out.blk.frozen 6
            clear hgh hlt
            go_upto_region 25 with fail
            clear c0 c3 c4 c5 c6 c7 hbb b6
            generalize w8.setCell ⟨bb, 6, none⟩ (.int .i64 ((b'.T.length : Int) + 1)) = wS at *
            obtain ⟨c0, c3, c4, c5, c6, c7, hbb⟩ := HS1.out.1.cells
            obtain ⟨k3, _⟩ := HCE.out wS HS1.out.1.below
            have z0 := HG3.out.cell 0
            have z1 := HG3.out.cell 1
            have z2 := HG3.out.cell 2
            have z3 := HG3.out.cell 3
            have f0 := HG3.out.frozen 0
            have f1 := HG3.out.frozen 1
            have f2 := HG3.out.frozen 2
            have f3 := HG3.out.frozen 3
            simp [ZG] at z0 z1 z2 z3
            rcases HST.out with ⟨hst, rfl⟩ | ⟨st, sr, hst, hns0, g, c, hsv, hsc⟩
            · have HLAST := Lib.hid (fun u0 u1 u2 u3 => GAt.last (g := gramL x b') HS1.out.1 HG3.out hw0 rfl rfl HRE.out (by unfold gramL; rw [hst]; simp) u0 u1 u2 u3)
              clear hst
              go_wp2
              refine bodyPost_ret (v := .agg #[.slice AT b'.T.length cT, .slice AN b'.N.length cN, .slice AR R.length cR, .int .i64 ((b'.T.length : Int) + 1)]) (by simp [results, Tryd.results38, go_sem, z0, z1, z2, z3]) rfl ?_
              rw [HE.out]
              exact HLAST.out _ _ _ _
            · cases hsv
              have hs1 := hsc wS HS1.out.1.below
              have HFD := Lib.hid (HS1.out.1.drew.find st.s)
              have HGS : Hid ((gramL x b').s = findL b'.T b'.N st.s) := Lib.hid (by unfold gramL; rw [hst])
              have HGD2 := Lib.hid HG3.out.drew
              have HSD := Lib.hid HS1.out.1.drew
              clear hst hsc
              generalize findL b'.T b'.N st.s = F3 at *
              go_wp2
              go_region_law (go_simp; go_at_call 57; refine HFD.out.mono ?_; rintro e wf ⟨rfl, hbf⟩
                             have HF3 := Lib.hid (HSD.out.later hbf)
                             have HG4 := Lib.hid (HGD2.out.below hbf HGD2.out.lt)
                             have bf0 := HF3.out.cells.2.2.2.2.1
                             have bf6 := HF3.out.blk.frozen 6
                             clear hbf)
              all_goals have HS2 := Lib.hid (HF3.out.start (F3 : Int))
              all_goals have HG5 : Hid (Blk (wf.setCell ⟨bb, 6, none⟩ (.int .i64 (F3 : Int))) g0 30 ZG) := Lib.hid (HG4.out.far (p := ⟨bb, 6, none⟩) (by rintro rfl; exact Blk.ne_ HG4.out HF3.out.blk (by decide) rfl) _)
              all_goals generalize wf.setCell ⟨bb, 6, none⟩ (.int .i64 (F3 : Int)) = wT at *
              all_goals clear c0 c3 c4 c5 c6 c7 hbb k3 z0 z1 z2 z3 f0 f1 f2 f3 hs1 bf0 bf6
              all_goals obtain ⟨c0, c3, c4, c5, c6, c7, hbb⟩ := HS2.out.1.cells
              all_goals have z0 := HG5.out.cell 0
              all_goals have z1 := HG5.out.cell 1
              all_goals have z2 := HG5.out.cell 2
              all_goals have z3 := HG5.out.cell 3
              all_goals have f0 := HG5.out.frozen 0
              all_goals have f1 := HG5.out.frozen 1
              all_goals have f2 := HG5.out.frozen 2
              all_goals have f3 := HG5.out.frozen 3
              all_goals simp [ZG] at z0 z1 z2 z3
              all_goals have HLAST := Lib.hid (fun u0 u1 u2 u3 => GAt.last (g := gramL x b') HS2.out.1 HG5.out hw0 rfl rfl HRE.out (by rw [HGS.out]) u0 u1 u2 u3)
              all_goals go_wp2
              all_goals refine bodyPost_ret (v := .agg #[.slice AT b'.T.length cT, .slice AN b'.N.length cN, .slice AR R.length cR, .int .i64 (F3 : Int)]) (by simp [results, Tryd.results38, go_sem, z0, z1, z2, z3]) rfl ?_
              all_goals rw [HE.out]
              all_goals exact HLAST.out _ _ _ _
end Go.Proofs.YtnpjhndgdlihjaaDoor
