/- The reader: a rule's right sides, one behind the other. The reader: where it stands while it reads the rules. The reader: one rule. The reader: a whole text. -/
import Derived.Test.YtnpjhndgdlihjaaDoorZe
import Derived.Maps.Own
import Derived.Maps.OwnOps
import Derived.Maps.OwnSet
import Derived.Maps.Views
import Derived.StringKeys
namespace Go.Proofs.YtnpjhndgdlihjaaDoor
open Go.RowKit
set_option linter.unusedVariables false
theorem own_mono {w : World} {B B' : Nat} {e : TypeId} {size n : Nat} {v : Value} {xs : List Value} (h : w.ownsRow B e size v n xs) (hB : B' ≤ B) : w.ownsRow B' e size v n xs := by
  refine ⟨h.1, ?_⟩
  rcases h.2 with hn | ⟨g, cap, cur, rfl, hb, rest⟩
  · exact .inl hn
  · exact .inr ⟨g, cap, cur, rfl, Nat.le_trans hB hb, rest⟩
/-- A right side as it lies: what it says, and its row. -/
structure GS where
  s : PS
  v : Value
def GS.cells (q : GS) : List Value := [q.v, .int .i64 q.s.p]
/-- A rule as it lies. -/
structure GRu where
  left : Tk
  v : Value
  ss : List GS
def GRu.cells (r : GRu) : List Value := [.int .i64 r.left.k, .string (str r.left.s), .int .i64 r.left.p, r.v]
def GRu.r (r : GRu) : PR := ⟨r.left, r.ss.map GS.s⟩
def GoodS (w : World) (B : Nat) (q : GS) : Prop := w.ownsRow B 60 3 q.v q.s.l.length (q.s.l.flatMap Tk.cells)
def GoodR (w : World) (B : Nat) (r : GRu) : Prop := w.ownsRow B 116 2 r.v r.ss.length (r.ss.flatMap GS.cells) ∧ ∀ q ∈ r.ss, GoodS w B q
theorem GoodS.chg {X : Nat → Prop} {w w' : World} {B : Nat} {q : GS} (h : GoodS w B q) (hc : Chg X w w') (hx : ∀ g, B ≤ g → g < w.heap.size → ¬ X g) : GoodS w' B q :=
  hc.own h (fun g hg => hx g (own_ge h g hg).1 (own_ge h g hg).2)
theorem GoodR.chg {X : Nat → Prop} {w w' : World} {B : Nat} {r : GRu} (h : GoodR w B r) (hc : Chg X w w') (hx : ∀ g, B ≤ g → g < w.heap.size → ¬ X g) : GoodR w' B r :=
  ⟨hc.own h.1 (fun g hg => hx g (own_ge h.1 g hg).1 (own_ge h.1 g hg).2), fun q hq => (h.2 q hq).chg hc hx⟩
theorem ElSide : El Tryd.prog 111 116 2 32 := El.of (z := .agg #[.slice none 0 0, .int .i64 0]) Tryd.underlying111 (by kernel_rfl) rfl (by decide)
theorem ElRule : El Tryd.prog 82 113 4 56 := El.of (z := .agg #[.int .i64 0, .string ⟨#[]⟩, .int .i64 0, .slice none 0 0]) Tryd.underlying82 (by kernel_rfl) rfl (by decide)
theorem src_side (y : World) (A : Option Addr) (n c : Nat) (p : Int) : SrcOK (y.alloc (.cells #[.slice A n c, .int .i64 p] 116)) (.slice (some ⟨y.heap.size, 0, none⟩) 1 1) 1 2 [.slice A n c, .int .i64 p] :=
  SrcOK.blk (c := 1) (Blk.new y 116 #[.slice A n c, .int .i64 p]) rfl (by simp [Value.oneCell'])
/-- Where a rule's right sides stand, that are being read. -/
structure SidesAt (w : World) (rb : Nat) (f1 f2 f3 f4 f5 : Value) (tb : Option Nat) (bb : Nat) (t : Tk) (sv : Value) (ss : List GS) (rest : List Tk) (wr : World) : Prop where
  stand : Stand wr rb f1 f2 f3 f4 f5 tb rest
  blk : Blk wr bb 113 #[.int .i64 t.k, .string (str t.s), .int .i64 t.p, sv]
  own : wr.ownsRow w.heap.size 116 2 sv ss.length (ss.flatMap GS.cells)
  good : ∀ q ∈ ss, GoodS wr w.heap.size q
  chg : Chg (· = rb) w wr
  bb : w.heap.size ≤ bb
  rb : rb < w.heap.size
  tb : ∀ g, tb = some g → g < w.heap.size
namespace SidesAt
variable {w wr : World} {rb : Nat} {f1 f2 f3 f4 f5 : Value} {tb : Option Nat} {bb : Nat} {t : Tk} {sv : Value} {ss : List GS} {rest : List Tk}
theorem later (h : SidesAt w rb f1 f2 f3 f4 f5 tb bb t sv ss rest wr) {w1 : World} {r1 : List Tk} (hc : Chg (· = rb) wr w1) (hs : Stand w1 rb f1 f2 f3 f4 f5 tb r1) : SidesAt w rb f1 f2 f3 f4 f5 tb bb t sv ss r1 w1 := by
  have hrb := h.rb
  have hbb := h.bb
  exact ⟨hs, hc.blk h.blk (by omega), hc.own h.own (own_ne h.own h.rb), fun q hq => (h.good q hq).chg hc (fun g h1 _ e => by omega), h.chg.next hc, h.bb, h.rb, h.tb⟩
theorem drew (h : SidesAt w rb f1 f2 f3 f4 f5 tb bb t sv ss rest wr) : SidesAt w rb f1 f2 f3 f4 f5 tb bb t sv ss rest wr.drew := h.later ((Chg.refl _ _).drew) h.stand.drew
/-- A right side has been read and appended. -/
theorem rel (h : SidesAt w rb f1 f2 f3 f4 f5 tb bb t sv ss rest wr) {w1 w2 : World} {A A2 : Option Addr} {c c2 : Nat} (hn : A2 = A2)
    (hc1 : Chg (· = rb) wr w1) (hs1 : Stand w1 rb f1 f2 f3 f4 f5 tb (rest.dropWhile symT)) (ho1 : w1.ownsRow wr.heap.size 60 3 (.slice A (sideL rest).l.length c) (sideL rest).l.length ((sideL rest).l.flatMap Tk.cells))
    (r1 : w2.ownsRow w.heap.size 116 2 (.slice A2 (ss.length + 1) c2) (ss.length + 1) (ss.flatMap GS.cells ++ [.slice A (sideL rest).l.length c, .int .i64 (sideL rest).p]))
    (r2 : Keeps w.heap.size [116] (w1.alloc (.cells #[.slice A (sideL rest).l.length c, .int .i64 (sideL rest).p] 116)) w2) :
    SidesAt w rb f1 f2 f3 f4 f5 tb bb t (.slice A2 (ss.length + 1) c2) (ss ++ [⟨sideL rest, .slice A (sideL rest).l.length c⟩]) (rest.dropWhile symT) (w2.setCell ⟨bb, 3, none⟩ (.slice A2 (ss.length + 1) c2)) := by
  have h1 := h.later hc1 hs1
  have hrb := h.rb
  have hbb := h.bb
  have hrs : rb ≠ bb := by omega
  have hsz : w.heap.size ≤ wr.heap.size := h.chg.size
  have hbk : Blk w2 bb 113 #[.int .i64 t.k, .string (str t.s), .int .i64 t.p, sv] := r2.blk (h1.blk.alloc _) (.inr (by decide))
  have hcw : Chg (· = rb) w w2 := (h1.chg.alloc _).keeps r2
  have hgd : ∀ q, GoodS w1 w.heap.size q → GoodS (w2.setCell ⟨bb, 3, none⟩ (.slice A2 (ss.length + 1) c2)) w.heap.size q := by
    intro q hq
    have h2 : GoodS w2 w.heap.size q := r2.own ((Chg.refl (fun _ => False) w1).alloc _ |>.own hq (fun _ _ => id)) (.inr (by decide))
    refine own_far h2 ?_ _
    intro e
    rcases own_form h2 with ⟨e2, _⟩ | ⟨b, c, e2, _, _, _, _, cur, hcur⟩
    · rw [e2] at e; cases e
    · rw [e2] at e
      cases e
      exact Blk.ne_ (t := 60) hcur hbk (by decide) rfl
  refine ⟨⟨?_, hs1.ended, hs1.ne⟩, by simpa using hbk.set_ 3 _, ?_, ?_, hcw.set (p := ⟨bb, 3, none⟩) (.inl hbb) _, hbb, hrb, h.tb⟩
  · obtain ⟨lv, k1, k2, k3⟩ := hs1.ex
    refine ⟨lv, (r2.blk (k1.alloc _) (.inr (by decide))).far (by simpa using hrs) _, ?_, k3⟩
    obtain ⟨b, off, c, cs, rfl, hl⟩ := k2
    have hb := h.tb b (by rw [← k3]; rfl)
    exact ⟨b, off, c, cs, rfl, (r2.blk (hl.blk.alloc _) (.inl hb)).far (by simp; omega) _, hl.cap, hl.cell⟩
  · rw [show (ss ++ [⟨sideL rest, .slice A (sideL rest).l.length c⟩] : List GS).length = ss.length + 1 by simp, List.flatMap_append]
    refine own_far (by simpa [GS.cells] using r1) ?_ _
    intro he
    rcases own_form r1 with ⟨e, _⟩ | ⟨b, c, e, _, _, _, _, cur, hcur⟩
    · rw [e] at he; cases he
    · rw [e] at he
      cases he
      exact Blk.ne_ (t := 116) hcur hbk (by decide) rfl
  · intro q hq
    rcases List.mem_append.1 hq with hq | hq
    · exact hgd q (h1.good q hq)
    · rw [List.mem_singleton] at hq
      subst hq
      exact hgd _ (own_mono ho1 hsz)
end SidesAt
end Go.Proofs.YtnpjhndgdlihjaaDoor

namespace Go.Proofs.YtnpjhndgdlihjaaDoor
open Go.RowKit Go.Maps
set_option linter.unusedVariables false
theorem lawStrR : Keyed Tryd.prog 9 := string_keyed Tryd.underlying9
theorem zeroIntR (w : World) : (zeroValue 3).run Tryd.prog w = .ok (.int .i64 0) w := by kernel_rfl
def klR (s : List UInt8) : Lit := .string s
theorem key_litR (s : List UInt8) : WideAt.IsKeyLit (klR s) := by unfold klR; simp [WideAt.IsKeyLit]
theorem klR_inj {a b : List UInt8} (h : klR a = klR b) : a = b := by
  unfold klR at h
  injection h
/-- What the map knows of the left sides. -/
def Lefts (D : DataW Unit) (L : List (List UInt8)) : Prop := ∀ s, D.atKey (klR s) (.lit (.int .i64 0)) = .lit (.int .i64 (L.count s))
theorem Lefts.start : Lefts (.map []) [] := fun s => rfl
theorem Lefts.next {D : DataW Unit} {L : List (List UInt8)} (h : Lefts D L) (ht : Maps.Tidy D) (s : List UInt8) : Lefts (D.put (klR s) (.lit (.int .i64 (L.count s + 1)))) (L ++ [s]) := by
  intro u
  rw [List.count_append]
  by_cases e : u = s
  · subst e
    rw [Maps.atKey_put_same ht.isMap (key_litR _)]
    simp
  · rw [Maps.atKey_put_other (fun hh => e (klR_inj hh)), h u]
    have : List.count u [s] = 0 := by rw [List.count_eq_zero]; simpa using e
    rw [this, Nat.add_zero]
theorem map_chg {X : Nat → Prop} {w w' : World} {b n : Nat} {D : DataW Unit} (h : w.ownsMap Tryd.prog 9 (plainElem Tryd.prog 3) b n D) (hc : Chg X w w') (hx : ¬ X b) : w'.ownsMap Tryd.prog 9 (plainElem Tryd.prog 3) b n D := by
  obtain ⟨es, clock, hb, rest⟩ := h
  exact ⟨es, clock, (hc.block b (Array.getElem?_eq_some_iff.1 hb).1 hx).trans hb, rest⟩
/-- Where the reader stands, while it reads the rules. -/
structure Rules (w : World) (B rb mb : Nat) (tb : Option Nat) (l : List Tk) (x : Txt) (dv kv sv rv : Value) (rs : List GRu) (D : DataW Unit) : Prop where
  heads : Heads w B rb rv (.map (some mb)) tb l x dv kv sv
  rules : w.ownsRow B 113 4 rv rs.length (rs.flatMap GRu.cells)
  good : ∀ r ∈ rs, GoodR w B r
  map : w.ownsMap Tryd.prog 9 (plainElem Tryd.prog 3) mb rs.length D
  lefts : Lefts D (rs.map fun r => r.left.s)
  mbB : mb < B
  mr : mb ≠ rb
  lr : rs.length + l.length ≤ 100000
theorem GoodR.past {w w' : World} {B rb n : Nat} {r : GRu} {rv : Value} {xs : List Value} (h : GoodR w B r) (hr : w.ownsRow B 113 4 rv n xs) (hrb : rb < B) (hc : Chg (fun k => k = rb ∨ rv.ownBlock = some k) w w') : GoodR w' B r := by
  refine ⟨hc.own h.1 ?_, fun q hq => hc.own (h.2 q hq) ?_⟩
  · rintro g hg (rfl | hh)
    · exact own_ne h.1 hrb _ hg rfl
    · exact own_apart hr h.1 (by decide) g hh hg
  · rintro g hg (rfl | hh)
    · exact own_ne (h.2 q hq) hrb _ hg rfl
    · exact own_apart hr (h.2 q hq) (by decide) g hh hg
/-- What stands when a rule has been appended, and the map has not yet turned. -/
structure Appended (w w7 : World) (B rb mb bb : Nat) (tb : Option Nat) (l : List Tk) (x : Txt) (dv kv sv rv : Value) (rs : List GRu) (q : GRu) (D : DataW Unit) : Prop where
  heads : Heads w7 B rb rv (.map (some mb)) tb l x dv kv sv
  rules : w7.ownsRow B 113 4 rv (rs.length + 1) ((rs ++ [q]).flatMap GRu.cells)
  good : ∀ r ∈ rs ++ [q], GoodR w7 B r
  map : w7.ownsMap Tryd.prog 9 (plainElem Tryd.prog 3) mb rs.length D
  blk : Blk w7 bb 113 #[.int .i64 q.left.k, .string (str q.left.s), .int .i64 q.left.p, q.v]
  chg : Chg (fun k => k = rb ∨ B ≤ k) w w7
theorem rules_rel {w w5 w6 : World} {o : Obj} {B rb mb bb : Nat} {tb : Option Nat} {l rest : List Tk} {x : Txt} {dv kv sv rv bv : Value} {rs : List GRu} {D : DataW Unit} {t : Tk} {ss : List GS} {A6 : Option Addr} {c6 : Nat}
    (h : Rules w B rb mb tb l x dv kv sv rv rs D) (hs : SidesAt w rb dv kv sv rv (.map (some mb)) tb bb t bv ss rest w5) (hl : rest.length ≤ l.length)
    (r1 : w6.ownsRow B 113 4 (.slice A6 (rs.length + 1) c6) (rs.length + 1) (rs.flatMap GRu.cells ++ [.int .i64 t.k, .string (str t.s), .int .i64 t.p, bv]))
    (r3 : (w5.alloc o).grownBy w6 rv.ownBlock ∧ ((Value.slice A6 (rs.length + 1) c6).ownBlock = rv.ownBlock ∨ (Value.slice A6 (rs.length + 1) c6).ownBlock = some (w5.alloc o).heap.size)) :
    Appended w (w6.setCell ⟨rb, 4, none⟩ (.slice A6 (rs.length + 1) c6)) B rb mb bb tb rest x dv kv sv (.slice A6 (rs.length + 1) c6) rs ⟨t, bv, ss⟩ D := by
  have hrb := h.heads.rbB
  have hbb := hs.bb
  have hbw := h.heads.bB
  have h5 : Heads w5 B rb rv (.map (some mb)) tb rest x dv kv sv := h.heads.chg hs.chg (fun _ h => h) hs.stand hl
  have hrow : w5.ownsRow B 113 4 rv rs.length (rs.flatMap GRu.cells) := hs.chg.own h.rules (own_ne h.rules hrb)
  have hX : Chg (fun k => rv.ownBlock = some k) w5 w6 := ((Chg.refl _ w5).alloc o).next (.of_grown r3.1)
  have hOg : ∀ k, rv.ownBlock = some k → B ≤ k := fun k hk => (own_ge h.rules k hk).1
  have hOl : ∀ k, rv.ownBlock = some k → k < w.heap.size := fun k hk => (own_ge h.rules k hk).2
  have hY : Chg (fun k => k = rb ∨ rv.ownBlock = some k) w5 (w6.setCell ⟨rb, 4, none⟩ (.slice A6 (rs.length + 1) c6)) := (hX.mono (fun i hi => .inr hi)).set (p := ⟨rb, 4, none⟩) (.inr (.inl rfl)) _
  have e1 : ¬ rv.ownBlock = some rb := fun e => by have := hOg _ e; omega
  have hst : Stand (w6.setCell ⟨rb, 4, none⟩ (.slice A6 (rs.length + 1) c6)) rb dv kv sv (.slice A6 (rs.length + 1) c6) (.map (some mb)) tb rest := by
    obtain ⟨lv, k1, k2, k3⟩ := hs.stand.ex
    refine ⟨⟨lv, by simpa using (hX.blk k1 e1).set_ 4 _, k2.chg hY ?_, k3⟩, hs.stand.ended, hs.stand.ne⟩
    intro g hgg
    rw [k3] at hgg
    rintro (rfl | hh)
    · exact hs.stand.ne hgg
    · have := h.heads.tbB g hgg; have := hOg g hh; omega
  have hgood : ∀ r ∈ rs ++ [(⟨t, bv, ss⟩ : GRu)], GoodR w5 B r := by
    intro r hr
    rcases List.mem_append.1 hr with hr | hr
    · exact (h.good r hr).chg hs.chg (fun g h1 _ e => by omega)
    · rw [List.mem_singleton] at hr
      subst hr
      exact ⟨own_mono hs.own hbw, fun q hq => own_mono (hs.good q hq) hbw⟩
  have hT : Chg (fun k => k = rb ∨ B ≤ k) w5 (w6.setCell ⟨rb, 4, none⟩ (.slice A6 (rs.length + 1) c6)) := hY.mono (fun i hi => hi.imp id (hOg i))
  refine ⟨?_, ?_, fun r hr => (hgood r hr).past hrow hrb hY, ?_, ?_, (hs.chg.mono (fun _ h => .inl h)).next hT⟩
  · refine ⟨hst, hY.own h5.decl ?_, hY.own h5.marks ?_, hY.own h5.starts ?_, h5.apart, h5.rbB, h5.tbB, Nat.le_trans h5.bB hY.size, h5.ld, h5.lm, h5.ls⟩
    · rintro g hgg (rfl | hh)
      · exact own_ne h5.decl hrb _ hgg rfl
      · exact own_apart hrow h5.decl (by decide) g hh hgg
    · rintro g hgg (rfl | hh)
      · exact own_ne h5.marks hrb _ hgg rfl
      · exact own_apart hrow h5.marks (by decide) g hh hgg
    · rintro g hgg (rfl | hh)
      · exact own_ne h5.starts hrb _ hgg rfl
      · exact own_apart hrow h5.starts (by decide) g hh hgg
  · rw [List.flatMap_append]
    exact own_far (by simpa [GRu.cells] using r1) (fun e => own_ne r1 hrb _ e rfl) _
  · refine map_chg (map_chg h.map hs.chg h.mr) hY ?_
    rintro (e | e)
    · exact h.mr e
    · have := hOg _ e; have := h.mbB; omega
  · refine hY.blk hs.blk ?_
    rintro (rfl | e)
    · have := hs.rb; omega
    · have := hOl _ e; omega
theorem Chg.of_map {w w' : World} {b : Nat} (h : w.grownBy w' (some b)) : Chg (· = b) w w' := ⟨h.os, h.tape, h.output, h.size, fun k hk hx => h.block k hk (fun e => hx (by injection e))⟩
theorem Appended.last {w w7 w8 : World} {B rb mb bb : Nat} {tb : Option Nat} {l l0 : List Tk} {x : Txt} {dv kv sv rv rv0 : Value} {rs : List GRu} {q : GRu} {D : DataW Unit}
    (h0 : Rules w B rb mb tb l0 x dv kv sv rv0 rs D) (hl : l.length < l0.length) (h : Appended w w7 B rb mb bb tb l x dv kv sv rv rs q D) (hg : w7.grownBy w8 (some mb))
    (hm : w8.ownsMap Tryd.prog 9 (plainElem Tryd.prog 3) mb (rs.length + 1) (D.put (klR q.left.s) (.lit (.int .i64 ((rs.map fun r => r.left.s).count q.left.s + 1))))) :
    Rules w8 B rb mb tb l x dv kv sv rv (rs ++ [q]) (D.put (klR q.left.s) (.lit (.int .i64 ((rs.map fun r => r.left.s).count q.left.s + 1)))) ∧ Chg (fun k => k = rb ∨ B ≤ k ∨ k = mb) w w8 := by
  have hc := Chg.of_map hg
  have hmb := h0.mbB
  have hrb := h0.heads.rbB
  have hlr := h0.lr
  have hlt := h.heads.stand.lt
  refine ⟨⟨?_, ?_, fun r hr => (h.good r hr).chg hc (fun g h1 _ e => by omega), by simpa using hm, ?_, hmb, h0.mr, by simp; omega⟩, (h.chg.mono (fun i hi => hi.imp id .inl)).next (hc.mono (fun i hi => .inr (.inr hi)))⟩
  · exact ⟨h.heads.stand.chg hc (Ne.symm h0.mr) (fun g hgg e => by
        subst e
        obtain ⟨lv, _, k2, k3⟩ := h.heads.stand.ex
        obtain ⟨b, off, c, cs, rfl, hla⟩ := k2
        rw [← k3] at hgg
        cases hgg
        obtain ⟨es, clock, hb, _⟩ := h.map
        have := hla.blk
        unfold Blk at this
        rw [hb] at this
        cases this), hc.own h.heads.decl (own_ne h.heads.decl hmb), hc.own h.heads.marks (own_ne h.heads.marks hmb), hc.own h.heads.starts (own_ne h.heads.starts hmb), h.heads.apart, hrb, h.heads.tbB, Nat.le_trans h.heads.bB hc.size, h.heads.ld, h.heads.lm, h.heads.ls⟩
  · rw [show (rs ++ [q]).length = rs.length + 1 by simp]
    exact hc.own h.rules (own_ne h.rules hmb)
  · rw [List.map_append]
    exact h0.lefts.next (h0.map.tidy lawStrR) q.left.s
end Go.Proofs.YtnpjhndgdlihjaaDoor

namespace Go.Proofs.YtnpjhndgdlihjaaDoor
open Go.RowKit Go.Maps
set_option linter.unusedVariables false
theorem lefts_look {w : World} {mb n : Nat} {D : DataW Unit} {L : List (List UInt8)} (h : w.ownsMap Tryd.prog 9 (plainElem Tryd.prog 3) mb n D) (hL : Lefts D L) {s : List UInt8} (hs : s.length ≤ 8192) : (Instr.lookup 81 (.map (some mb)) (.string (str s)) false).run Tryd.prog w = .ok (.int .i64 (L.count s)) w := by
  have hk := WideMaps.keyOf_string_mk Tryd.underlying9 (s := str s) (by rw [str_size]; unfold maxLen; omega)
  obtain ⟨c, h1, h2, _⟩ := h.lookup_int lawStrR Tryd.underlying81 Tryd.underlying3 (zeroIntR w) hk
  rw [h1]
  have h3 := hL s
  have h2' : D.atKey (klR s) (.lit (.int .i64 0)) = .lit (.int .i64 c) := h2
  rw [h3] at h2'
  simp only [DataW.lit.injEq, Lit.int.injEq, true_and] at h2'
  rw [← h2']
theorem lefts_put {w : World} {mb n : Nat} {D : DataW Unit} (h : w.ownsMap Tryd.prog 9 (plainElem Tryd.prog 3) mb n D) (hn : n ≤ 100000) {s : List UInt8} (hs : s.length ≤ 8192) {c : Nat} (hc : c ≤ 100000) :
    ∃ w', (Instr.mapUpdate 81 (.map (some mb)) (.string (str s)) (.int .i64 ((c : Int) + 1))).run Tryd.prog w = .ok () w' ∧ w'.ownsMap Tryd.prog 9 (plainElem Tryd.prog 3) mb (n + 1) (D.put (klR s) (.lit (.int .i64 (c + 1)))) ∧ w.grownBy w' (some mb) := by
  have hk := WideMaps.keyOf_string_mk Tryd.underlying9 (s := str s) (by rw [str_size]; unfold maxLen; omega)
  exact h.update lawStrR Tryd.underlying81 (by unfold maxLen; omega) hk (plainElem_int Tryd.underlying3 (WalkArith.wf_i64 (by omega)))
theorem Appended.drew {w w7 : World} {B rb mb bb : Nat} {tb : Option Nat} {l : List Tk} {x : Txt} {dv kv sv rv : Value} {rs : List GRu} {q : GRu} {D : DataW Unit} (h : Appended w w7 B rb mb bb tb l x dv kv sv rv rs q D) : Appended w w7.drew B rb mb bb tb l x dv kv sv rv rs q D := by
  have hd : Chg (fun _ => False) w7 w7.drew := (Chg.refl _ _).drew
  exact ⟨h.heads.drew, hd.own h.rules (fun _ _ => id), fun r hr => (h.good r hr).chg hd (fun _ _ _ => id), map_chg h.map hd id, hd.blk h.blk id, h.chg.drew⟩
/-- A rule that has been read, or not. -/
def RuleEnd (w : World) (B rb mb : Nat) (tb : Option Nat) (x : Txt) (dv kv sv : Value) (rs : List GRu) (l : List Tk) (e : Ending) (w' : World) : Prop :=
  Chg (fun k => k = rb ∨ B ≤ k ∨ k = mb) w w' ∧ match oneR l with
  | .ok (r, l') => e = .returned (.tuple #[]) ∧ ∃ rv q D, q.r = r ∧ Rules w' B rb mb tb l' x dv kv sv rv (rs ++ [q]) D
  | .error f => Gives f e
theorem drop_le (l : List Tk) : (l.dropWhile symT).length ≤ l.length := (List.dropWhile_sublist symT).length_le
theorem one_yes {t t2 : Tk} {r2 : List Tk} (h1 : t.k = 1) (h3 : t2.k = 3) {a : List PS} {t4 : Tk} {r4 : List Tk} (hs : sidesL (r2.length + 1) [sideL r2] (r2.dropWhile symT) = (a, t4 :: r4)) (h5 : t4.k = 5) : oneR (t :: t2 :: r2) = .ok (⟨t, a⟩, r4) := by
  simp [oneR, h1, isK, h3, hs, h5]
theorem one_no {t t2 : Tk} {r2 : List Tk} (h1 : t.k = 1) (h3 : t2.k = 3) {a : List PS} {t4 : Tk} {r4 : List Tk} (hs : sidesL (r2.length + 1) [sideL r2] (r2.dropWhile symT) = (a, t4 :: r4)) (h5 : t4.k ≠ 5) : oneR (t :: t2 :: r2) = .error (badT (t4 :: r4)) := by
  simp [oneR, h1, isK, h3, hs, h5]
/-- The right sides that are left. -/
def SidesTo (S : List PS × List Tk) (ss : List GS) (rest : List Tk) : Prop := ∃ f, rest.length ≤ f ∧ S = sidesL f (ss.map GS.s) rest
theorem SidesTo.step {S : List PS × List Tk} {ss : List GS} {t : Tk} {r : List Tk} (h : SidesTo S ss (t :: r)) (hk : t.k = 4) (q : GS) (hq : q.s = sideL r) : SidesTo S (ss ++ [q]) (r.dropWhile symT) := by
  obtain ⟨f, hf, h⟩ := h
  cases f with
  | zero => simp at hf
  | succ f =>
    have := drop_le r
    simp at hf
    refine ⟨f, by omega, ?_⟩
    rw [h, sidesL, if_pos (by simp [isK, hk])]
    simp [hq]
theorem SidesTo.last {S : List PS × List Tk} {ss : List GS} {t : Tk} {r : List Tk} (h : SidesTo S ss (t :: r)) (hk : t.k ≠ 4) : S = (ss.map GS.s, t :: r) := by
  obtain ⟨f, hf, h⟩ := h
  cases f with
  | zero => simp at hf
  | succ f => rw [h, sidesL, if_neg (by simp [isK, hk])]
set_option maxRecDepth 100000 in
set_option maxHeartbeats 3200000 in
theorem readrule_any {w : World} {B rb mb : Nat} {tb : Option Nat} {l : List Tk} {x : Txt} {dv kv sv rv : Value} {rs : List GRu} {D : DataW Unit} (h : Rules w B rb mb tb l x dv kv sv rv rs D) (hsh : ∀ u ∈ l, u.s.length ≤ 8192) : Calls Tryd.prog 53 #[.pointer (some ⟨rb, 0, none⟩)] w (RuleEnd w B rb mb tb x dv kv sv rs l) := by
  obtain ⟨t, r, rfl⟩ := h.heads.stand.ended.cons
  have hst := hsh t (by simp)
  have HST := Lib.hid hst
  clear hsh hst
  obtain ⟨Ar, cr, rfl⟩ := own_shape h.rules
  by_cases h1 : t.k = 1
  · obtain ⟨hend, hne⟩ := h.heads.stand.ended.tail (by omega)
    obtain ⟨t2, r2, rfl⟩ := hend.cons
    have HW1 := Lib.hid (h.heads.stand.want 1 1 rfl h1 (by omega))
    have hlt := h.heads.stand.lt
    have hlen := h.lr
    simp at hlen
    have HH := Lib.hid h
    by_cases h3 : t2.k = 3
    · obtain ⟨hend3, hne3⟩ := hend.tail (by omega)
      obtain ⟨t3, r3, hr2⟩ := hend3.cons
      have HK1 := Lib.hid h1
      have HK3 := Lib.hid h3
      have HDL := Lib.hid (drop_le r2)
      clear h h1 h3 hend hne hend3 hne3 hr2
      go_enter Tryd.func53, Tryd.ntmps53
      go_wp2_with (first
        | (go_at_call 77; (with_reducible refine HW1.out.mono ?_); intro e w1 hx; obtain ⟨rfl, hc1, hs1⟩ := hx
           have HC1 := Lib.hid hc1
           have hsz1 := hc1.size
           have hs1a := hs1.chg ((Chg.refl (fun _ => False) w1).alloc (.cells #[.int .i64 t.k, .string (str t.s), .int .i64 t.p, .slice none 0 0] 113)) id (fun _ _ => id)
           have HBX := Lib.hid (Blk.new w1 113 #[.int .i64 t.k, .string (str t.s), .int .i64 t.p, .slice none 0 0])
           have HW2 := Lib.hid (hs1a.want 3 3 rfl HK3.out (by omega))
           clear hc1 hs1 hs1a)
        | (go_at_call 77; (with_reducible refine HW2.out.mono ?_); intro e w2 hx; obtain ⟨rfl, hc2, hs2⟩ := hx
           have hblk := hc2.blk HBX.out (by omega)
           have HS0 : Hid (SidesAt w rb dv kv sv (.slice Ar rs.length cr) (.map (some mb)) tb w1.heap.size t (.slice none 0 0) [] r2 w2) := Lib.hid ⟨hs2, hblk, World.ownsRow_nil _ _ _ _, (by simp), (HC1.out.alloc _).next hc2, hsz1, hlt.1, hlt.2⟩
           clear hc2 hs2 hblk))
      generalize w1.heap.size = bb at *
      have HD := Lib.hid HS0.out.drew
      have HSIDE := Lib.hid (side_any HD.out.stand (by omega))
      have b3 := HD.out.blk.cell 3
      have u3 := HD.out.blk.frozen 3
      have hszw := HD.out.chg.size
      simp at b3
      go_region_law (first
        | (refine step_app ElSide (.tmp 9) (.tmp 12) ?_ ?_ (base := w.heap.size) (n := 0) (m := 1) (N := 1) (v := .slice none 0 0) (src := .slice (some ⟨w3.heap.size, 0, none⟩) 1 1) (xs := []) (news := [.slice A (sideL r2).l.length c, .int .i64 (sideL r2).p]) ?_ ?_ ?_ ?_ ?_ ?_ ?_ ?_ ?_
           · rfl
           · rfl
           · rfl
           · rfl
           · exact World.ownsRow_nil _ _ _ _
           · exact src_side w3 _ _ _ _
           · rfl
           · unfold maxLen; omega
           · omega
           · simp; omega
           intro A4 c4 w4 r1 r2' r3
           have HF := Lib.hid (HD.out.rel rfl HC3.out HS3.out HO3.out r1 r2')
           have hk2 := r2'.blk (HB3.out.alloc _) (.inr (by decide))
           have z0 := hk2.cell 3
           have z1 := hk2.frozen 3
           simp at z0
           clear r1 r2' r3 hk2)
        | (go_simp; go_at_call 78; refine HSIDE.out.mono ?_; intro e w3 hx; obtain ⟨A, c, rfl, hc3, hs3, ho3⟩ := hx
           have hl3 := HD.out.later hc3 hs3
           have y0 := hl3.blk.cell 3
           have y1 := hl3.blk.frozen 3
           simp at y0
           have HB3 := Lib.hid hl3.blk
           have hbb3 := hl3.blk.lt
           have HC3 := Lib.hid hc3
           have HS3 := Lib.hid hs3
           have HO3 := Lib.hid ho3
           have hsz3 : w2.heap.size ≤ w3.heap.size := hc3.size
           clear hc3 hs3 ho3 hl3))
      all_goals go_wp2
      all_goals
        have hl1 : ([⟨sideL r2, .slice A (sideL r2).l.length c⟩] : List GS).length + (r2.dropWhile symT).length ≤ 100000 := by have := HDL.out; simp; omega
        have HL1 := Lib.hid (And.intro hl1 HDL.out)
        clear hl1
        go_loopg [] (r2.dropWhile symT).length (fun n wr => ∃ (bv : Value) (ss : List GS) (rest : List Tk), n = rest.length ∧ Hid (SidesAt w rb dv kv sv (.slice Ar rs.length cr) (.map (some mb)) tb bb t bv ss rest wr) ∧ Hid (SidesTo (sidesL (r2.length + 1) [sideL r2] (r2.dropWhile symT)) ss rest) ∧ Hid (ss.length + rest.length ≤ 100000 ∧ rest.length ≤ r2.length))
        case atStart => exact ⟨.slice A4 1 c4, [⟨sideL r2, .slice A (sideL r2).l.length c⟩], r2.dropWhile symT, rfl, Lib.hid HF.out, Lib.hid ⟨r2.length + 1, by have := HDL.out; omega, rfl⟩, HL1⟩
        case round =>
          obtain ⟨bv, ss, rest, rfl, HS, HTO, HLL⟩ := hrel
          obtain ⟨t4, r4, rfl⟩ := HS.out.stand.ended.cons
          have HIS := Lib.hid (HS.out.stand.is 4 4 rfl)
          obtain ⟨Ab, cb, rfl⟩ := own_shape HS.out.own
          obtain ⟨hll, hll2⟩ := HLL.out
          simp at hll hll2
          by_cases h4 : t4.k = 4
          · have hk4 : (t4.k == 4) = true := by simp [h4]
            rw [hk4] at HIS
            have HT4 := Lib.hid (HS.out.stand.take (by omega))
            have HK4 := Lib.hid h4
            clear hk4 h4
            go_wp2_with (first
              | (go_at_call 50; (with_reducible refine HIS.out.mono ?_); rintro e w' ⟨rfl, hw'⟩; subst hw')
              | (go_at_call 52; refine HT4.out.mono ?_; intro e w5 hx; obtain ⟨rfl, hc5, hs5⟩ := hx
                 have HS5 := Lib.hid (HS.out.later hc5 hs5)
                 clear hc5 hs5))
            have HD5 := Lib.hid HS5.out.drew
            have HSIDE5 := Lib.hid (side_any HD5.out.stand (by omega))
            have b5 := HD5.out.blk.cell 3
            have u5 := HD5.out.blk.frozen 3
            have hszw5 := HD5.out.chg.size
            simp at b5
            go_region_law (first
              | (refine step_app ElSide (.tmp 20) (.tmp 23) ?_ ?_ (base := w.heap.size) (n := ss.length) (m := 1) (N := ss.length + 1) (v := .slice Ab ss.length cb) (src := .slice (some ⟨w6.heap.size, 0, none⟩) 1 1) (xs := ss.flatMap GS.cells) (news := [.slice A6 (sideL r4).l.length c6, .int .i64 (sideL r4).p]) ?_ ?_ ?_ ?_ ?_ ?_ ?_ ?_ ?_
                 · rfl
                 · rfl
                 · rfl
                 · rfl
                 · exact HL6.out.own.alloc _
                 · exact src_side w6 _ _ _ _
                 · rfl
                 · unfold maxLen; omega
                 · omega
                 · simp; omega
                 intro A7 c7 w7 r1 r2' r3
                 have HG := Lib.hid (HD5.out.rel rfl HC6.out HS6.out HO6.out r1 r2')
                 have hk2 := r2'.blk (HL6.out.blk.alloc _) (.inr (by decide))
                 have z0 := hk2.cell 3
                 have z1 := hk2.frozen 3
                 simp at z0
                 clear r1 r2' r3 hk2)
              | (go_simp; go_at_call 78; refine HSIDE5.out.mono ?_; intro e w6 hx; obtain ⟨A6, c6, rfl, hc6, hs6, ho6⟩ := hx
                 have hl6 := HD5.out.later hc6 hs6
                 have y0 := hl6.blk.cell 3
                 have y1 := hl6.blk.frozen 3
                 simp at y0
                 have HL6 := Lib.hid hl6
                 have hbb6 := hl6.blk.lt
                 have HC6 := Lib.hid hc6
                 have HS6 := Lib.hid hs6
                 have HO6 := Lib.hid ho6
                 have hsz6 : w5.heap.size ≤ w6.heap.size := hc6.size
                 clear hc6 hs6 ho6 hl6))
            all_goals go_wp2
            all_goals have hdl := drop_le r4
            all_goals go_roundg (r4.dropWhile symT).length
            all_goals first
              | (case measure => simp; omega)
              | (case rel =>
                  exact ⟨.slice A7 (ss.length + 1) c7, ss ++ [⟨sideL r4, .slice A6 (sideL r4).l.length c6⟩], r4.dropWhile symT, rfl, Lib.hid HG.out, Lib.hid (HTO.out.step HK4.out _ rfl), Lib.hid ⟨by simp; omega, by omega⟩⟩)
          · have hk4 : (t4.k == 4) = false := by simp [h4]
            rw [hk4] at HIS
            have HLAST := Lib.hid (HTO.out.last h4)
            have HK4 := Lib.hid h4
            clear hk4 h4
            by_cases h5 : t4.k = 5
            · have HW5 := Lib.hid (HS.out.stand.want 5 5 rfl h5 (by omega))
              have HE := Lib.hid (one_yes HK1.out HK3.out HLAST.out h5)
              clear h5
              go_wp2_with (first
                | (go_at_call 50; (with_reducible refine HIS.out.mono ?_); rintro e w' ⟨rfl, hw'⟩; subst hw')
                | (go_at_call 77; refine HW5.out.mono ?_; intro e w5 hx; obtain ⟨rfl, hc5, hs5⟩ := hx
                   have HS5 := Lib.hid (HS.out.later hc5 hs5)
                   clear hc5 hs5))
              have HD5 := Lib.hid HS5.out.drew
              have HH5 := Lib.hid (HH.out.heads.chg HD5.out.chg (fun _ h => h) HD5.out.stand (by simp; omega))
              have HRR := Lib.hid (HD5.out.chg.own HH.out.rules (own_ne HH.out.rules HH.out.heads.rbB))
              obtain ⟨_, _, _, e4, e5, hrb5⟩ := HS5.out.stand.cells
              have x0 := HS5.out.blk.cell 0
              have x1 := HS5.out.blk.cell 1
              have x2 := HS5.out.blk.cell 2
              have x3 := HS5.out.blk.cell 3
              simp at x0 x1 x2 x3
              have hBw5 : B ≤ w5.heap.size := HH5.out.bB
              have hbb5 := HS5.out.blk.lt
              go_region_law (refine step_app ElRule (.tmp 32) (.tmp 34) ?_ ?_ (base := B) (n := rs.length) (m := 1) (N := rs.length + 1) (v := .slice Ar rs.length cr) (src := .slice (some ⟨w5.heap.size, 0, none⟩) 1 1) (xs := rs.flatMap GRu.cells) (news := [.int .i64 t.k, .string (str t.s), .int .i64 t.p, .slice Ab ss.length cb]) ?_ ?_ ?_ ?_ ?_ ?_ ?_ ?_ ?_
                             · rfl
                             · rfl
                             · rfl
                             · rfl
                             · exact HRR.out.alloc _
                             · exact SrcOK.blk (c := 1) (Blk.new w5.drew 113 #[.int .i64 t.k, .string (str t.s), .int .i64 t.p, .slice Ab ss.length cb]) rfl (by simp [Value.oneCell'])
                             · rfl
                             · unfold maxLen; omega
                             · omega
                             · simp at hBw5 ⊢; omega
                             intro A6 c6 w6 q1 q2 q3
                             have HAP := Lib.hid (rules_rel (o := .cells #[.int .i64 t.k, .string (str t.s), .int .i64 t.p, .slice Ab ss.length cb] 113) HH.out HD5.out (by simp; omega) q1 q3)
                             have hs6 := HH5.out.grown (o := .cells #[.int .i64 t.k, .string (str t.s), .int .i64 t.p, .slice Ab ss.length cb] 113) (own_ge HRR.out) q3.1
                             obtain ⟨_, _, _, cA, _, _⟩ := hs6.cells
                             have vA := hs6.frozen 4
                             clear q1 q2 q3 hs6)
              all_goals go_wp2
              all_goals generalize hw7 : World.setCell w6 ⟨rb, 4, none⟩ (.slice A6 (rs.length + 1) c6) = w7 at *
              all_goals clear cA vA e4 e5 x0 x1 x2 x3 hw7
              all_goals have HAD := Lib.hid HAP.out.drew
              all_goals obtain ⟨_, _, _, _, e5, _⟩ := HAP.out.heads.stand.cells
              all_goals have x1 := HAP.out.blk.cell 1
              all_goals simp at x1
              all_goals have hlook := lefts_look HAD.out.map HH.out.lefts HST.out
              all_goals have hcl : (rs.map fun r => r.left.s).count t.s ≤ (rs.map fun r => r.left.s).length := List.count_le_length
              all_goals simp at hcl
              all_goals generalize hcnt : (rs.map fun r => r.left.s).count t.s = n0 at *
              all_goals obtain ⟨w8, hput, hm8, hg8⟩ := lefts_put HAD.out.map (by omega) HST.out (c := n0) (by omega)
              all_goals have hsum : IntKind.i64.wrap ((n0 : Int) + 1) = (n0 : Int) + 1 := IntWalk.i64_in _ (by omega)
              all_goals have HM8 := Lib.hid hm8
              all_goals have HG8 := Lib.hid hg8
              all_goals have HCNT := Lib.hid hcnt
              all_goals clear hm8 hg8 hcnt
              all_goals go_region
              all_goals go_end0
              all_goals have hcnt := HCNT.out
              all_goals subst hcnt
              all_goals obtain ⟨g1, g2⟩ := Appended.last HH.out (by simp; omega) HAD.out HG8.out HM8.out
              all_goals refine ⟨g2, ?_⟩
              all_goals rw [HE.out]
              all_goals exact ⟨rfl, _, _, _, rfl, g1⟩
            · have HW5 := Lib.hid (HS.out.stand.wantNo 5 5 rfl h5)
              have HE := Lib.hid (one_no HK1.out HK3.out HLAST.out h5)
              clear h5
              go_wp2_with (first
                | (go_at_call 50; (with_reducible refine HIS.out.mono ?_); rintro e w' ⟨rfl, hw'⟩; subst hw')
                | (go_at_call 77; refine HW5.out.mono ?_; rintro e w5 ⟨rfl, hb5⟩))
              refine ⟨rfl, (HS.out.chg.mono (fun _ h => .inl h)).next (.of_below hb5), ?_⟩
              rw [HE.out]
              exact Gives.of rfl rfl
    · have HE : Hid (oneR (t :: t2 :: r2) = .error (badT (t2 :: r2))) := Lib.hid (by simp [oneR, h1, isK, h3])
      clear h h1 hend hne
      go_enter Tryd.func53, Tryd.ntmps53
      go_wp2_with (first
        | (go_at_call 77; (with_reducible refine HW1.out.mono ?_); intro e w1 hx; obtain ⟨rfl, hc1, hs1⟩ := hx
           have HC1 := Lib.hid hc1
           have hs1a := hs1.chg ((Chg.refl (fun _ => False) w1).alloc (.cells #[.int .i64 t.k, .string (str t.s), .int .i64 t.p, .slice none 0 0] 113)) id (fun _ _ => id)
           have HW2 := Lib.hid (hs1a.wantNo 3 3 rfl h3)
           clear hc1 hs1 hs1a)
        | (go_at_call 77; (with_reducible refine HW2.out.mono ?_); rintro e w2 ⟨rfl, hb2⟩))
      refine ⟨rfl, ((HC1.out.mono (fun _ h => .inl h)).alloc _).next (.of_below hb2), ?_⟩
      rw [HE.out]
      exact Gives.of rfl rfl
  · have HW1 := Lib.hid (h.heads.stand.wantNo 1 1 rfl h1)
    have HE : Hid (oneR (t :: r) = .error (badT (t :: r))) := Lib.hid (by simp [oneR, h1])
    clear h h1
    go_enter Tryd.func53, Tryd.ntmps53
    go_wp2_with (go_at_call 77; refine HW1.out.mono ?_; rintro e w1 ⟨rfl, hb1⟩)
    refine ⟨rfl, .of_below hb1, ?_⟩
    rw [HE.out]
    exact Gives.of rfl rfl
end Go.Proofs.YtnpjhndgdlihjaaDoor

namespace Go.Proofs.YtnpjhndgdlihjaaDoor
open Go.RowKit Go.Maps
set_option linter.unusedVariables false
theorem drop_mem (l : List Tk) : ∀ u ∈ l.dropWhile symT, u ∈ l := fun u hu => (List.dropWhile_sublist symT).subset hu
theorem head_less {x x' : Txt} {l l' : List Tk} (h : headL x l = .ok (x', l')) : l'.length < l.length ∧ ∀ u ∈ l', u ∈ l := by
  cases l with
  | nil => cases h
  | cons t r =>
    simp only [headL] at h
    split at h
    · split at h
      · cases h
      · injection h with h
        obtain ⟨rfl, rfl⟩ := Prod.mk.inj h
        have := drop_le r
        exact ⟨by simp; omega, fun u hu => List.mem_cons_of_mem _ (drop_mem r u hu)⟩
    split at h
    · split at h
      · injection h with h
        obtain ⟨rfl, rfl⟩ := Prod.mk.inj h
        exact ⟨by simp; omega, fun u hu => List.mem_cons_of_mem _ (List.mem_of_mem_drop hu)⟩
      · cases h
    · cases h
theorem sides_less (f : Nat) : ∀ (a : List PS) (l : List Tk), (sidesL f a l).2.length ≤ l.length ∧ ∀ u ∈ (sidesL f a l).2, u ∈ l := by
  induction f with
  | zero => intro a l; exact ⟨Nat.le_refl _, fun u h => h⟩
  | succ f ih =>
    intro a l
    unfold sidesL
    split
    · obtain ⟨h1, h2⟩ := ih (a ++ [sideL (l.drop 1)]) ((l.drop 1).dropWhile symT)
      have := drop_le (l.drop 1)
      have h3 : (l.drop 1).length ≤ l.length := by simp
      exact ⟨by omega, fun u hu => List.mem_of_mem_drop (drop_mem _ u (h2 u hu))⟩
    · exact ⟨Nat.le_refl _, fun u h => h⟩
theorem one_less {r : PR} {l l' : List Tk} (h : oneR l = .ok (r, l')) : l'.length < l.length ∧ ∀ u ∈ l', u ∈ l := by
  cases l with
  | nil => cases h
  | cons t r =>
    simp only [oneR] at h
    split at h
    · cases h
    split at h
    · split at h
      · injection h with h
        obtain ⟨rfl, rfl⟩ := Prod.mk.inj h
        obtain ⟨h1, h2⟩ := sides_less r.length [sideL (r.drop 1)] ((r.drop 1).dropWhile symT)
        have := drop_le (r.drop 1)
        have h3 : (r.drop 1).length ≤ r.length := by simp
        refine ⟨by rw [List.length_drop, List.length_cons]; omega, fun u hu => List.mem_cons_of_mem _ (List.mem_of_mem_drop (drop_mem _ u (h2 u (List.mem_of_mem_drop hu))))⟩
      · cases h
    · cases h
def HeadsTo (H : Except Flt (Txt × List Tk)) (x : Txt) (l : List Tk) : Prop := ∃ f, l.length < f ∧ H = headsL f x l
theorem HeadsTo.step {H : Except Flt (Txt × List Tk)} {x x' : Txt} {l l' : List Tk} (h : HeadsTo H x l) (h6 : isK 6 l = false) (he : headL x l = .ok (x', l')) : HeadsTo H x' l' := by
  obtain ⟨f, hf, h⟩ := h
  have := (head_less he).1
  cases f with
  | zero => omega
  | succ f => exact ⟨f, by omega, by rw [h, headsL, if_neg (by simp [h6])]; simp [he]⟩
theorem HeadsTo.fail {H : Except Flt (Txt × List Tk)} {x : Txt} {l : List Tk} {e : Flt} (h : HeadsTo H x l) (h6 : isK 6 l = false) (he : headL x l = .error e) : H = .error e := by
  obtain ⟨f, hf, h⟩ := h
  cases f with
  | zero => omega
  | succ f => rw [h, headsL, if_neg (by simp [h6])]; simp [he]
theorem HeadsTo.last {H : Except Flt (Txt × List Tk)} {x : Txt} {l : List Tk} (h : HeadsTo H x l) (h6 : isK 6 l = true) : H = .ok (x, l.drop 1) := by
  obtain ⟨f, hf, h⟩ := h
  cases f with
  | zero => omega
  | succ f => rw [h, headsL, if_pos h6]
def MoreTo (H : Except Flt (List PR)) (a : List PR) (l : List Tk) : Prop := ∃ f, l.length < f ∧ H = moreR f a l
theorem MoreTo.step {H : Except Flt (List PR)} {a : List PR} {r : PR} {l l' : List Tk} (h : MoreTo H a l) (h0 : isK 0 l = false) (he : oneR l = .ok (r, l')) : MoreTo H (a ++ [r]) l' := by
  obtain ⟨f, hf, h⟩ := h
  have := (one_less he).1
  cases f with
  | zero => omega
  | succ f => exact ⟨f, by omega, by rw [h, moreR, if_neg (by simp [h0])]; simp [he]⟩
theorem MoreTo.fail {H : Except Flt (List PR)} {a : List PR} {l : List Tk} {e : Flt} (h : MoreTo H a l) (h0 : isK 0 l = false) (he : oneR l = .error e) : H = .error e := by
  obtain ⟨f, hf, h⟩ := h
  cases f with
  | zero => omega
  | succ f => rw [h, moreR, if_neg (by simp [h0])]; simp [he]
theorem MoreTo.last {H : Except Flt (List PR)} {a : List PR} {l : List Tk} (h : MoreTo H a l) (h0 : isK 0 l = true) : H = .ok a := by
  obtain ⟨f, hf, h⟩ := h
  cases f with
  | zero => omega
  | succ f => rw [h, moreR, if_pos h0]
/-- A text that has been read, or not. -/
def FormEnd (w : World) (B rb mb : Nat) (tb : Option Nat) (l : List Tk) (e : Ending) (w' : World) : Prop :=
  Chg (fun k => k = rb ∨ B ≤ k ∨ k = mb) w w' ∧ match formL l with
  | .ok y => e = .returned (.tuple #[]) ∧ ∃ l' dv kv sv rv rs D, rs.map GRu.r = y.rules ∧ Rules w' B rb mb tb l' y dv kv sv rv rs D
  | .error f => Gives f e
theorem Rules.turn {w : World} {B rb mb : Nat} {tb : Option Nat} {l : List Tk} {x : Txt} {dv kv sv rv : Value} {rs : List GRu} {D : DataW Unit} (h : Rules w B rb mb tb l x dv kv sv rv rs D) (R : List PR) : Rules w B rb mb tb l { x with rules := R } dv kv sv rv rs D := by
  obtain ⟨⟨a1, a2, a3, a4, a5, a6, a7, a8, a9, a10, a11⟩, b2, b3, b4, b5, b6, b7, b8⟩ := h
  exact ⟨⟨a1, a2, a3, a4, a5, a6, a7, a8, a9, a10, a11⟩, b2, b3, b4, b5, b6, b7, b8⟩
set_option maxRecDepth 100000 in
set_option maxHeartbeats 3200000 in
theorem form_any {w : World} {B rb mb : Nat} {tb : Option Nat} {l : List Tk} (h : Heads w B rb (.slice none 0 0) (.map (some mb)) tb l ⟨[], [], [], []⟩ (.slice none 0 0) (.slice none 0 0) (.slice none 0 0)) (hm : w.ownsMap Tryd.prog 9 (plainElem Tryd.prog 3) mb 0 (.map [] : DataW Unit)) (hmB : mb < B) (hmr : mb ≠ rb) (hsh : ∀ u ∈ l, u.s.length ≤ 8192) : Calls Tryd.prog 37 #[.pointer (some ⟨rb, 0, none⟩)] w (FormEnd w B rb mb tb l) := by
  have hlen : l.length ≤ 100000 := by have := h.ld; simp at this; omega
  have HH := Lib.hid h
  have HSH := Lib.hid hsh
  have HM := Lib.hid hm
  clear h hsh hm
  go_enter Tryd.func37, Tryd.ntmps37
  go_wp2
  go_loopg [] l.length (fun n wr => ∃ (x : Txt) (l' : List Tk) (dv kv sv : Value), n = l'.length ∧ Hid (Heads wr B rb (.slice none 0 0) (.map (some mb)) tb l' x dv kv sv) ∧ Hid (Chg (fun k => k = rb ∨ B ≤ k) w wr) ∧ Hid (HeadsTo (headsL (l.length + 1) ⟨[], [], [], []⟩ l) x l') ∧ Hid ((∀ u ∈ l', u ∈ l) ∧ l'.length ≤ l.length))
  case atStart => exact ⟨⟨[], [], [], []⟩, l, _, _, _, rfl, HH, Lib.hid (Chg.refl _ _), Lib.hid ⟨l.length + 1, by omega, rfl⟩, Lib.hid ⟨fun u h => h, Nat.le_refl _⟩⟩
  case round =>
    obtain ⟨x, l', dv, kv, sv, rfl, HR, HC, HT, HI⟩ := hrel
    obtain ⟨t, r, rfl⟩ := HR.out.stand.ended.cons
    have HIS := Lib.hid (HR.out.stand.is 6 6 rfl)
    by_cases h6 : t.k = 6
    · have hk : (t.k == 6) = true := by simp [h6]
      rw [hk] at HIS
      have HLAST := Lib.hid (HT.out.last (by simpa [isK] using hk))
      have HTK := Lib.hid (HR.out.stand.take (by omega))
      clear hk h6
      have HR1F := Lib.hid (fun (w1 : World) (hc : Chg (· = rb) wr w1) (hs : Stand w1 rb dv kv sv (.slice none 0 0) (.map (some mb)) tb r) => (⟨HR.out.chg hc (fun _ h => h) hs (by simp), World.ownsRow_nil _ _ _ _, by simp, map_chg (map_chg HM.out HC.out (by omega)) hc hmr, Lefts.start, hmB, hmr, by have := HI.out.2; simp at this ⊢; omega⟩ : Rules w1 B rb mb tb r x dv kv sv (.slice none 0 0) [] (.map [])))
      have HSHR := Lib.hid (fun u (hu : u ∈ r) => HSH.out u (HI.out.1 u (List.mem_cons_of_mem _ hu)))
      cases ho : oneR r with
      | error f =>
        have HE := Lib.hid ho
        clear ho
        go_wp2_with (first
          | (go_at_call 50; (with_reducible refine HIS.out.mono ?_); rintro e w' ⟨rfl, hw'⟩; subst hw')
          | (go_at_call 52; refine HTK.out.mono ?_; intro e w1 hx; obtain ⟨rfl, hc1, hs1⟩ := hx; have HC1 := Lib.hid hc1; have HRU := Lib.hid (readrule_any (HR1F.out _ hc1 hs1) HSHR.out); clear hc1 hs1)
          | (go_at_call 53; refine HRU.out.mono ?_; intro e w2 hx; obtain ⟨hc2, hx⟩ := hx; rw [HE.out] at hx; have hx : e = _ := hx; subst hx))
        refine ⟨rfl, (((HC.out.next (HC1.out.mono (fun _ h => .inl h))).mono (fun i hi => hi.imp id .inl)).next hc2), ?_⟩
        unfold formL
        rw [HLAST.out]
        simp only [List.drop_succ_cons, List.drop_zero]
        rw [HE.out]
        exact Gives.of rfl rfl
      | ok p =>
        obtain ⟨r1, l2⟩ := p
        have HE := Lib.hid ho
        clear ho
        go_wp2_with (first
          | (go_at_call 50; (with_reducible refine HIS.out.mono ?_); rintro e w' ⟨rfl, hw'⟩; subst hw')
          | (go_at_call 52; refine HTK.out.mono ?_; intro e w1 hx; obtain ⟨rfl, hc1, hs1⟩ := hx; have HC1 := Lib.hid hc1; have HRU := Lib.hid (readrule_any (HR1F.out _ hc1 hs1) HSHR.out); clear hc1 hs1)
          | (go_at_call 53; refine HRU.out.mono ?_; intro e w2 hx; obtain ⟨hc2, hx⟩ := hx; rw [HE.out] at hx; obtain ⟨rfl, rv2, q2, D2, hq2, hr2⟩ := hx
             have HC2 := Lib.hid ((((HC.out.next (HC1.out.mono (fun _ h => .inl h))).mono (fun i hi => hi.imp id .inl)).next hc2 : Chg (fun k => k = rb ∨ B ≤ k ∨ k = mb) w w2))
             have HQ2 := Lib.hid hq2
             have HR2 := Lib.hid hr2
             clear hc2 hq2 hr2))
        go_loopg [] l2.length (fun n wx => ∃ (rv : Value) (rs : List GRu) (D : DataW Unit) (l3 : List Tk), n = l3.length ∧ Hid (Rules wx B rb mb tb l3 x dv kv sv rv rs D) ∧ Hid (Chg (fun k => k = rb ∨ B ≤ k ∨ k = mb) w wx) ∧ Hid (MoreTo (moreR (l.length + 1) [r1] l2) (rs.map GRu.r) l3) ∧ Hid (∀ u ∈ l3, u ∈ l))
        case atStart => exact ⟨rv2, [q2], D2, l2, rfl, HR2, HC2, Lib.hid ⟨l.length + 1, by have := (one_less HE.out).1; have := HI.out.2; simp at this; omega, by rw [← HQ2.out]; rfl⟩, Lib.hid (fun u hu => HI.out.1 u (List.mem_cons_of_mem _ ((one_less HE.out).2 u hu)))⟩
        case round =>
          obtain ⟨rv, rs, D, l3, rfl, HR3, HC3, HT3, HI3⟩ := hrel
          obtain ⟨t3, r3, rfl⟩ := HR3.out.heads.stand.ended.cons
          have HIS3 := Lib.hid (HR3.out.heads.stand.is 0 0 rfl)
          have HRU3 := Lib.hid (readrule_any HR3.out (fun u hu => HSH.out u (HI3.out u hu)))
          have HFORM : Hid (∀ a, moreR (l.length + 1) [r1] l2 = .ok a → formL l = .ok { x with rules := a }) := Lib.hid (fun a ha => by
            unfold formL
            rw [HLAST.out]
            simp only [List.drop_succ_cons, List.drop_zero]
            rw [HE.out]
            simp only
            rw [ha])
          have HFORME : Hid (∀ f, moreR (l.length + 1) [r1] l2 = .error f → formL l = .error f) := Lib.hid (fun f ha => by
            unfold formL
            rw [HLAST.out]
            simp only [List.drop_succ_cons, List.drop_zero]
            rw [HE.out]
            simp only
            rw [ha])
          by_cases h0 : t3.k = 0
          · have hk : (t3.k == 0) = true := by simp [h0]
            rw [hk] at HIS3
            have HL3 := Lib.hid (HT3.out.last (by simpa [isK] using hk))
            clear hk h0
            go_wp2_with (go_at_call 50; (with_reducible refine HIS3.out.mono ?_); rintro e w' ⟨rfl, hw'⟩; subst hw')
            go_end0
            refine ⟨HC3.out, ?_⟩
            rw [HFORM.out _ HL3.out]
            exact ⟨rfl, _, _, _, _, _, _, _, rfl, HR3.out.turn _⟩
          · have hk : (t3.k == 0) = false := by simp [h0]
            rw [hk] at HIS3
            have HK := Lib.hid (show isK 0 (t3 :: r3) = false by simpa [isK] using hk)
            clear hk h0
            cases ho3 : oneR (t3 :: r3) with
            | error f =>
              have HE3 := Lib.hid ho3
              clear ho3
              go_wp2_with (first
                | (go_at_call 50; (with_reducible refine HIS3.out.mono ?_); rintro e w' ⟨rfl, hw'⟩; subst hw')
                | (go_at_call 53; refine HRU3.out.mono ?_; intro e w4 hx; obtain ⟨hc4, hx⟩ := hx; rw [HE3.out] at hx; have hx : e = _ := hx; subst hx))
              refine ⟨rfl, HC3.out.next hc4, ?_⟩
              rw [HFORME.out _ (HT3.out.fail HK.out HE3.out)]
              exact Gives.of rfl rfl
            | ok p =>
              obtain ⟨r4, l4⟩ := p
              have HE3 := Lib.hid ho3
              clear ho3
              go_wp2_with (first
                | (go_at_call 50; (with_reducible refine HIS3.out.mono ?_); rintro e w' ⟨rfl, hw'⟩; subst hw')
                | (go_at_call 53; refine HRU3.out.mono ?_; intro e w4 hx; obtain ⟨hc4, hx⟩ := hx; rw [HE3.out] at hx; obtain ⟨rfl, rv4, q4, D4, hq4, hr4⟩ := hx; have HC4 := Lib.hid hc4; have HQ4 := Lib.hid hq4; have HR4 := Lib.hid hr4; clear hc4 hq4 hr4))
              have hless := (one_less HE3.out).1
              go_roundg l4.length
              case measure => exact hless
              case rel => exact ⟨rv4, rs ++ [q4], D4, l4, rfl, HR4, Lib.hid (HC3.out.next HC4.out), Lib.hid (by have h := HT3.out.step HK.out HE3.out; rw [← HQ4.out] at h; rw [List.map_append]; exact h), Lib.hid (fun u hu => HI3.out u ((one_less HE3.out).2 u hu))⟩
    · have hk : (t.k == 6) = false := by simp [h6]
      rw [hk] at HIS
      have HK := Lib.hid (show isK 6 (t :: r) = false by simpa [isK] using hk)
      have HHD := Lib.hid (head_any HR.out)
      clear hk h6
      cases he : headL x (t :: r) with
      | error f =>
        have HE := Lib.hid he
        clear he
        go_wp2_with (first
          | (go_at_call 50; refine HIS.out.mono ?_; rintro e w' ⟨rfl, hw'⟩; subst hw')
          | (go_at_call 51; refine HHD.out.mono ?_; intro e w1 hx; obtain ⟨hc, hx⟩ := hx; rw [HE.out] at hx; have hx : e = _ := hx; subst hx))
        refine ⟨rfl, (HC.out.next hc).mono (fun i hi => hi.imp id .inl), ?_⟩
        unfold formL
        rw [HT.out.fail HK.out HE.out]
        exact Gives.of rfl rfl
      | ok p =>
        obtain ⟨x2, l2⟩ := p
        have HE := Lib.hid he
        clear he
        go_wp2_with (first
          | (go_at_call 50; refine HIS.out.mono ?_; rintro e w' ⟨rfl, hw'⟩; subst hw')
          | (go_at_call 51; refine HHD.out.mono ?_; intro e w1 hx; obtain ⟨hc, hx⟩ := hx; rw [HE.out] at hx; obtain ⟨rfl, dv2, kv2, sv2, hh2⟩ := hx; have HC2 := Lib.hid hc; have HH2 := Lib.hid hh2; clear hc hh2))
        have hless := (head_less HE.out).1
        go_roundg l2.length
        case measure => exact hless
        case rel => exact ⟨x2, l2, dv2, kv2, sv2, rfl, HH2, Lib.hid (HC.out.next HC2.out), Lib.hid (HT.out.step HK.out HE.out), Lib.hid ⟨fun u hu => HI.out.1 u ((head_less HE.out).2 u hu), by have := HI.out.2; omega⟩⟩
end Go.Proofs.YtnpjhndgdlihjaaDoor
