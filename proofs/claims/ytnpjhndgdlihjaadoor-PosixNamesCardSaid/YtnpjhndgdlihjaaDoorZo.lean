/- The document's rule, where it is right. The document's reader, where the text is right; what is read, as it lies. Names of a grammar, by the document: all, one, a name's symbol. The document's grammar of a text, plainly: where the text is right. The document's left sides. -/
import Derived.Test.YtnpjhndgdlihjaaDoorZn
import Derived.Test.YtnpjhndgdlihjaaDoorZf
import Derived.Test.YtnpjhndgdlihjaaDoorZm
import Derived.Test.YtnpjhndgdlihjaaDoorZl
import Derived.Test.YtnpjhndgdlihjaaDoorZa
import Derived.Test.YtnpjhndgdlihjaaDoorZu
import Derived.Test.YtnpjhndgdlihjaaDoorZs
namespace Go.Proofs.YtnpjhndgdlihjaaDoor
open Go.RowKit
set_option linter.unusedVariables false
theorem ElSideD : El Tryd.prog 61 125 2 32 := El.of (z := .agg #[.slice none 0 0, .int .i64 0]) Tryd.underlying61 (by kernel_rfl) rfl (by decide)
theorem ElRuleD : El Tryd.prog 50 63 4 56 := El.of (z := .agg #[.int .i64 0, .string ⟨#[]⟩, .int .i64 0, .slice none 0 0]) Tryd.underlying50 (by kernel_rfl) rfl (by decide)
theorem src_sideD (y : World) (A : Option Addr) (n c : Nat) (p : Int) : SrcOK (y.alloc (.cells #[.slice A n c, .int .i64 p] 125)) (.slice (some ⟨y.heap.size, 0, none⟩) 1 1) 1 2 [.slice A n c, .int .i64 p] :=
  SrcOK.blk (c := 1) (Blk.new y 125 #[.slice A n c, .int .i64 p]) rfl (by simp [Value.oneCell'])
/-- A rule as it lies, with its rows. -/
def GoodD (w : World) (B : Nat) (r : GRu) : Prop := w.ownsRow B 125 2 r.v r.ss.length (r.ss.flatMap GS.cells) ∧ ∀ q ∈ r.ss, GoodS w B q
theorem GoodD.chg {X : Nat → Prop} {w w' : World} {B : Nat} {r : GRu} (h : GoodD w B r) (hc : Chg X w w') (hx : ∀ g, B ≤ g → g < w.heap.size → ¬ X g) : GoodD w' B r :=
  ⟨hc.own h.1 (fun g hg => hx g (own_ge h.1 g hg).1 (own_ge h.1 g hg).2), fun q hq => (h.2 q hq).chg hc hx⟩
theorem GoodD.mono {w : World} {B B' : Nat} {r : GRu} (h : GoodD w B r) (hB : B' ≤ B) : GoodD w B' r := ⟨own_mono h.1 hB, fun q hq => own_mono (h.2 q hq) hB⟩
theorem sides_split {f : Nat} {d ss : List PS} {L rest : List Tk} {e : Tk} (h : sidesL f d L = (ss, e :: rest)) (he : e.k = 5) : (L = e :: rest ∧ d = ss) ∨ ∃ u r2 f', L = u :: r2 ∧ u.k = 4 ∧ sidesL f' (d ++ [sideL r2]) (r2.dropWhile symT) = (ss, e :: rest) := by
  cases f with
  | zero => unfold sidesL at h; cases h; exact .inl ⟨rfl, rfl⟩
  | succ f =>
    unfold sidesL at h
    by_cases h4 : isK 4 L = true
    · rw [if_pos h4] at h
      cases L with
      | nil => cases h4
      | cons u r2 => exact .inr ⟨u, r2, f, rfl, by simpa [isK] using h4, h⟩
    · rw [if_neg h4] at h
      cases h
      exact .inl ⟨rfl, rfl⟩
/-- Where the sides stand, that are being read. -/
def SPos (l : List Tk) (k : Nat) (d ss : List PS) (rest : List Tk) : Prop :=
  (∃ e, l.drop k = e :: rest ∧ e.k = 5 ∧ d = ss) ∨ ∃ u f e, l[k]? = some u ∧ u.k ≠ 5 ∧ sidesL f (d ++ [sideL (l.drop (k + 1))]) ((l.drop (k + 1)).dropWhile symT) = (ss, e :: rest) ∧ e.k = 5
theorem sides_ne {f : Nat} {d ss : List PS} {L rest : List Tk} {e : Tk} (h : sidesL f d L = (ss, e :: rest)) (he : e.k = 5) : L ≠ [] := by
  rcases sides_split h he with ⟨h1, _⟩ | ⟨u, r2, f', h1, _⟩ <;> rw [h1] <;> simp
theorem SPos.next {l : List Tk} {k j f : Nat} {d ss : List PS} {rest : List Tk} {e : Tk} (h : sidesL f (d ++ [sideL (l.drop (k + 1))]) ((l.drop (k + 1)).dropWhile symT) = (ss, e :: rest)) (he : e.k = 5) (hd : (l.drop (k + 1)).dropWhile symT = l.drop j) :
    ∃ u, l[j]? = some u ∧ (u.k = 4 ∨ u.k = 5) ∧ SPos l j (d ++ [sideL (l.drop (k + 1))]) ss rest := by
  rw [hd] at h
  rcases sides_split h he with ⟨h1, h2⟩ | ⟨u, r2, f', h1, h2, h3⟩
  · exact ⟨e, (drop_get h1).1, .inr he, .inl ⟨e, h1, he, h2⟩⟩
  · obtain ⟨g1, g2, _⟩ := drop_get h1
    refine ⟨u, g1, .inl h2, .inr ⟨u, f', e, g1, by omega, ?_, he⟩⟩
    rw [g2]
    exact h3
theorem one_split {l rest : List Tk} {r : PR} {at_ : Nat} (h : oneR (l.drop at_) = .ok (r, rest)) : ∃ t c, l[at_]? = some t ∧ l[at_ + 1]? = some c ∧ t.k = 1 ∧ c.k = 3 ∧ r.left = t ∧ SPos l (at_ + 1) [] r.sides rest := by
  cases hl : l.drop at_ with
  | nil => rw [hl] at h; cases h
  | cons t r' =>
    rw [hl] at h
    obtain ⟨g1, g2, _⟩ := drop_get hl
    unfold oneR at h
    dsimp only at h
    by_cases h1 : t.k = 1
    · rw [if_neg (by simpa using h1)] at h
      cases r' with
      | nil => cases h
      | cons c r1 =>
        by_cases h3 : c.k = 3
        · obtain ⟨g3, g4, _⟩ := drop_get g2
          rw [if_pos (by simp [isK, h3])] at h
          by_cases h5 : isK 5 (sidesL (c :: r1).length [sideL ((c :: r1).drop 1)] (((c :: r1).drop 1).dropWhile symT)).2 = true
          · rw [if_pos h5] at h
            cases h
            refine ⟨t, c, g1, g3, h1, h3, rfl, .inr ⟨c, (c :: r1).length, ?_⟩⟩
            cases hs : sidesL (c :: r1).length [sideL ((c :: r1).drop 1)] (((c :: r1).drop 1).dropWhile symT) with
            | mk s2 L2 =>
              rw [hs] at h5
              cases L2 with
              | nil => cases h5
              | cons e r2 =>
                refine ⟨e, g3, by omega, ?_, by simpa [isK] using h5⟩
                rw [g4]
                exact hs
          · rw [if_neg h5] at h; cases h
        · rw [if_neg (by simp [isK, h3])] at h; cases h
    · rw [if_pos h1] at h; cases h
/-- Where a rule stands, that is being read. -/
structure RuAt (w : World) (B rb : Nat) (t : Tk) (sv : Value) (gs : List GS) : Prop where
  blk : Blk w rb 63 #[.int .i64 t.k, .string (str t.s), .int .i64 t.p, sv]
  own : w.ownsRow B 125 2 sv gs.length (gs.flatMap GS.cells)
  good : ∀ q ∈ gs, GoodS w B q
  rbB : rb < B
theorem RuAt.chg {X : Nat → Prop} {w w' : World} {B rb : Nat} {t : Tk} {sv : Value} {gs : List GS} (h : RuAt w B rb t sv gs) (hc : Chg X w w') (hx : ¬ X rb) (hB : ∀ k, B ≤ k → k < w.heap.size → ¬ X k) : RuAt w' B rb t sv gs :=
  ⟨hc.blk h.blk hx, hc.own h.own (fun g hg => hB g (own_ge h.own g hg).1 (own_ge h.own g hg).2), fun q hq => (h.good q hq).chg hc hB, h.rbB⟩
/-- A side is appended. -/
theorem RuAt.grow {w w2 : World} {o : Obj} {B rb : Nat} {t : Tk} {sv v2 : Value} {gs : List GS} {q : GS} (h : RuAt w B rb t sv gs) (hq : GoodS w B q) (ho : w2.ownsRow B 125 2 v2 (gs.length + 1) (gs.flatMap GS.cells ++ q.cells)) (hg : Grew w o w2 sv v2) :
    RuAt (w2.setCell ⟨rb, 3, none⟩ v2) B rb t v2 (gs ++ [q]) ∧ Chg (fun k => k = rb ∨ B ≤ k) w (w2.setCell ⟨rb, 3, none⟩ v2) := by
  have e1 : ¬ sv.ownBlock = some rb := own_blk (t := 60) (cs := #[]) h.own h.rbB
  have hC : Chg (fun k => k = rb ∨ B ≤ k) w (w2.setCell ⟨rb, 3, none⟩ v2) := (hg.chg.mono (fun k hk => .inr (own_ge h.own k hk).1)).set (p := ⟨rb, 3, none⟩) (.inr (.inl rfl)) _
  have hgd : ∀ u, GoodS w B u → GoodS (w2.setCell ⟨rb, 3, none⟩ v2) B u := fun u hu => own_far2 (hg.chg.own hu (fun g h1 h2 => own_apart h.own hu (by decide) g h2 h1)) h.rbB
  refine ⟨⟨by simpa using (hg.chg.blk h.blk e1).set_ 3 v2, ?_, fun u hu => ?_, h.rbB⟩, hC⟩
  · have e2 : (gs ++ [q]).length = gs.length + 1 := by simp
    rw [e2, List.flatMap_append]
    exact own_far2 (by simpa [List.flatMap] using ho) h.rbB
  · rcases List.mem_append.1 hu with hu | hu
    · exact hgd u (h.good u hu)
    · rw [List.mem_singleton] at hu
      subst hu
      exact hgd _ hq
/-- A side's row grows. -/
theorem sd_grow {w w2 : World} {o : Obj} {M sb : Nat} {v v2 pv : Value} {n m : Nat} {xs ys : List Value} (hb : Blk w sb 125 #[v, pv]) (hv : w.ownsRow M 60 3 v n xs) (hM : sb < M) (ho : w2.ownsRow M 60 3 v2 m ys) (hg : Grew w o w2 v v2) :
    Blk (w2.setCell ⟨sb, 0, none⟩ v2) sb 125 #[v2, pv] ∧ (w2.setCell ⟨sb, 0, none⟩ v2).ownsRow M 60 3 v2 m ys ∧ Chg (fun k => k = sb ∨ M ≤ k) w (w2.setCell ⟨sb, 0, none⟩ v2) ∧ Blk w2 sb 125 #[v, pv] := by
  have e1 : ¬ v.ownBlock = some sb := own_blk (t := 60) (cs := #[]) hv hM
  exact ⟨by simpa using (hg.chg.blk hb e1).set_ 0 v2, own_far2 ho hM, (hg.chg.mono (fun k hk => .inr (own_ge hv k hk).1)).set (p := ⟨sb, 0, none⟩) (.inr (.inl rfl)) _, hg.chg.blk hb e1⟩
theorem set2_blk {w : World} {b : Nat} {t : TypeId} {x0 x1 y0 y1 : Value} (h : Blk w b t #[x0, x1]) : Blk ((w.setCell ⟨b, 0, none⟩ y0).setCell ⟨b, 1, none⟩ y1) b t #[y0, y1] := by
  simpa using (h.set_ 0 y0).set_ 1 y1
theorem set4_blk' {w : World} {b : Nat} {t : TypeId} {x0 x1 x2 x3 y0 y1 y2 y3 : Value} (h : Blk w b t #[x0, x1, x2, x3]) : Blk ((((w.setCell ⟨b, 0, none⟩ y0).setCell ⟨b, 1, none⟩ y1).setCell ⟨b, 2, none⟩ y2).setCell ⟨b, 3, none⟩ y3) b t #[y0, y1, y2, y3] := by
  simpa using (((h.set_ 0 y0).set_ 1 y1).set_ 2 y2).set_ 3 y3
/-- The four cells of a block. -/
theorem blk4 {w : World} {b : Nat} {t : TypeId} {x0 x1 x2 x3 : Value} (h : Blk w b t #[x0, x1, x2, x3]) : w.cell? ⟨b, 0, none⟩ = some x0 ∧ w.cell? ⟨b, 1, none⟩ = some x1 ∧ w.cell? ⟨b, 2, none⟩ = some x2 ∧ w.cell? ⟨b, 3, none⟩ = some x3 := ⟨h.cell 0, h.cell 1, h.cell 2, h.cell 3⟩
theorem blk2 {w : World} {b : Nat} {t : TypeId} {x0 x1 : Value} (h : Blk w b t #[x0, x1]) : w.cell? ⟨b, 0, none⟩ = some x0 ∧ w.cell? ⟨b, 1, none⟩ = some x1 := ⟨h.cell 0, h.cell 1⟩
/-- Behind a rule. -/
def OneDEnd (w : World) (r : PR) (l rest : List Tk) (at_ : Nat) (e : Ending) (w' : World) : Prop :=
  ∃ (k : Nat) (q : GRu), (at_ < k ∧ q.ss.length ≤ 100000 ∧ ∀ u ∈ q.ss, u.s.l.length ≤ 100000) ∧ q.r = r ∧ e = .returned (.tuple #[.agg #[.int .i64 q.left.k, .string (str q.left.s), .int .i64 q.left.p, q.v], .int .i64 k, .agg #[.int .i64 0, .int .i64 0]]) ∧ k ≤ l.length ∧ l.drop k = rest ∧ GoodD w' w.heap.size q ∧ Below w.heap.size w w'
set_option maxRecDepth 100000 in
set_option maxHeartbeats 3200000 in
theorem one_any {w : World} {tv : Value} {l rest : List Tk} {r : PR} {at_ : Nat} (htk : Toks w tv l) (hl : oneR (l.drop at_) = .ok (r, rest)) : Calls Tryd.prog 41 #[tv, .int .i64 at_] w (OneDEnd w r l rest at_) := by
  obtain ⟨t, cl, ht, hcl, h1, h3, hleft, hpos⟩ := one_split hl
  obtain ⟨⟨A, c, rfl, hc⟩, hlen⟩ := htk
  obtain ⟨b, off, rfl, hlt, -⟩ := hc at_ t ht
  have HC := Lib.hid (fun (y : World) (hy : Below w.heap.size w y) (k : Nat) (t : Tk) (ht : l[k]? = some t) => (by
    obtain ⟨b', off', e, hlt', k1, k2, k3⟩ := hc k t ht
    cases e
    have hb := Chg.of_below (X := fun _ => False) hy
    exact ⟨(hb.cell hlt id).trans k1, (hb.cell hlt id).trans k2, (hb.cell hlt id).trans k3⟩ : y.cell? ⟨b, off + k * 3, none⟩ = some (.int .i64 t.k) ∧ y.cell? ⟨b, off + k * 3 + 1, none⟩ = some (.string (str t.s)) ∧ y.cell? ⟨b, off + k * 3 + 2, none⟩ = some (.int .i64 t.p)))
  have hlt1 : b < w.heap.size + 1 := by omega
  have hlt2 : b < w.heap.size + 1 + 1 := by omega
  have hk1 := (List.getElem?_eq_some_iff.1 ht).1
  have hk2 := (List.getElem?_eq_some_iff.1 hcl).1
  obtain ⟨c0, c1, c2⟩ := HC.out w (Below.refl _ _) at_ t ht
  obtain ⟨d0, -, -⟩ := HC.out w (Below.refl _ _) (at_ + 1) cl hcl
  have q1 : (at_ : Int) < (l.length : Int) := by omega
  have q2 : (at_ : Int) + 1 < (l.length : Int) := by omega
  have q2' : 0 ≤ (at_ : Int) + 1 := by omega
  have q3 : ((t.k : Int) != 1) = false := by rw [h1]; rfl
  have q4 : ((cl.k : Int) != 3) = false := by rw [h3]; rfl
  have HPOS := Lib.hid hpos
  have HLEFT := Lib.hid hleft
  have HS := Lib.hid (fun (t : Tk) (y : World) => symb_any t y)
  clear hl ht hcl h1 h3 hc hpos hleft
  go_enter Tryd.func41, Tryd.ntmps41
  go_wp2
  have HSZ : Hid ((((w.alloc (.cells #[.int .i64 0, .string ⟨#[]⟩, .int .i64 0, .slice none 0 0] 63)).alloc (.cells #[.int .i64 0, .int .i64 0] 34)).alloc (.cells #[.int .i64 t.k, .string (str t.s), .int .i64 t.p, .slice none 0 0] 63)).heap.size = w.heap.size + 3) := Lib.hid (by simp)
  have HBW : Hid (Below w.heap.size w (((w.alloc (.cells #[.int .i64 0, .string ⟨#[]⟩, .int .i64 0, .slice none 0 0] 63)).alloc (.cells #[.int .i64 0, .int .i64 0] 34)).alloc (.cells #[.int .i64 t.k, .string (str t.s), .int .i64 t.p, .slice none 0 0] 63))) := Lib.hid (((below_alloc w _).alloc (by simp) _).alloc (by simp; omega) _)
  have HKR : Hid (Blk (((w.alloc (.cells #[.int .i64 0, .string ⟨#[]⟩, .int .i64 0, .slice none 0 0] 63)).alloc (.cells #[.int .i64 0, .int .i64 0] 34)).alloc (.cells #[.int .i64 t.k, .string (str t.s), .int .i64 t.p, .slice none 0 0] 63)) w.heap.size 63 #[.int .i64 0, .string ⟨#[]⟩, .int .i64 0, .slice none 0 0]) := Lib.hid (((Blk.new w 63 _).alloc _).alloc _)
  have HKF : Hid (Blk (((w.alloc (.cells #[.int .i64 0, .string ⟨#[]⟩, .int .i64 0, .slice none 0 0] 63)).alloc (.cells #[.int .i64 0, .int .i64 0] 34)).alloc (.cells #[.int .i64 t.k, .string (str t.s), .int .i64 t.p, .slice none 0 0] 63)) (w.heap.size + 1) 34 #[.int .i64 0, .int .i64 0]) := Lib.hid (by
    have h1 := (Blk.new (w.alloc (.cells #[.int .i64 0, .string ⟨#[]⟩, .int .i64 0, .slice none 0 0] 63)) 34 #[.int .i64 0, .int .i64 0]).alloc (.cells #[.int .i64 t.k, .string (str t.s), .int .i64 t.p, .slice none 0 0] 63)
    rwa [World.size_alloc] at h1)
  have HRU0 : Hid (RuAt (((w.alloc (.cells #[.int .i64 0, .string ⟨#[]⟩, .int .i64 0, .slice none 0 0] 63)).alloc (.cells #[.int .i64 0, .int .i64 0] 34)).alloc (.cells #[.int .i64 t.k, .string (str t.s), .int .i64 t.p, .slice none 0 0] 63)) (w.heap.size + 3) (w.heap.size + 1 + 1) t (.slice none 0 0) []) := Lib.hid (by
    have h1 := Blk.new ((w.alloc (.cells #[.int .i64 0, .string ⟨#[]⟩, .int .i64 0, .slice none 0 0] 63)).alloc (.cells #[.int .i64 0, .int .i64 0] 34)) 63 #[.int .i64 t.k, .string (str t.s), .int .i64 t.p, .slice none 0 0]
    rw [World.size_alloc, World.size_alloc] at h1
    exact ⟨h1, World.ownsRow_nil _ _ _ _, by simp, by omega⟩)
  generalize ((w.alloc (.cells #[.int .i64 0, .string ⟨#[]⟩, .int .i64 0, .slice none 0 0] 63)).alloc (.cells #[.int .i64 0, .int .i64 0] 34)).alloc (.cells #[.int .i64 t.k, .string (str t.s), .int .i64 t.p, .slice none 0 0] 63) = W at *
  have HBL : Hid (∀ y, Chg (· = w.heap.size + 1 + 1) W y → Below w.heap.size w y) := Lib.hid (fun y hy => HBW.out.trans (hy.below HBW.out.size (fun i hi e => by omega)))
  clear c0 c1 c2 d0 q1 q2 q2' q3 q4
  go_loopw [8] (fun i wr => ∃ (k : Nat) (sv : Value) (gs : List GS), i = .int .i64 k ∧ k < l.length ∧ Hid (gs.length ≤ k ∧ at_ < k ∧ ∀ u ∈ gs, u.s.l.length ≤ 100000) ∧ Hid (SPos l k (gs.map GS.s) r.sides rest) ∧ Hid (RuAt wr (w.heap.size + 3) (w.heap.size + 1 + 1) t sv gs) ∧ Hid (Chg (· = w.heap.size + 1 + 1) W wr)) (fun i _ => l.length - (intOf i).toNat)
  case atStart => exact ⟨at_ + 1, _, [], by go_num, hk2, Lib.hid ⟨Nat.zero_le _, Nat.lt_succ_self _, by simp⟩, HPOS, HRU0, Lib.hid (Chg.refl _ _)⟩
  case round =>
    rename World => w9
    obtain ⟨k, sv, gs, rfl, hk, HGL, HP, HRU, HCH⟩ := hrel
    have hbl : b < w9.heap.size := by have := HCH.out.size; rw [HSZ.out] at this; omega
    have hwl : w.heap.size + 3 ≤ w9.heap.size := by have := HCH.out.size; rw [HSZ.out] at this; omega
    rcases HP.out with ⟨e, e1, e2, e3⟩ | ⟨u, f, e, e1, e2, e3, e4⟩
    · obtain ⟨g1, g2, g3⟩ := drop_get e1
      obtain ⟨c0, -, -⟩ := HC.out w9 (HBL.out _ HCH.out) k e g1
      have q1 : (k : Int) < (l.length : Int) := by omega
      have q2 : ((e.k : Int) != 5) = false := by rw [e2]; rfl
      have HE3 := Lib.hid e3
      have HG2 := Lib.hid g2
      have hr := HCH.out.blk HKR.out (by omega)
      have hf := HCH.out.blk HKF.out (by omega)
      obtain ⟨A', c', hsv⟩ := own_shape HRU.out.own
      subst hsv
      have z0 := hr.cell 0
      have z1 := hr.cell 1
      have z2 := hr.cell 2
      have z3 := hr.cell 3
      have y0 := hr.frozen 0
      have y1 := hr.frozen 1
      have y2 := hr.frozen 2
      have y3 := hr.frozen 3
      have x0 := hf.cell 0
      have x1 := hf.cell 1
      have v0 := hf.frozen 0
      have v1 := hf.frozen 1
      have r0 := HRU.out.blk.cell 0
      have r1 := HRU.out.blk.cell 1
      have r2 := HRU.out.blk.cell 2
      have r3 := HRU.out.blk.cell 3
      simp at z0 z1 z2 z3 x0 x1 r0 r1 r2 r3
      have HRB := Lib.hid hr
      have HFB := Lib.hid hf
      clear e1 e2 e3 g1 g2 hr hf
      go_wp2
      have hR4 : Blk ((((((w9.setCell ⟨w.heap.size, 0, none⟩ (.int .i64 t.k)).setCell ⟨w.heap.size, 1, none⟩ (.string (str t.s))).setCell ⟨w.heap.size, 2, none⟩ (.int .i64 t.p)).setCell ⟨w.heap.size, 3, none⟩ (.slice A' gs.length c')).setCell ⟨w.heap.size + 1, 0, none⟩ (.int .i64 0)).setCell ⟨w.heap.size + 1, 1, none⟩ (.int .i64 0)) w.heap.size 63 #[.int .i64 t.k, .string (str t.s), .int .i64 t.p, .slice A' gs.length c'] :=
        ((set4_blk' HRB.out).far (p := ⟨w.heap.size + 1, 0, none⟩) (by simp) _).far (p := ⟨w.heap.size + 1, 1, none⟩) (by simp) _
      have hF2 : Blk ((((((w9.setCell ⟨w.heap.size, 0, none⟩ (.int .i64 t.k)).setCell ⟨w.heap.size, 1, none⟩ (.string (str t.s))).setCell ⟨w.heap.size, 2, none⟩ (.int .i64 t.p)).setCell ⟨w.heap.size, 3, none⟩ (.slice A' gs.length c')).setCell ⟨w.heap.size + 1, 0, none⟩ (.int .i64 0)).setCell ⟨w.heap.size + 1, 1, none⟩ (.int .i64 0)) (w.heap.size + 1) 34 #[.int .i64 0, .int .i64 0] :=
        set2_blk ((((HFB.out.far (p := ⟨w.heap.size, 0, none⟩) (by simp) _).far (p := ⟨w.heap.size, 1, none⟩) (by simp) _).far (p := ⟨w.heap.size, 2, none⟩) (by simp) _).far (p := ⟨w.heap.size, 3, none⟩) (by simp) _)
      have hX : Chg (fun k => k = w.heap.size ∨ k = w.heap.size + 1) w9 ((((((w9.setCell ⟨w.heap.size, 0, none⟩ (.int .i64 t.k)).setCell ⟨w.heap.size, 1, none⟩ (.string (str t.s))).setCell ⟨w.heap.size, 2, none⟩ (.int .i64 t.p)).setCell ⟨w.heap.size, 3, none⟩ (.slice A' gs.length c')).setCell ⟨w.heap.size + 1, 0, none⟩ (.int .i64 0)).setCell ⟨w.heap.size + 1, 1, none⟩ (.int .i64 0)) :=
        ((((((Chg.refl (fun k => k = w.heap.size ∨ k = w.heap.size + 1) w9).set (p := ⟨w.heap.size, 0, none⟩) (.inr (.inl rfl)) _).set (p := ⟨w.heap.size, 1, none⟩) (.inr (.inl rfl)) _).set (p := ⟨w.heap.size, 2, none⟩) (.inr (.inl rfl)) _).set (p := ⟨w.heap.size, 3, none⟩) (.inr (.inl rfl)) _).set (p := ⟨w.heap.size + 1, 0, none⟩) (.inr (.inr rfl)) _).set (p := ⟨w.heap.size + 1, 1, none⟩) (.inr (.inr rfl)) _
      obtain ⟨p0, p1, p2, p3⟩ := blk4 hR4
      obtain ⟨o0, o1⟩ := blk2 hF2
      refine bodyPost_ret (v := .tuple #[.agg #[.int .i64 t.k, .string (str t.s), .int .i64 t.p, .slice A' gs.length c'], .int .i64 ((k : Int) + 1), .agg #[.int .i64 0, .int .i64 0]]) (by simp [results, Tryd.results41, go_sem, p0, p1, p2, p3, o0, o1]) rfl ?_
      have hgd : GoodD w9 (w.heap.size + 3) ⟨t, .slice A' gs.length c', gs⟩ := ⟨HRU.out.own, HRU.out.good⟩
      refine ⟨k + 1, ⟨t, .slice A' gs.length c', gs⟩, ⟨by have := HGL.out.2.1; omega, by have := HGL.out.1; show gs.length ≤ _; omega, HGL.out.2.2⟩, ?_, rfl, by omega, HG2.out, (hgd.chg hX (fun g h1 _ e => by omega)).mono (by omega), (HBL.out _ HCH.out).trans (hX.below (by omega) (fun i hi e => by omega))⟩
      unfold GRu.r
      rw [HE3.out, ← HLEFT.out]
    · obtain ⟨u1, hu1⟩ := (Span.start l (k + 1)).get (sides_ne e3 e4)
      have hk1' := (List.getElem?_eq_some_iff.1 hu1).1
      obtain ⟨c0, -, -⟩ := HC.out w9 (HBL.out _ HCH.out) k u e1
      obtain ⟨-, -, d2⟩ := HC.out w9 (HBL.out _ HCH.out) (k + 1) u1 hu1
      have q1 : (k : Int) < (l.length : Int) := by omega
      have q1' : (k : Int) + 1 < (l.length : Int) := by omega
      have q1'' : 0 ≤ (k : Int) + 1 := by omega
      have q2 : ((u.k : Int) != 5) = true := by rw [bne_iff_ne]; omega
      have HPL : Hid (placeT (l.drop (k + 1)) = u1.p) := Lib.hid (by rw [drop_cons hu1]; rfl)
      have HE3 := Lib.hid e3
      have HNE := Lib.hid (sides_ne e3 e4)
      have HE4 := Lib.hid e4
      clear e1 e2 e3 e4 hu1
      go_wp2
      have HRU9 := Lib.hid (HRU.out.chg (X := fun _ => False) ((Chg.refl _ w9).alloc (.cells #[.slice none 0 0, .int .i64 u1.p] 125)) id (fun _ _ _ => id))
      have HCH9 := Lib.hid (HCH.out.alloc (.cells #[.slice none 0 0, .int .i64 u1.p] 125))
      have HSB := Lib.hid (Blk.new w9 125 #[.slice none 0 0, .int .i64 u1.p])
      have HVV := Lib.hid ((Chg.refl (fun _ => False) w9).alloc (.cells #[.slice none 0 0, .int .i64 u1.p] 125))
      have HSZ9 : Hid ((w9.alloc (.cells #[.slice none 0 0, .int .i64 u1.p] 125)).heap.size = w9.heap.size + 1) := Lib.hid (by simp)
      generalize w9.alloc (.cells #[.slice none 0 0, .int .i64 u1.p] 125) = V at *
      have HV9 : Hid (Chg (fun _ => False) w9 V) := Lib.hid (HVV.out)
      generalize hsb : w9.heap.size = sb at *
      have HS9 := Lib.hid hsb
      clear hsb
      clear c0 d2 q1 q1' q1'' q2
      go_loopw [8] (fun kk wr => ∃ (j : Nat) (a : List Tk) (sv2 : Value), kk = .int .i64 j ∧ Hid (Span l (k + 1) j a) ∧ Hid (Blk wr sb 125 #[sv2, .int .i64 u1.p]) ∧ Hid (wr.ownsRow (sb + 1) 60 3 sv2 a.length (a.flatMap Tk.cells)) ∧ Hid (Chg (· = sb) V wr)) (fun kk _ => l.length - (intOf kk).toNat)
      case atStart => exact ⟨k + 1, [], _, by go_num, Lib.hid (Span.start _ _), HSB, Lib.hid (World.ownsRow_nil _ _ _ _), Lib.hid (Chg.refl _ _)⟩
      case round =>
        obtain ⟨j, a, sv2, rfl, HSP, HSD, HOW, HC2⟩ := hrel
        obtain ⟨t3, ht3⟩ := HSP.out.get HNE.out
        have HW9 : Hid (Chg (fun _ => False) w9 wr) := Lib.hid (HV9.out.trans HC2.out (fun i hi e => by have := HS9.out; omega))
        have HCHr : Hid (Chg (· = w.heap.size + 1 + 1) W wr) := Lib.hid (HCH.out.trans HW9.out (fun _ _ h => h.elim))
        obtain ⟨c0, c1, c2⟩ := HC.out wr (HBL.out _ HCHr.out) j t3 ht3
        have hjl := (List.getElem?_eq_some_iff.1 ht3).1
        have q4 : (j : Int) < (l.length : Int) := by omega
        have hbl2 : b < wr.heap.size := by have := HW9.out.size; rw [HS9.out] at this; omega
        have hrl2 : w.heap.size + 1 + 1 < wr.heap.size := by have := HW9.out.size; rw [HS9.out] at this; omega
        have hsl2 : sb < wr.heap.size := HSD.out.lt
        have HY3 := Lib.hid (HS.out t3 wr)
        have HLE := Lib.hid HSP.out.le
        have hle1 : k + 1 ≤ j := by have := HLE.out; omega
        have hal : a.length ≤ 100000 := by have := HLE.out; omega
        obtain ⟨A3, c3, hsv2⟩ := own_shape HOW.out
        subst hsv2
        obtain ⟨s0, s1⟩ := blk2 HSD.out
        have z0 := HSD.out.frozen 0
        cases h3 : symT t3 with
        | false =>
          rw [h3] at HY3
          obtain ⟨p1, p2⟩ := HSP.out.done ht3 h3
          obtain ⟨u2, hu2, hk45, hsp⟩ := SPos.next HE3.out HE4.out p2
          rw [ht3] at hu2
          cases hu2
          have hside : sideL (l.drop (k + 1)) = ⟨a, u1.p⟩ := by
            have h1 := sideL_l (l.drop (k + 1))
            unfold sideL
            rw [p1, HPL.out]
          rw [hside] at hsp
          have HSN := Lib.hid hsp
          have HRR := Lib.hid ((HRU.out.chg HW9.out id (fun _ _ _ => id)).chg (X := fun _ => False) ((Chg.refl _ wr).alloc t3.obj) id (fun _ _ _ => id))
          have HGS : Hid (GoodS (wr.alloc t3.obj) (w.heap.size + 3) ⟨⟨a, u1.p⟩, .slice A3 a.length c3⟩) := Lib.hid (((Chg.refl (fun _ => False) wr).alloc t3.obj).own (own_mono HOW.out (by omega)) (fun _ _ => id))
          obtain ⟨A', c', hsv⟩ := own_shape HRU.out.own
          subst hsv
          obtain ⟨-, -, -, r3⟩ := blk4 (HRU.out.chg HW9.out id (fun _ _ _ => id)).blk
          have y3 := (HRU.out.chg HW9.out id (fun _ _ _ => id)).blk.frozen 3
          have hgl : gs.length ≤ 100000 := by have := HGL.out.1; omega
          clear h3 p1 p2 hsp hside ht3
          rcases hk45 with hk4 | hk5
          · have q5 : ((t3.k : Int) != 4) = false := by rw [hk4]; rfl
            clear hk4
            go_wp2_with (first
              | (go_at_call 64; refine HY3.out.mono ?_; rintro e w' ⟨rfl, rfl⟩)
              | (at_builtin
                 refine wpList_app ElSideD (.tmp 94) (.tmp 96) rfl rfl (base := w.heap.size + 3) (n := gs.length) (m := 1) (N := gs.length + 1) (xs := gs.flatMap GS.cells) (news := [.slice A3 a.length c3, .int .i64 u1.p]) rfl rfl (HRR.out.own.alloc _) (by have := src_sideD (wr.alloc t3.obj) A3 a.length c3 u1.p; rwa [World.size_alloc] at this) rfl (by unfold maxLen; omega) (by omega) (by simp [Tk.obj]; omega) ?_
                 intro A4 c4 w4 r1 r2 r3
                 have r3' : Grew (wr.alloc t3.obj) (.cells #[.slice A3 a.length c3, .int .i64 u1.p] 125) w4 (.slice A' gs.length c') (.slice A4 (gs.length + 1) c4) := r3
                 have hF := RuAt.grow HRR.out HGS.out r1 r3'
                 have HF := Lib.hid hF.1
                 have HFC := Lib.hid hF.2
                 have hbk4 := r3'.chg.blk HRR.out.blk (own_blk (t := 60) (cs := #[]) HRR.out.own HRR.out.rbB)
                 obtain ⟨-, -, -, cA⟩ := blk4 hbk4
                 have vA := hbk4.frozen 3
                 clear r1 r2 r3 r3' hF hbk4))
            go_roundw
            case rel =>
              refine ⟨j, _, gs ++ [⟨⟨a, u1.p⟩, .slice A3 a.length c3⟩], rfl, hjl, Lib.hid ⟨by have := HGL.out.1; simp; omega, by have := HGL.out.2.1; omega, fun u hu => by (rcases List.mem_append.1 hu with hu | hu; exact HGL.out.2.2 u hu; rw [List.mem_singleton] at hu; subst hu; exact hal)⟩, Lib.hid (by rw [List.map_append]; exact HSN.out), HF, Lib.hid ?_⟩
              exact ((HCHr.out.alloc t3.obj).trans HFC.out (fun i hi hx => by rcases hx with hx | hx; exact hx; have := HSZ.out; omega))
            case measure => simp [intOf]; omega
          · have q5 : ((t3.k : Int) != 4) = true := by rw [hk5]; rfl
            have q6 : ((t3.k : Int) != 5) = false := by rw [hk5]; rfl
            clear hk5
            go_wp2_with (first
              | (go_at_call 64; refine HY3.out.mono ?_; rintro e w' ⟨rfl, rfl⟩)
              | (at_builtin
                 refine wpList_app ElSideD (.tmp 94) (.tmp 96) rfl rfl (base := w.heap.size + 3) (n := gs.length) (m := 1) (N := gs.length + 1) (xs := gs.flatMap GS.cells) (news := [.slice A3 a.length c3, .int .i64 u1.p]) rfl rfl (HRR.out.own.alloc _) (by have := src_sideD (wr.alloc t3.obj) A3 a.length c3 u1.p; rwa [World.size_alloc] at this) rfl (by unfold maxLen; omega) (by omega) (by simp [Tk.obj]; omega) ?_
                 intro A4 c4 w4 r1 r2 r3
                 have r3' : Grew (wr.alloc t3.obj) (.cells #[.slice A3 a.length c3, .int .i64 u1.p] 125) w4 (.slice A' gs.length c') (.slice A4 (gs.length + 1) c4) := r3
                 have hF := RuAt.grow HRR.out HGS.out r1 r3'
                 have HF := Lib.hid hF.1
                 have HFC := Lib.hid hF.2
                 have hbk4 := r3'.chg.blk HRR.out.blk (own_blk (t := 60) (cs := #[]) HRR.out.own HRR.out.rbB)
                 obtain ⟨-, -, -, cA⟩ := blk4 hbk4
                 have vA := hbk4.frozen 3
                 clear r1 r2 r3 r3' hF hbk4))
            go_roundw
            case rel =>
              refine ⟨j, _, gs ++ [⟨⟨a, u1.p⟩, .slice A3 a.length c3⟩], rfl, hjl, Lib.hid ⟨by have := HGL.out.1; simp; omega, by have := HGL.out.2.1; omega, fun u hu => by (rcases List.mem_append.1 hu with hu | hu; exact HGL.out.2.2 u hu; rw [List.mem_singleton] at hu; subst hu; exact hal)⟩, Lib.hid (by rw [List.map_append]; exact HSN.out), HF, Lib.hid ?_⟩
              exact ((HCHr.out.alloc t3.obj).trans HFC.out (fun i hi hx => by rcases hx with hx | hx; exact hx; have := HSZ.out; omega))
            case measure => simp [intOf]; omega
        | true =>
          rw [h3] at HY3
          have HS3 := Lib.hid (HSP.out.step ht3 h3)
          have HT3 := Lib.hid ht3
          clear h3 ht3 s0 s1 z0
          have HSZA : Hid ((wr.alloc t3.obj).heap.size = wr.heap.size + 1) := Lib.hid (by unfold Tk.obj; simp)
          have HSDA := Lib.hid (HSD.out.alloc t3.obj)
          have HOWA := Lib.hid (((Chg.refl (fun _ => False) wr).alloc t3.obj).own HOW.out (fun _ _ => id))
          have HCA := Lib.hid (HC2.out.alloc t3.obj)
          have HCW3 := Lib.hid (HC.out (wr.alloc t3.obj) (HBL.out _ (HCHr.out.alloc _)) j t3 HT3.out)
          go_wp2_with (go_at_call 64; refine HY3.out.mono ?_; rintro e w' ⟨rfl, rfl⟩)
          generalize wr.alloc t3.obj = WA at *
          have hbl3 : b < WA.heap.size := by have := HSZA.out; omega
          have hsl3 : sb < WA.heap.size := by have := HSZA.out; omega
          clear c0 c1 c2
          obtain ⟨c0, c1, c2⟩ := HCW3.out
          have HSDD : Hid (Blk WA.drew sb 125 #[.slice A3 a.length c3, .int .i64 u1.p]) := Lib.hid HSDA.out.drew
          have HOWD : Hid (WA.drew.ownsRow (sb + 1) 60 3 (.slice A3 a.length c3) a.length (a.flatMap Tk.cells)) := Lib.hid (((Chg.refl (fun _ => False) WA).drew).own HOWA.out (fun _ _ => id))
          obtain ⟨s0, s1⟩ := blk2 HSDA.out
          have z0 := HSDA.out.frozen 0
          go_region_law (first
            | (refine step_app ElTok (.tmp 63) (.tmp 68) ?_ ?_ (base := sb + 1) (n := a.length) (m := 1) (N := a.length + 1) (v := .slice A3 a.length c3) (src := .slice (some ⟨WA.heap.size, 0, none⟩) 1 1) (xs := a.flatMap Tk.cells) (news := [.int .i64 t3.k, .string (str t3.s), .int .i64 t3.p]) ?_ ?_ ?_ ?_ ?_ ?_ ?_ ?_ ?_
               · rfl
               · rfl
               · rfl
               · rfl
               · exact HOWD.out.alloc _
               · exact src_tok WA.drew _ _ _
               · rfl
               · unfold maxLen; omega
               · omega
               · simp; omega
               intro A4 c4 w4 r1 r2 r3
               have r3' : Grew WA.drew (.cells #[.int .i64 t3.k, .string (str t3.s), .int .i64 t3.p] 60) w4 (.slice A3 a.length c3) (.slice A4 (a.length + 1) c4) := r3
               have hF := sd_grow HSDD.out HOWD.out (Nat.lt_succ_self sb) r1 r3'
               have HF1 := Lib.hid hF.1
               have HF2 := Lib.hid hF.2.1
               have HF3 := Lib.hid hF.2.2.1
               obtain ⟨cA, -⟩ := blk2 hF.2.2.2
               have vA := hF.2.2.2.frozen 0
               clear r1 r2 r3 r3' hF))
          all_goals go_wp2
          all_goals go_roundw
          all_goals first
            | (case measure => simp [intOf]; omega)
            | (case rel =>
                refine ⟨j + 1, a ++ [t3], .slice A4 (a.length + 1) c4, by go_num, HS3, HF1, Lib.hid ?_, Lib.hid ?_⟩
                · have e2 : (a ++ [t3]).length = a.length + 1 := by simp
                  rw [e2, List.flatMap_append]
                  exact HF2.out
                · exact HCA.out.drew.trans HF3.out (fun i hi hx => by rcases hx with hx | hx; exact hx; have := HSZ9.out; omega))
            | skip
end Go.Proofs.YtnpjhndgdlihjaaDoor

namespace Go.Proofs.YtnpjhndgdlihjaaDoor
open Go.RowKit
set_option linter.unusedVariables false
theorem own_cells {w : World} {B : Nat} {e : TypeId} {m : Nat} {v : Value} {α : Type} {f : α → List Value} {l : List α} (hf : ∀ a, (f a).length = m) (h : w.ownsRow B e m v l.length (l.flatMap f)) :
    ∃ A c, v = .slice A l.length c ∧ ∀ k x, l[k]? = some x → ∃ b, A = some ⟨b, 0, none⟩ ∧ b < w.heap.size ∧ ∀ j, j < m → w.cell? ⟨b, k * m + j, none⟩ = (f x)[j]? := by
  rcases own_form h with ⟨rfl, h0⟩ | ⟨b, c, rfl, h1, h2, h3, h4, _⟩
  · exact ⟨none, 0, by rw [h0], fun k x hx => by have := (List.getElem?_eq_some_iff.1 hx).1; omega⟩
  · refine ⟨_, c, rfl, fun k x hx => ⟨b, rfl, h2, fun j hj => ?_⟩⟩
    obtain ⟨hk, hxe⟩ := List.getElem?_eq_some_iff.1 hx
    have hlt : k * m + j < l.length * m := by
      have : (k + 1) * m ≤ l.length * m := Nat.mul_le_mul_right _ hk
      rw [Nat.add_mul] at this
      omega
    rw [own_cell h (k * m + j) hlt, fm_get f m hf l k j hk hj, hxe]
/-- Right sides in a row, as they lie. -/
structure Sds (w : World) (v : Value) (l : List PS) : Prop where
  lies : ∃ A c, v = .slice A l.length c ∧ ∀ k s, l[k]? = some s → ∃ b off tv, A = some ⟨b, off, none⟩ ∧ b < w.heap.size ∧ w.cell? ⟨b, off + k * 2, none⟩ = some tv ∧ w.cell? ⟨b, off + k * 2 + 1, none⟩ = some (.int .i64 s.p) ∧ Toks w tv s.l
  short : l.length ≤ 100000
theorem Sds.later {w w' : World} {v : Value} {l : List PS} (h : Sds w v l) (hb : Below w.heap.size w w') : Sds w' v l := by
  obtain ⟨⟨A, c, hv, hc⟩, hs⟩ := h
  refine ⟨⟨A, c, hv, fun k r hr => ?_⟩, hs⟩
  obtain ⟨b, off, tv, hA, hlt, h1, h2, h3⟩ := hc k r hr
  exact ⟨b, off, tv, hA, Nat.lt_of_lt_of_le hlt hb.size, (hb.cell (p := ⟨b, off + k * 2, none⟩) hlt).trans h1, (hb.cell (p := ⟨b, off + k * 2 + 1, none⟩) hlt).trans h2, h3.later hb⟩
/-- Rules in a row, as they lie. -/
structure Rls (w : World) (v : Value) (l : List PR) : Prop where
  lies : ∃ A c, v = .slice A l.length c ∧ ∀ k r, l[k]? = some r → ∃ b off sv, A = some ⟨b, off, none⟩ ∧ b < w.heap.size ∧ w.cell? ⟨b, off + k * 4, none⟩ = some (.int .i64 r.left.k) ∧ w.cell? ⟨b, off + k * 4 + 1, none⟩ = some (.string (str r.left.s)) ∧ w.cell? ⟨b, off + k * 4 + 2, none⟩ = some (.int .i64 r.left.p) ∧ w.cell? ⟨b, off + k * 4 + 3, none⟩ = some sv ∧ Sds w sv r.sides
  short : l.length ≤ 100000
theorem Rls.later {w w' : World} {v : Value} {l : List PR} (h : Rls w v l) (hb : Below w.heap.size w w') : Rls w' v l := by
  obtain ⟨⟨A, c, hv, hc⟩, hs⟩ := h
  refine ⟨⟨A, c, hv, fun k r hr => ?_⟩, hs⟩
  obtain ⟨b, off, sv, hA, hlt, h1, h2, h3, h4, h5⟩ := hc k r hr
  exact ⟨b, off, sv, hA, Nat.lt_of_lt_of_le hlt hb.size, (hb.cell (p := ⟨b, off + k * 4, none⟩) hlt).trans h1, (hb.cell (p := ⟨b, off + k * 4 + 1, none⟩) hlt).trans h2, (hb.cell (p := ⟨b, off + k * 4 + 2, none⟩) hlt).trans h3, (hb.cell (p := ⟨b, off + k * 4 + 3, none⟩) hlt).trans h4, h5.later hb⟩
theorem sds_own {w : World} {B : Nat} {v : Value} {l : List GS} (h : w.ownsRow B 125 2 v l.length (l.flatMap GS.cells)) (hg : ∀ q ∈ l, GoodS w B q) (hl : l.length ≤ 100000) (hs : ∀ u ∈ l, u.s.l.length ≤ 100000) : Sds w v (l.map GS.s) := by
  obtain ⟨A, c, hv, hc⟩ := own_cells (f := GS.cells) (fun a => rfl) h
  refine ⟨⟨A, c, by rw [List.length_map]; exact hv, fun k s hk => ?_⟩, by rw [List.length_map]; exact hl⟩
  rw [List.getElem?_map] at hk
  obtain ⟨q, hq, rfl⟩ := Option.map_eq_some_iff.1 hk
  obtain ⟨b, hA, hlt, hcell⟩ := hc k q hq
  have hm := List.mem_of_getElem? hq
  refine ⟨b, 0, q.v, hA, hlt, ?_, ?_, toks_own (hg q hm) (hs q hm)⟩
  · rw [Nat.zero_add]; exact hcell 0 (by omega)
  · rw [Nat.zero_add]; exact hcell 1 (by omega)
theorem rls_own {w : World} {B : Nat} {v : Value} {l : List GRu} (h : w.ownsRow B 63 4 v l.length (l.flatMap GRu.cells)) (hg : ∀ q ∈ l, GoodD w B q) (hl : l.length ≤ 100000) (hs : ∀ q ∈ l, q.ss.length ≤ 100000 ∧ ∀ u ∈ q.ss, u.s.l.length ≤ 100000) : Rls w v (l.map GRu.r) := by
  obtain ⟨A, c, hv, hc⟩ := own_cells (f := GRu.cells) (fun a => rfl) h
  refine ⟨⟨A, c, by rw [List.length_map]; exact hv, fun k s hk => ?_⟩, by rw [List.length_map]; exact hl⟩
  rw [List.getElem?_map] at hk
  obtain ⟨q, hq, rfl⟩ := Option.map_eq_some_iff.1 hk
  obtain ⟨b, hA, hlt, hcell⟩ := hc k q hq
  have hm := List.mem_of_getElem? hq
  refine ⟨b, 0, q.v, hA, hlt, ?_, ?_, ?_, ?_, sds_own (hg q hm).1 (hg q hm).2 (hs q hm).1 (hs q hm).2⟩
  · rw [Nat.zero_add]; exact hcell 0 (by omega)
  · rw [Nat.zero_add]; exact hcell 1 (by omega)
  · rw [Nat.zero_add]; exact hcell 2 (by omega)
  · rw [Nat.zero_add]; exact hcell 3 (by omega)
/-- What has been read, as it lies. -/
structure TxR (w : World) (dv kv sv rv : Value) (x : Txt) : Prop where
  decl : Toks w dv x.decl
  marks : ∃ ml : List Tk, ml.length = x.marks.length ∧ Toks w kv ml
  starts : Toks w sv x.starts
  rules : Rls w rv x.rules
theorem TxR.later {w w' : World} {dv kv sv rv : Value} {x : Txt} (h : TxR w dv kv sv rv x) (hb : Below w.heap.size w w') : TxR w' dv kv sv rv x := by
  obtain ⟨ml, m1, m2⟩ := h.marks
  exact ⟨h.decl.later hb, ⟨ml, m1, m2.later hb⟩, h.starts.later hb, h.rules.later hb⟩
/-- Where the rules stand, that are being read. -/
def RPos (l : List Tk) (k : Nat) (d rs : List PR) : Prop := (isK 0 (l.drop k) = true ∧ d ≠ [] ∧ d = rs) ∨ ∃ r l2 F, oneR (l.drop k) = .ok (r, l2) ∧ moreR F (d ++ [r]) l2 = .ok rs
theorem RPos.next {l : List Tk} {k F : Nat} {d rs : List PR} (hd : d ≠ []) (h : moreR F d (l.drop k) = .ok rs) : RPos l k d rs := by
  cases F with
  | zero => cases h
  | succ F =>
    unfold moreR at h
    by_cases h0 : isK 0 (l.drop k) = true
    · rw [if_pos h0] at h
      cases h
      exact .inl ⟨h0, hd, rfl⟩
    · rw [if_neg h0] at h
      cases ho : oneR (l.drop k) with
      | error e => rw [ho] at h; cases h
      | ok q =>
        obtain ⟨r, l2⟩ := q
        rw [ho] at h
        exact .inr ⟨r, l2, F, ho, h⟩
/-- A form that is right. -/
theorem form_split {l : List Tk} {X : Txt} (h : formL l = .ok X) : ∃ x l1, headsL (l.length + 1) ⟨[], [], [], []⟩ l = .ok (x, l1) ∧ X = { x with rules := X.rules } ∧ ∀ k, l.drop k = l1 → RPos l k [] X.rules := by
  unfold formL at h
  cases hh : headsL (l.length + 1) ⟨[], [], [], []⟩ l with
  | error e => rw [hh] at h; cases h
  | ok q =>
    obtain ⟨x, l1⟩ := q
    rw [hh] at h
    dsimp only at h
    cases ho : oneR l1 with
    | error e => rw [ho] at h; cases h
    | ok q =>
      obtain ⟨r, l2⟩ := q
      rw [ho] at h
      dsimp only at h
      cases hm : moreR (l.length + 1) [r] l2 with
      | error e => rw [hm] at h; cases h
      | ok rs =>
        rw [hm] at h
        cases h
        exact ⟨x, l1, rfl, rfl, fun k hk => .inr ⟨r, l2, l.length + 1, by rw [hk]; exact ho, hm⟩⟩
theorem DTx.mono {w : World} {B B' xb : Nat} {x : Txt} {dv kv sv rv : Value} (h : DTx w B xb x dv kv sv rv) (hx : xb < B') (hB : B' ≤ B) : DTx w B' xb x dv kv sv rv := by
  obtain ⟨ml, m1, m2⟩ := h.marks
  exact ⟨h.blk, own_mono h.decl hB, ⟨ml, m1, own_mono m2 hB⟩, own_mono h.starts hB, h.ap1, h.ap2, h.ap3, hx, Nat.le_trans hB h.bB⟩
/-- The rules' row grows. -/
theorem DTx.rules_grow {w w2 : World} {o : Obj} {B xb : Nat} {x : Txt} {dv kv sv rv v2 : Value} {gs : List GRu} {q : GRu} (h : DTx w B xb x dv kv sv rv) (hr : w.ownsRow B 63 4 rv gs.length (gs.flatMap GRu.cells)) (hgd : ∀ u ∈ gs, GoodD w B u) (hq : GoodD w B q)
    (ho : w2.ownsRow B 63 4 v2 (gs.length + 1) (gs.flatMap GRu.cells ++ q.cells)) (hg : Grew w o w2 rv v2) :
    DTx (w2.setCell ⟨xb, 3, none⟩ v2) B xb x dv kv sv v2 ∧ (w2.setCell ⟨xb, 3, none⟩ v2).ownsRow B 63 4 v2 (gs ++ [q]).length ((gs ++ [q]).flatMap GRu.cells) ∧ (∀ u ∈ gs ++ [q], GoodD (w2.setCell ⟨xb, 3, none⟩ v2) B u) ∧ Chg (fun k => k = xb ∨ B ≤ k) w (w2.setCell ⟨xb, 3, none⟩ v2) ∧ Blk w2 xb 52 #[dv, kv, sv, rv] := by
  have e1 : ¬ rv.ownBlock = some xb := own_blk (t := 60) (cs := #[]) hr h.xbB
  have hC : Chg (fun k => k = xb ∨ B ≤ k) w (w2.setCell ⟨xb, 3, none⟩ v2) := (hg.chg.mono (fun k hk => .inr (own_ge hr k hk).1)).set (p := ⟨xb, 3, none⟩) (.inr (.inl rfl)) _
  have ha : ∀ {e : TypeId} {s n : Nat} {u : Value} {ys : List Value}, w.ownsRow B e s u n ys → e ≠ 63 → (w2.setCell ⟨xb, 3, none⟩ v2).ownsRow B e s u n ys := fun hu he => own_far2 (hg.chg.own hu (fun g h1 h2 => own_apart hr hu (Ne.symm he) g h2 h1)) h.xbB
  have hgd' : ∀ u, GoodD w B u → GoodD (w2.setCell ⟨xb, 3, none⟩ v2) B u := fun u hu => ⟨ha hu.1 (by decide), fun s hs => ha (hu.2 s hs) (by decide)⟩
  obtain ⟨ml, m1, m2⟩ := h.marks
  refine ⟨⟨by simpa using (hg.chg.blk h.blk e1).set_ 3 v2, ha h.decl (by decide), ⟨ml, m1, ha m2 (by decide)⟩, ha h.starts (by decide), h.ap1, h.ap2, h.ap3, h.xbB, Nat.le_trans h.bB hC.size⟩, ?_, fun u hu => ?_, hC, hg.chg.blk h.blk e1⟩
  · have e2 : (gs ++ [q]).length = gs.length + 1 := by simp
    rw [e2, List.flatMap_append]
    exact own_far2 (by simpa [List.flatMap] using ho) h.xbB
  · rcases List.mem_append.1 hu with hu | hu
    · exact hgd' u (hgd u hu)
    · rw [List.mem_singleton] at hu
      subst hu
      exact hgd' _ hq
theorem src_ruleD (y : World) (a c : Int) (b : ByteArray) (A : Option Addr) (n m : Nat) : SrcOK (y.alloc (.cells #[.int .i64 a, .string b, .int .i64 c, .slice A n m] 63)) (.slice (some ⟨y.heap.size, 0, none⟩) 1 1) 1 4 [.int .i64 a, .string b, .int .i64 c, .slice A n m] :=
  SrcOK.blk (c := 1) (Blk.new y 63 #[.int .i64 a, .string b, .int .i64 c, .slice A n m]) rfl (by simp [Value.oneCell'])
/-- Behind the reading. -/
def ReadEnd (w : World) (X : Txt) (e : Ending) (w' : World) : Prop :=
  ∃ dv kv sv rv, e = .returned (.tuple #[.agg #[dv, kv, sv, rv], .agg #[.int .i64 0, .int .i64 0]]) ∧ TxR w' dv kv sv rv X ∧ Below w.heap.size w w'
set_option maxRecDepth 100000 in
set_option maxHeartbeats 3200000 in
theorem read_any {w : World} {tv : Value} {l : List Tk} {X : Txt} (htk : Toks w tv l) (hl : formL l = .ok X) : Calls Tryd.prog 24 #[tv] w (ReadEnd w X) := by
  obtain ⟨x, l1, hh, hX, hpos⟩ := form_split hl
  have hl0 : ∃ t, l[0]? = some t := by
    cases l with
    | nil => exact absurd ⟨_, hh⟩ (headsL_nil _ _)
    | cons t r => exact ⟨t, rfl⟩
  obtain ⟨t0, ht0⟩ := hl0
  have htk' := htk
  obtain ⟨⟨A, c, rfl, hc⟩, hlen⟩ := htk'
  obtain ⟨b, off, rfl, hlt, -⟩ := hc 0 t0 ht0
  have HTK := Lib.hid htk
  have HC := Lib.hid (fun (y : World) (hy : Below w.heap.size w y) (k : Nat) (t : Tk) (ht : l[k]? = some t) => (by
    obtain ⟨b', off', e, hlt', k1, k2, k3⟩ := hc k t ht
    cases e
    have hb := Chg.of_below (X := fun _ => False) hy
    exact (hb.cell hlt id).trans k1 : y.cell? ⟨b, off + k * 3, none⟩ = some (.int .i64 t.k)))
  have HW0 : Hid (Below w.heap.size w (((w.alloc (.cells #[.slice none 0 0, .slice none 0 0, .slice none 0 0, .slice none 0 0] 52)).alloc (.cells #[.int .i64 0, .int .i64 0] 34)).alloc (.cells #[.slice none 0 0, .slice none 0 0, .slice none 0 0, .slice none 0 0] 52))) := Lib.hid (((below_alloc w _).alloc (by simp) _).alloc (by simp; omega) _)
  have HK0 : Hid (Blk (((w.alloc (.cells #[.slice none 0 0, .slice none 0 0, .slice none 0 0, .slice none 0 0] 52)).alloc (.cells #[.int .i64 0, .int .i64 0] 34)).alloc (.cells #[.slice none 0 0, .slice none 0 0, .slice none 0 0, .slice none 0 0] 52)) w.heap.size 52 #[.slice none 0 0, .slice none 0 0, .slice none 0 0, .slice none 0 0]) := Lib.hid (((Blk.new w 52 _).alloc _).alloc _)
  have HK1 : Hid (Blk (((w.alloc (.cells #[.slice none 0 0, .slice none 0 0, .slice none 0 0, .slice none 0 0] 52)).alloc (.cells #[.int .i64 0, .int .i64 0] 34)).alloc (.cells #[.slice none 0 0, .slice none 0 0, .slice none 0 0, .slice none 0 0] 52)) (w.heap.size + 1) 34 #[.int .i64 0, .int .i64 0]) := Lib.hid (by
    have h1 := (Blk.new (w.alloc (.cells #[.slice none 0 0, .slice none 0 0, .slice none 0 0, .slice none 0 0] 52)) 34 #[.int .i64 0, .int .i64 0]).alloc (.cells #[.slice none 0 0, .slice none 0 0, .slice none 0 0, .slice none 0 0] 52)
    rwa [World.size_alloc] at h1)
  have HK2 : Hid (Blk (((w.alloc (.cells #[.slice none 0 0, .slice none 0 0, .slice none 0 0, .slice none 0 0] 52)).alloc (.cells #[.int .i64 0, .int .i64 0] 34)).alloc (.cells #[.slice none 0 0, .slice none 0 0, .slice none 0 0, .slice none 0 0] 52)) (w.heap.size + 1 + 1) 52 #[.slice none 0 0, .slice none 0 0, .slice none 0 0, .slice none 0 0]) := Lib.hid (by
    have h1 := Blk.new ((w.alloc (.cells #[.slice none 0 0, .slice none 0 0, .slice none 0 0, .slice none 0 0] 52)).alloc (.cells #[.int .i64 0, .int .i64 0] 34)) 52 #[.slice none 0 0, .slice none 0 0, .slice none 0 0, .slice none 0 0]
    rwa [World.size_alloc, World.size_alloc] at h1)
  have HSZ : Hid ((((w.alloc (.cells #[.slice none 0 0, .slice none 0 0, .slice none 0 0, .slice none 0 0] 52)).alloc (.cells #[.int .i64 0, .int .i64 0] 34)).alloc (.cells #[.slice none 0 0, .slice none 0 0, .slice none 0 0, .slice none 0 0] 52)).heap.size = w.heap.size + 3) := Lib.hid (by simp)
  have HHE := Lib.hid (heads_any (HTK.out.later HW0.out) HK2.out (fun g hg => by cases hg; show ¬ b = _; omega) hh)
  have HX := Lib.hid hX
  have HPOS := Lib.hid hpos
  clear hc hh hX hpos htk hl ht0
  go_enter Tryd.func24, Tryd.ntmps24
  go_wp2_with fail
  generalize ((w.alloc (.cells #[.slice none 0 0, .slice none 0 0, .slice none 0 0, .slice none 0 0] 52)).alloc (.cells #[.int .i64 0, .int .i64 0] 34)).alloc (.cells #[.slice none 0 0, .slice none 0 0, .slice none 0 0, .slice none 0 0] 52) = W at *
  refine HHE.out.mono ?_
  rintro e w1 ⟨k0, dv, kv, sv, rfl, hk0, hd0, hbd, hdtx, hch⟩
  have HBD := Lib.hid hbd
  clear hbd
  rw [HSZ.out] at hdtx
  have HDT : Hid (DTx (w1.alloc (.cells #[.int .i64 0, .int .i64 0] 34)) (w.heap.size + 3) (w.heap.size + 1 + 1) x dv kv sv (.slice none 0 0)) := Lib.hid ((hdtx.mono (by omega) (by omega)).alloc _)
  have HCW : Hid (Chg (· = w.heap.size + 1 + 1) W (w1.alloc (.cells #[.int .i64 0, .int .i64 0] 34))) := Lib.hid (hch.alloc _)
  have HP0 := Lib.hid (HPOS.out k0 hd0)
  have HFB := Lib.hid (Blk.new w1 34 #[.int .i64 0, .int .i64 0])
  have hw1 : w.heap.size + 3 ≤ w1.heap.size := by have := hch.size; rw [HSZ.out] at this; exact this
  clear hdtx hch hd0
  go_wp2
  have HBL : Hid (∀ y, Chg (· = w.heap.size + 1 + 1) W y → Below w.heap.size w y) := Lib.hid (fun y hy => HW0.out.trans (hy.below HW0.out.size (fun i hi e => by omega)))
  generalize w1.alloc (.cells #[.int .i64 0, .int .i64 0] 34) = W1 at *
  go_loopw [5] (fun i wr => ∃ (k : Nat) (rv : Value) (gs : List GRu), i = .int .i64 k ∧ k ≤ l.length ∧ Hid (gs.length ≤ k ∧ ∀ q ∈ gs, q.ss.length ≤ 100000 ∧ ∀ u ∈ q.ss, u.s.l.length ≤ 100000) ∧ Hid (RPos l k (gs.map GRu.r) X.rules) ∧ Hid (DTx wr (w.heap.size + 3) (w.heap.size + 1 + 1) x dv kv sv rv) ∧ Hid (wr.ownsRow (w.heap.size + 3) 63 4 rv gs.length (gs.flatMap GRu.cells)) ∧ Hid (∀ q ∈ gs, GoodD wr (w.heap.size + 3) q) ∧ Hid (Chg (· = w.heap.size + 1 + 1) W wr)) (fun i _ => l.length - (intOf i).toNat)
  case atStart => exact ⟨k0, _, [], rfl, hk0, Lib.hid ⟨Nat.zero_le _, by simp⟩, HP0, HDT, Lib.hid (World.ownsRow_nil _ _ _ _), Lib.hid (by simp), HCW⟩
  case round =>
    obtain ⟨k, rv, gs, rfl, hk, HGL, HP, HD, HOW, HGD, HCH⟩ := hrel
    have hbl : b < wr.heap.size := by have := (HBL.out _ HCH.out).size; omega
    have hwl : w.heap.size + 3 ≤ wr.heap.size := by have := HCH.out.size; rw [HSZ.out] at this; omega
    have hgl : gs.length ≤ 100000 := by have := HGL.out.1; omega
    obtain ⟨A', c', hrv⟩ := own_shape HOW.out
    subst hrv
    obtain ⟨x0, x1, x2, x3⟩ := blk4 HD.out.blk
    have y3 := HD.out.blk.frozen 3
    rcases HP.out with ⟨e1, e2, e3⟩ | ⟨r, l2, F, e1, e2⟩
    · obtain ⟨t, r', e4, e5⟩ : ∃ t r', l.drop k = t :: r' ∧ t.k = 0 := by
        cases hd : l.drop k with
        | nil => rw [hd] at e1; cases e1
        | cons t r' => rw [hd] at e1; exact ⟨t, r', rfl, by simpa [isK] using e1⟩
      obtain ⟨g1, -, g3⟩ := drop_get e4
      have c0 := HC.out wr (HBL.out _ HCH.out) k t g1
      have q1 : (k : Int) < (l.length : Int) := by omega
      have q2 : ((t.k : Int) != 0) = false := by rw [e5]; rfl
      have hgn : 0 < gs.length := List.length_pos_iff.2 (fun h => e2 (by rw [h]; rfl))
      have q3 : ((gs.length : Int) == 0) = false := by rw [beq_eq_false_iff_ne]; omega
      have HE3 := Lib.hid e3
      obtain ⟨ml, m1, m2⟩ := HD.out.marks
      obtain ⟨Ad, cd, hdv⟩ := own_shape HD.out.decl
      obtain ⟨Ak, ck, hkv⟩ := own_shape m2
      obtain ⟨As, cs, hsv⟩ := own_shape HD.out.starts
      subst hdv hkv hsv
      have hR := HCH.out.blk HK0.out (by omega)
      have hF := HCH.out.blk HK1.out (by omega)
      obtain ⟨z0, z1, z2, z3⟩ := blk4 hR
      obtain ⟨o0, o1⟩ := blk2 hF
      have u0 := hR.frozen 0
      have u1 := hR.frozen 1
      have u2 := hR.frozen 2
      have u3 := hR.frozen 3
      have v0 := hF.frozen 0
      have v1 := hF.frozen 1
      have HRB := Lib.hid hR
      have HFB2 := Lib.hid hF
      have HM2 := Lib.hid m2
      have HM1 := Lib.hid m1
      clear e1 e2 e3 e4 e5 g1 g3 m1 m2 hR hF
      go_wp2
      have hR4 : Blk ((((((wr.setCell ⟨w.heap.size, 0, none⟩ (.slice Ad x.decl.length cd)).setCell ⟨w.heap.size, 1, none⟩ (.slice Ak ml.length ck)).setCell ⟨w.heap.size, 2, none⟩ (.slice As x.starts.length cs)).setCell ⟨w.heap.size, 3, none⟩ (.slice A' gs.length c')).setCell ⟨w.heap.size + 1, 0, none⟩ (.int .i64 0)).setCell ⟨w.heap.size + 1, 1, none⟩ (.int .i64 0)) w.heap.size 52 #[.slice Ad x.decl.length cd, .slice Ak ml.length ck, .slice As x.starts.length cs, .slice A' gs.length c'] :=
        ((set4_blk' HRB.out).far (p := ⟨w.heap.size + 1, 0, none⟩) (by simp) _).far (p := ⟨w.heap.size + 1, 1, none⟩) (by simp) _
      have hF2 : Blk ((((((wr.setCell ⟨w.heap.size, 0, none⟩ (.slice Ad x.decl.length cd)).setCell ⟨w.heap.size, 1, none⟩ (.slice Ak ml.length ck)).setCell ⟨w.heap.size, 2, none⟩ (.slice As x.starts.length cs)).setCell ⟨w.heap.size, 3, none⟩ (.slice A' gs.length c')).setCell ⟨w.heap.size + 1, 0, none⟩ (.int .i64 0)).setCell ⟨w.heap.size + 1, 1, none⟩ (.int .i64 0)) (w.heap.size + 1) 34 #[.int .i64 0, .int .i64 0] :=
        set2_blk ((((HFB2.out.far (p := ⟨w.heap.size, 0, none⟩) (by simp) _).far (p := ⟨w.heap.size, 1, none⟩) (by simp) _).far (p := ⟨w.heap.size, 2, none⟩) (by simp) _).far (p := ⟨w.heap.size, 3, none⟩) (by simp) _)
      have hX : Chg (fun k => k = w.heap.size ∨ k = w.heap.size + 1) wr ((((((wr.setCell ⟨w.heap.size, 0, none⟩ (.slice Ad x.decl.length cd)).setCell ⟨w.heap.size, 1, none⟩ (.slice Ak ml.length ck)).setCell ⟨w.heap.size, 2, none⟩ (.slice As x.starts.length cs)).setCell ⟨w.heap.size, 3, none⟩ (.slice A' gs.length c')).setCell ⟨w.heap.size + 1, 0, none⟩ (.int .i64 0)).setCell ⟨w.heap.size + 1, 1, none⟩ (.int .i64 0)) :=
        ((((((Chg.refl (fun k => k = w.heap.size ∨ k = w.heap.size + 1) wr).set (p := ⟨w.heap.size, 0, none⟩) (.inr (.inl rfl)) _).set (p := ⟨w.heap.size, 1, none⟩) (.inr (.inl rfl)) _).set (p := ⟨w.heap.size, 2, none⟩) (.inr (.inl rfl)) _).set (p := ⟨w.heap.size, 3, none⟩) (.inr (.inl rfl)) _).set (p := ⟨w.heap.size + 1, 0, none⟩) (.inr (.inr rfl)) _).set (p := ⟨w.heap.size + 1, 1, none⟩) (.inr (.inr rfl)) _
      obtain ⟨p0, p1, p2, p3⟩ := blk4 hR4
      obtain ⟨r0, r1⟩ := blk2 hF2
      refine bodyPost_ret (v := .tuple #[.agg #[.slice Ad x.decl.length cd, .slice Ak ml.length ck, .slice As x.starts.length cs, .slice A' gs.length c'], .agg #[.int .i64 0, .int .i64 0]]) (by simp [results, Tryd.results24, go_sem, p0, p1, p2, p3, r0, r1]) rfl ?_
      refine ⟨_, _, _, _, rfl, ?_, (HBL.out _ HCH.out).trans (hX.below (by omega) (fun i hi e => by omega))⟩
      have hXo : ∀ {e : TypeId} {s n : Nat} {u : Value} {ys : List Value}, wr.ownsRow (w.heap.size + 3) e s u n ys → (((((((wr.setCell ⟨w.heap.size, 0, none⟩ (.slice Ad x.decl.length cd)).setCell ⟨w.heap.size, 1, none⟩ (.slice Ak ml.length ck)).setCell ⟨w.heap.size, 2, none⟩ (.slice As x.starts.length cs)).setCell ⟨w.heap.size, 3, none⟩ (.slice A' gs.length c')).setCell ⟨w.heap.size + 1, 0, none⟩ (.int .i64 0)).setCell ⟨w.heap.size + 1, 1, none⟩ (.int .i64 0))).ownsRow (w.heap.size + 3) e s u n ys := fun hu => hX.own hu (fun g hg e => by have := (own_ge hu g hg).1; omega)
      rw [HX.out]
      refine ⟨toks_own (hXo HD.out.decl) HBD.out.1, ⟨ml, HM1.out, toks_own (hXo HM2.out) (by rw [HM1.out]; exact HBD.out.2.1)⟩, toks_own (hXo HD.out.starts) HBD.out.2.2, ?_⟩
      rw [← HE3.out]
      exact rls_own (hXo HOW.out) (fun q hq => ⟨hXo (HGD.out q hq).1, fun u hu => hXo ((HGD.out q hq).2 u hu)⟩) hgl HGL.out.2
    · obtain ⟨t, cl, g1, -, g2, -, -, -⟩ := one_split e1
      have c0 := HC.out wr (HBL.out _ HCH.out) k t g1
      have hkl := (List.getElem?_eq_some_iff.1 g1).1
      have q1 : (k : Int) < (l.length : Int) := by omega
      have q2 : ((t.k : Int) != 0) = true := by rw [g2]; rfl
      have HONE := Lib.hid (one_any (HTK.out.later (HBL.out _ HCH.out)) e1)
      have HE2 := Lib.hid e2
      clear g1 g2 e1 e2
      go_wp2_with (first
        | (go_at_call 41
           refine HONE.out.mono ?_
           rintro e w2 ⟨k2, ⟨ql, qv, qs⟩, hq0, hq1, rfl, hq2, hq3, hq4, hq5⟩
           obtain ⟨Aq, cq, hqv⟩ := own_shape hq4.1
           have hqv : qv = .slice Aq qs.length cq := hqv
           subst hqv
           have HQ0 := Lib.hid hq0
           have HQ1 := Lib.hid hq1
           have HQ2 := Lib.hid hq2
           have HQ3 := Lib.hid hq3
           have hsz2 := hq5.size
           have HV2 : Hid (Chg (fun _ => False) wr ((w2.alloc (.cells #[.int .i64 ql.k, .string (str ql.s), .int .i64 ql.p, .slice Aq qs.length cq] 63)).alloc (.cells #[.int .i64 0, .int .i64 0] 34))) := Lib.hid (((Chg.of_below (X := fun _ => False) hq5).alloc _).alloc _)
           have HQ4 := Lib.hid (((hq4.mono (show w.heap.size + 3 ≤ wr.heap.size from hwl)).chg ((Chg.refl (fun _ => False) w2).alloc (.cells #[.int .i64 ql.k, .string (str ql.s), .int .i64 ql.p, .slice Aq qs.length cq] 63)) (fun _ _ _ => id)).chg ((Chg.refl (fun _ => False) _).alloc (.cells #[.int .i64 0, .int .i64 0] 34)) (fun _ _ _ => id))
           have HD2 := Lib.hid (HD.out.chg HV2.out id (fun _ _ => id))
           have HOW2 := Lib.hid (HV2.out.own HOW.out (fun _ _ => id))
           have HGD2 := Lib.hid (fun u hu => (HGD.out u hu).chg HV2.out (fun _ _ _ => id))
           obtain ⟨-, -, -, X3⟩ := blk4 HD2.out.blk
           have Y3 := HD2.out.blk.frozen 3
           clear hq0 hq1 hq2 hq3 hq4 hq5)
        | (at_builtin
           refine wpList_app ElRuleD (.tmp 45) (.tmp 47) rfl rfl (base := w.heap.size + 3) (n := gs.length) (m := 1) (N := gs.length + 1) (xs := gs.flatMap GRu.cells) (news := [.int .i64 ql.k, .string (str ql.s), .int .i64 ql.p, .slice Aq qs.length cq]) rfl rfl (HOW2.out.alloc _) (by have := src_ruleD ((w2.alloc (.cells #[.int .i64 ql.k, .string (str ql.s), .int .i64 ql.p, .slice Aq qs.length cq] 63)).alloc (.cells #[.int .i64 0, .int .i64 0] 34)) ql.k ql.p (str ql.s) Aq qs.length cq; rwa [World.size_alloc, World.size_alloc] at this) rfl (by unfold maxLen; omega) (by omega) (by simp; omega) ?_
           intro A4 c4 w4 r1 r2 r3
           have r3' : Grew ((w2.alloc (.cells #[.int .i64 ql.k, .string (str ql.s), .int .i64 ql.p, .slice Aq qs.length cq] 63)).alloc (.cells #[.int .i64 0, .int .i64 0] 34)) (.cells #[.int .i64 ql.k, .string (str ql.s), .int .i64 ql.p, .slice Aq qs.length cq] 63) w4 (.slice A' gs.length c') (.slice A4 (gs.length + 1) c4) := r3
           obtain ⟨hF1, hF2, hF3, hF4, hF5⟩ := DTx.rules_grow (q := ⟨ql, .slice Aq qs.length cq, qs⟩) HD2.out HOW2.out HGD2.out HQ4.out r1 r3'
           have HF1 := Lib.hid hF1
           have HF2 := Lib.hid hF2
           have HF3 := Lib.hid hF3
           have HF4 := Lib.hid hF4
           obtain ⟨-, -, -, cA⟩ := blk4 hF5
           have vA := hF5.frozen 3
           clear r1 r2 r3 r3' hF1 hF2 hF3 hF4 hF5))
      go_roundw
      case rel =>
        refine ⟨k2, _, gs ++ [⟨ql, .slice Aq qs.length cq, qs⟩], rfl, HQ2.out, Lib.hid ⟨by have := HGL.out.1; have := HQ0.out.1; simp; omega, fun u hu => ?_⟩, Lib.hid ?_, HF1, HF2, HF3, Lib.hid ?_⟩
        · rcases List.mem_append.1 hu with hu | hu
          · exact HGL.out.2 u hu
          · rw [List.mem_singleton] at hu
            subst hu
            exact HQ0.out.2
        · rw [List.map_append]
          refine RPos.next (by simp) (F := F) ?_
          rw [HQ3.out]
          have h1 : (GRu.r ⟨ql, .slice Aq qs.length cq, qs⟩) = r := HQ1.out
          show moreR F (gs.map GRu.r ++ [GRu.r ⟨ql, .slice Aq qs.length cq, qs⟩]) l2 = _
          rw [h1]
          exact HE2.out
        · exact (HCH.out.trans HV2.out (fun _ _ h => h.elim)).trans HF4.out (fun i hi hx => by rcases hx with hx | hx; exact hx; have := HSZ.out; omega)
      case measure => have := HQ0.out.1; simp [intOf]; omega
end Go.Proofs.YtnpjhndgdlihjaaDoor

namespace Go.Proofs.YtnpjhndgdlihjaaDoor
open Go.RowKit
set_option linter.unusedVariables false
set_option maxRecDepth 100000 in
set_option maxHeartbeats 3200000 in
theorem rnames2_any {w : World} {AT AN AR : Option Addr} {cT cN cR nR : Nat} {gs : Int} {T N : List ByteArray} (hT : Arr StrV w (.slice AT T.length cT) T) (hN : Arr StrV w (.slice AN N.length cN) N) (hT20 : T.length ≤ 1048576) (hN20 : N.length ≤ 1048576) : Calls Tryd.prog 31 #[.agg #[.slice AT T.length cT, .slice AN N.length cN, .slice AR nR cR, .int .i64 gs]] w fun e w' => ∃ o, e = .returned o ∧ Arr StrV w' o (T ++ N) ∧ Below w.heap.size w w' := by
  have HG := Lib.hid (GBox.new w 30 (.agg #[.slice AT T.length cT, .slice AN N.length cN, .slice AR nR cR, .int .i64 gs]))
  have HSA := Lib.hid (fun y (hy : Below w.heap.size w y) => (hT.later hy).src str_one)
  have HSB := Lib.hid (fun y (hy : Below w.heap.size w y) => (hN.later hy).src str_one)
  have hxl : (T.map StrV).length = T.length := List.length_map _
  have hyl : (N.map StrV).length = N.length := List.length_map _
  have HEND : Hid (∀ w1 o y, OutAt 9 w1 (T.map StrV ++ N.map StrV) o y → Arr StrV y o (T ++ N)) := Lib.hid (fun w1 o y ho => OutAt.arr (E := StrV) (by rw [List.map_append]; exact ho) (by rw [List.length_append]; omega))
  clear hT hN
  generalize T ++ N = L at *
  generalize T.map StrV = xs at *
  generalize N.map StrV = ys at *
  generalize T.length = nT at *
  generalize N.length = nN at *
  subst hxl
  subst hyl
  obtain ⟨d0, d1, d2, d3⟩ := HG.out.four
  have hEl := ElStr
  go_enter Tryd.func31, Tryd.ntmps31
  go_wp2_with fail
  go_region_law (first
    | (refine step_app ElStr (.tmp 3) (.tmp 5) ?_ ?_ (base := w.heap.size + 1) (n := 0) (m := xs.length) (N := xs.length) (v := .slice (some ⟨w.heap.size + 1, 0, none⟩) 0 0) (src := .slice AT xs.length cT) (xs := []) (news := xs) ?_ ?_ ?_ ?_ ?_ ?_ ?_ ?_ ?_
       · rfl
       · rfl
       · rfl
       · rfl
       · exact own_made (W := w.alloc _) (by simp) (Nat.le_refl _) (by decide) rfl
       · exact HSA.out _ (below_drew (below_more (below_alloc w _) _))
       · omega
       · unfold maxLen; omega
       · omega
       · simp
       intro A2 c2 w2 r1 r2 r3
       have HR1 := Lib.hid r1
       have hbx : Blk w2 w.heap.size 30 #[.slice AT xs.length cT, .slice AN ys.length cN, .slice AR nR cR, .int .i64 gs] := r2.blk ((Blk.new w 30 _).alloc _) (.inl (by omega))
       have f0 := hbx.cell 0
       have f1 := hbx.cell 1
       have f2 := hbx.cell 2
       have f3 := hbx.cell 3
       simp only [List.getElem?_toArray, List.getElem?_cons_zero, List.getElem?_cons_succ] at f0 f1 f2 f3
       have HB2 : Hid (Below (w.heap.size + 1) (w.alloc (.cells #[.slice AT xs.length cT, .slice AN ys.length cN, .slice AR nR cR, .int .i64 gs] 30)) w2) := Lib.hid ((below_drew ((below_alloc (w.alloc (.cells #[.slice AT xs.length cT, .slice AN ys.length cN, .slice AR nR cR, .int .i64 gs] 30)) _).mono (by simp))).trans (r2.below (by simp)))
       have hws := HB2.out.size
       clear r1 r2 r3 hbx)
    | (refine step_app ElStr (.tmp 6) (.tmp 8) ?_ ?_ (base := w.heap.size + 1) (n := xs.length) (m := ys.length) (N := xs.length + ys.length) (v := .slice A2 xs.length c2) (src := .slice AN ys.length cN) (xs := xs) (news := ys) ?_ ?_ ?_ ?_ ?_ ?_ ?_ ?_ ?_
       · rfl
       · rfl
       · rfl
       · rfl
       · exact HR1.out
       · exact HSB.out _ ((below_alloc w _).trans (HB2.out.mono (by omega)))
       · rfl
       · unfold maxLen; omega
       · omega
       · simp at hws ⊢; omega
       intro A4 c4 w4 q1 q2 q3
       have HR4 := Lib.hid q1
       have HB4 := Lib.hid (HB2.out.trans (q2.below (by simp at hws ⊢; omega)))
       clear q1 q2 q3))
  all_goals go_wp2
  all_goals go_ret
  all_goals refine ⟨_, rfl, HEND.out (w.alloc (.cells #[.slice AT xs.length cT, .slice AN ys.length cN, .slice AR nR cR, .int .i64 gs] 30)) _ _ ⟨A4, c4, by rw [List.length_append]; rfl, ?_, ?_⟩, (below_alloc w _).trans (HB4.out.mono (by omega))⟩
  all_goals rw [show (w.alloc (.cells #[.slice AT xs.length cT, .slice AN ys.length cN, .slice AR nR cR, .int .i64 gs] 30)).heap.size = w.heap.size + 1 by simp]
  all_goals first
    | exact HB4.out
    | (rw [List.length_append]; exact HR4.out)
theorem rnames_any {w : World} {v : Value} {g : Gm} (h : GrR w v g) : Calls Tryd.prog 31 #[v] w fun e w' => ∃ o, e = .returned o ∧ Arr StrV w' o (g.T ++ g.N) ∧ Below w.heap.size w w' := by
  have hT20 := h.small.2.2.1
  have hN20 := h.small.2.2.2.1
  obtain ⟨AT, cT, AN, cN, AR, cR, rfl, hT, hN, hR⟩ := h.open_
  exact rnames2_any hT hN hT20 hN20
theorem name_mid {g : Gm} {s : Int} (h0 : ¬ s < 1) (h1 : ¬ (g.T.length : Int) + (g.N.length : Int) < s) : ∃ k x, s = ((k : Nat) : Int) + 1 ∧ (g.T ++ g.N)[k]? = some x ∧ g.name s = x := by
  have hlt : (s - 1).toNat < (g.T ++ g.N).length := by rw [List.length_append]; omega
  refine ⟨(s - 1).toNat, (g.T ++ g.N)[(s - 1).toNat], by omega, List.getElem?_eq_getElem hlt, ?_⟩
  unfold Gm.name
  rw [if_neg (by omega), if_neg (by omega), List.getD_eq_getElem?_getD, List.getElem?_eq_getElem hlt]
  rfl
theorem name_out {g : Gm} {s : Int} (h0 : s ≠ 0) (h : s < 1 ∨ (g.T.length : Int) + (g.N.length : Int) < s) : g.name s = ⟨#[]⟩ := by
  unfold Gm.name
  rw [if_neg h0, if_pos h]
set_option maxRecDepth 100000 in
set_option maxHeartbeats 1600000 in
theorem rgname_any {w : World} {v : Value} {g : Gm} (h : GrR w v g) (s : Int) (hs : -9223372036854775808 ≤ s) : Calls Tryd.prog 18 #[v, .int .i64 s] w (Text w (g.name s)) := by
  have hT20 := h.small.2.2.1
  have hN20 := h.small.2.2.2.1
  have HTP := Lib.hid (fun y (hy : Below w.heap.size w y) => rtop_any (h.later hy))
  have HNS := Lib.hid (fun y (hy : Below w.heap.size w y) => rnames_any (h.later hy))
  have HG := Lib.hid (GBox.new w 30 v)
  have HZ := Lib.hid (name_zero g)
  have HM := Lib.hid (@name_mid g s)
  have HO := Lib.hid (@name_out g s)
  have HLN : Hid ((g.T ++ g.N).length = g.T.length + g.N.length) := Lib.hid List.length_append
  obtain ⟨AT, cT, AN, cN, AR, cR, rfl, hT, hN, hR⟩ := h.open_
  clear h hT hN hR
  by_cases h0 : s = 0
  · subst h0
    rw [HZ.out]
    clear HTP HNS HM HO HLN
    generalize g.T.length = nT at *
    generalize g.N.length = nN at *
    generalize g.R.length = nR at *
    generalize g.s = gs at *
    go_enter Tryd.func18, Tryd.ntmps18
    go_wp2
    go_ret
    exact ⟨rfl, below_alloc _ _⟩
  have hs0 : (s == 0) = false := by simpa using h0
  by_cases h1 : s < 1
  · rw [HO.out h0 (.inl h1)]
    clear HTP HNS HM HO HLN HZ h0
    generalize g.T.length = nT at *
    generalize g.N.length = nN at *
    generalize g.R.length = nR at *
    generalize g.s = gs at *
    go_enter Tryd.func18, Tryd.ntmps18
    go_wp2
    go_ret
    exact ⟨rfl, below_alloc _ _⟩
  by_cases h2 : (g.T.length : Int) + (g.N.length : Int) < s
  · rw [HO.out h0 (.inr h2)]
    clear HNS HM HO HLN HZ h0
    generalize g.T.length = nT at *
    generalize g.N.length = nN at *
    generalize g.R.length = nR at *
    generalize g.s = gs at *
    go_enter Tryd.func18, Tryd.ntmps18
    go_wp2_with fail
    refine (HTP.out _ (below_alloc w _)).mono ?_
    rintro e w1 ⟨rfl, hb1⟩
    have HB1 := Lib.hid (below_alloc_trans hb1)
    clear hb1
    go_wp2
    go_ret
    exact ⟨rfl, HB1.out⟩
  · obtain ⟨k, x, hk, hx, hnm⟩ := HM.out h1 h2
    rw [hnm]
    have hkl := (List.getElem?_eq_some_iff.1 hx).1
    rw [HLN.out] at hkl
    have HX := Lib.hid hx
    have hsub : s - 1 = (k : Int) := by omega
    clear HM HO HZ h0 hx hnm hk
    generalize g.T ++ g.N = L at *
    generalize g.T.length = nT at *
    generalize g.N.length = nN at *
    generalize g.R.length = nR at *
    generalize g.s = gs at *
    go_enter Tryd.func18, Tryd.ntmps18
    go_wp2_with fail
    refine (HTP.out _ (below_alloc w _)).mono ?_
    rintro e w1 ⟨rfl, hb1⟩
    have HB1 := Lib.hid (below_alloc_trans hb1)
    obtain ⟨d0, d1, d2, d3⟩ := (HG.out.later hb1).four
    clear hb1
    go_wp2_with fail
    refine (HNS.out _ HB1.out).mono ?_
    rintro e w2 ⟨o, rfl, ho, hb2⟩
    have HB2 := Lib.hid (HB1.out.trans (hb2.mono HB1.out.size))
    obtain ⟨⟨A, c, rfl, hc⟩, _⟩ := ho
    obtain ⟨b, off, rfl, hb, hcell⟩ := hc k x HX.out
    simp only [StrV] at hcell
    have hll := HLN.out
    clear hb2 d0 d1 d2 d3 hc
    rw [hll]
    go_wp2
    go_ret
    exact ⟨rfl, HB2.out⟩
/-- A name's symbol. -/
noncomputable def findS (l : List ByteArray) (s : ByteArray) : Int := placeL l s + 1
set_option maxRecDepth 100000 in
set_option maxHeartbeats 1600000 in
theorem rfind_any {w : World} {AT AN AR : Option Addr} {cT cN cR nR : Nat} {gs : Int} {T N : List ByteArray} (hT : Arr StrV w (.slice AT T.length cT) T) (hN : Arr StrV w (.slice AN N.length cN) N) (hT20 : T.length ≤ 1048576) (hN20 : N.length ≤ 1048576) (s : ByteArray) (hb : -9223372036854775808 ≤ findS (T ++ N) s) (hb2 : findS (T ++ N) s ≤ 9223372036854775807) :
    Calls Tryd.prog 26 #[.agg #[.slice AT T.length cT, .slice AN N.length cN, .slice AR nR cR, .int .i64 gs], .string s] w fun e w' => e = .returned (.int .i64 (findS (T ++ N) s)) ∧ Below w.heap.size w w' := by
  have hb0 := below_alloc w (.cells #[.slice AT T.length cT, .slice AN N.length cN, .slice AR nR cR, .int .i64 gs] 30)
  have HN := Lib.hid (rnames2_any (AR := AR) (cR := cR) (nR := nR) (gs := gs) (hT.later hb0) (hN.later hb0) hT20 hN20)
  have HB0 := Lib.hid hb0
  have HF : Hid (findS (T ++ N) s = placeL (T ++ N) s + 1) := Lib.hid rfl
  unfold findS at hb hb2
  have HPL := Lib.hid (fun y o (ho : Arr StrV y o (T ++ N)) => rplace_any ho s)
  clear hT hN hb0
  generalize T ++ N = L at *
  generalize placeL L s = pl at *
  generalize T.length = nT at *
  generalize N.length = nN at *
  go_enter Tryd.func26, Tryd.ntmps26
  go_wp2_with (first
    | (go_at_call 31; refine HN.out.mono ?_; rintro e w1 ⟨o, rfl, ho, hb1⟩
       have HO := Lib.hid ho
       obtain ⟨⟨Ao, co, rfl, -⟩, -⟩ := ho
       have HB1 := Lib.hid (HB0.out.trans (hb1.mono HB0.out.size))
       have HP1 := Lib.hid (HPL.out _ _ HO.out)
       clear hb1)
    | (go_at_call 45; refine HP1.out.mono ?_; rintro e w2 ⟨rfl, rfl⟩))
  go_ret
  rw [HF.out]
  exact ⟨rfl, HB1.out⟩
end Go.Proofs.YtnpjhndgdlihjaaDoor

namespace Go.Proofs.YtnpjhndgdlihjaaDoor
open Go.RowKit
set_option linter.unusedVariables false
set_option maxRecDepth 1000000
/-- Names ahead of colons, as they first come. -/
def leftF (out : List Nme) : List PR → List Nme
  | [] => out
  | r :: l => leftF (if out.contains r.left.s then out else out ++ [r.left.s]) l
def lefts (x : Txt) : List Nme := leftF [] x.rules
/-- Declared terminals. -/
def declF : List Nme → List Tk → Option (List Nme)
  | T, [] => some T
  | T, t :: r => if T.contains t.s then none else if 120 ≤ T.length then none else declF (T ++ [t.s]) r
def startF (x : Txt) : Bool := (match x.starts with | [] => true | t :: _ => (lefts x).contains t.s) && decide (x.marks.length ≤ 1)
/-- A right side's symbols. -/
def symF (lf : List Nme) : List Nme → Nat → List Tk → Option (List Nme)
  | T, _, [] => some T
  | T, k, t :: r => if 8 ≤ k then none else if T.contains t.s then symF lf T (k + 1) r
    else if t.k = 1 then (if lf.contains t.s then symF lf T (k + 1) r else none)
    else if t.k = 2 then (if 120 ≤ T.length then none else symF lf (T ++ [t.s]) (k + 1) r) else none
/-- A rule by names. -/
abbrev DN := Nme × List Nme
def rightN (s : PS) : List Nme := s.l.map (·.s)
def sideF (lf : List Nme) (left : Nme) : List Nme → List DN → List PS → Option (List Nme × List DN)
  | T, d, [] => some (T, d)
  | T, d, s :: r => if 300 ≤ d.length then none else
    match symF lf T 0 s.l with
    | none => none
    | some T' => if d.any (fun q => q.1 == left && q.2 == rightN s) then none else sideF lf left T' (d ++ [(left, rightN s)]) r
def nameF (lf : List Nme) (D : Nat) : List Nme → List Nme → List DN → List PR → Option (List Nme × List Nme × List DN)
  | T, N, d, [] => some (T, N, d)
  | T, N, d, r :: rs => if (T.take (min D T.length)).contains r.left.s then none else
    if !N.contains r.left.s && decide (120 ≤ N.length) then none else
    match sideF lf r.left.s T d r.sides with
    | none => none
    | some (T', d') => nameF lf D T' (if N.contains r.left.s then N else N ++ [r.left.s]) d' rs
def namesF (x : Txt) : Option (List Nme × List Nme × List DN) :=
  match declF [] x.decl with
  | none => none
  | some T => if startF x then nameF (lefts x) x.decl.length T [] [] x.rules else none
def findN (L : List Nme) (s : Nme) : Nat := if L.contains s then L.findIdx (· == s) + 1 else 0
def startN (x : Txt) (L : List Nme) : Nat := match x.starts, x.rules with
  | t :: _, _ => findN L t.s
  | [], r :: _ => findN L r.left.s
  | [], [] => 0
def gramF (x : Txt) : Option PG := match namesF x with
  | none => none
  | some (T, N, d) => some ⟨T, N, startN x (T ++ N), d.map fun q => (findN (T ++ N) q.1, q.2.map (findN (T ++ N)))⟩
/-- The text is read as the program reads it; its names are at their numbers. -/
def bothB (l : List UInt8) : Bool := match tokens l with
  | .error _ => false
  | .ok ts => match formL ts with
    | .error _ => false
    | .ok x => match parseL l, gramF x with
      | .ok g, some g' => g.T == g'.T && g.N == g'.N && g.s == g'.s && g.R == g'.R && decide (g.T.length + g.N.length ≤ 100000) && x.rules.isEmpty == false && x.decl.isEmpty == false && decide (ts.length ≤ 100000) && decide (g.R.length ≤ 100000)
      | _, _ => false
theorem posix_both : bothB posixT = true := by decide +kernel
theorem posix_form : ∃ ts x g, tokens posixT = .ok ts ∧ formL ts = .ok x ∧ parseL posixT = .ok g ∧ gramF x = some g ∧ x.rules ≠ [] ∧ x.decl ≠ [] ∧ ts.length ≤ 100000 ∧ g.R.length ≤ 100000 := by
  have h := posix_both
  unfold bothB at h
  cases ht : tokens posixT with
  | error e => rw [ht] at h; cases h
  | ok ts =>
    rw [ht] at h
    dsimp only at h
    cases hx : formL ts with
    | error e => rw [hx] at h; cases h
    | ok x =>
      rw [hx] at h
      dsimp only at h
      cases hg : parseL posixT with
      | error e => rw [hg] at h; cases h
      | ok g =>
        cases hd : gramF x with
        | none => rw [hg, hd] at h; cases h
        | some g' =>
          rw [hg, hd] at h
          simp only [Bool.and_eq_true, beq_iff_eq, decide_eq_true_eq] at h
          obtain ⟨⟨⟨⟨⟨⟨⟨⟨h1, h2⟩, h3⟩, h4⟩, -⟩, h6⟩, h7⟩, h8⟩, h9⟩ := h
          obtain ⟨T, N, s, R⟩ := g
          obtain ⟨T', N', s', R'⟩ := g'
          dsimp only at h1 h2 h3 h4
          subst h1 h2 h3 h4
          exact ⟨ts, x, _, rfl, hx, rfl, hd, (fun e => by rw [e] at h6; cases h6), (fun e => by rw [e] at h7; cases h7), h8, h9⟩
end Go.Proofs.YtnpjhndgdlihjaaDoor

namespace Go.Proofs.YtnpjhndgdlihjaaDoor
open Go.RowKit
set_option linter.unusedVariables false
theorem place_nat (L : List Nme) (s : Nme) : placeL (L.map str) (str s) = if L.contains s then ((L.findIdx (· == s) : Nat) : Int) else -1 := by
  unfold placeL
  by_cases h : L.contains s = true
  · rw [if_pos h]
    have hs : s ∈ L := by simpa using h
    have hlt : L.findIdx (· == s) < L.length := List.findIdx_lt_length_of_exists ⟨s, hs, by simp⟩
    refine idxL_hit (k := L.findIdx (· == s)) (x := str s) ?_ (by simp) ?_
    · rw [List.getElem?_map, List.getElem?_eq_getElem hlt]
      have := List.findIdx_getElem (w := hlt)
      simp at this
      rw [this]
      rfl
    · intro j y hj hy
      rw [List.getElem?_map] at hy
      obtain ⟨u, hu, rfl⟩ := Option.map_eq_some_iff.1 hy
      have h1 := List.not_of_lt_findIdx hj
      obtain ⟨hjl, rfl⟩ := List.getElem?_eq_some_iff.1 hu
      simp at h1
      exact decide_eq_false (fun e => h1 (str_inj e))
  · rw [if_neg h]
    refine idxL_miss ?_
    intro j y hj hy
    rw [List.getElem?_map] at hy
    obtain ⟨u, hu, rfl⟩ := Option.map_eq_some_iff.1 hy
    exact decide_eq_false (fun e => h (by rw [← str_inj e]; simpa using List.mem_of_getElem? hu))
theorem arr_nv {w : World} {B : Nat} {v : Value} {T : List Nme} (h : w.ownsRow B 9 1 v T.length (T.map Nv)) (hl : T.length ≤ 100000) : Arr StrV w v (T.map str) := by
  have e1 : (T.map str).length = T.length := List.length_map _
  have e2 : (T.map str).map StrV = T.map Nv := by rw [List.map_map]; rfl
  refine arr_own (B := B) (e := 9) ?_ (by rw [e1]; omega)
  rw [e1, e2]
  exact h
theorem leftF_take (O : List Nme) (l : List PR) {k : Nat} {r : PR} (h : l[k]? = some r) : leftF O (l.drop k) = leftF (if O.contains r.left.s then O else O ++ [r.left.s]) (l.drop (k + 1)) := by
  obtain ⟨hk, rfl⟩ := List.getElem?_eq_some_iff.1 h
  rw [List.drop_eq_getElem_cons hk]
  rfl
set_option maxRecDepth 100000 in
set_option maxHeartbeats 3200000 in
theorem lefts_any {w : World} {dv kv sv rv : Value} {x : Txt} (h : TxR w dv kv sv rv x) : Calls Tryd.prog 66 #[.agg #[dv, kv, sv, rv]] w fun e w' => ∃ o, e = .returned o ∧ Arr StrV w' o ((lefts x).map str) ∧ Below w.heap.size w w' := by
  obtain ⟨ml, m1, m2⟩ := h.marks
  obtain ⟨⟨A1, c1, rfl, -⟩, -⟩ := h.decl
  obtain ⟨⟨A2, c2, rfl, -⟩, -⟩ := m2
  obtain ⟨⟨A3, c3, rfl, -⟩, -⟩ := h.starts
  have hr := h.rules
  obtain ⟨⟨A4, c4, rfl, hc⟩, hs⟩ := hr
  have HC := Lib.hid (fun (y : World) (hy : Below w.heap.size w y) (k : Nat) (r : PR) (hk : x.rules[k]? = some r) => (by
    obtain ⟨b, off, sv, hA, hlt, -, k1, -, -, -⟩ := hc k r hk
    exact ⟨b, off, hA, Nat.lt_of_lt_of_le hlt hy.size, ((Chg.of_below (X := fun _ => False) hy).cell hlt id).trans k1⟩ : ∃ b off, A4 = some ⟨b, off, none⟩ ∧ b < y.heap.size ∧ y.cell? ⟨b, off + k * 4 + 1, none⟩ = some (.string (str r.left.s))))
  have HB0 := Lib.hid (below_alloc w (.cells #[.slice A1 x.decl.length c1, .slice A2 ml.length c2, .slice A3 x.starts.length c3, .slice A4 x.rules.length c4] 52))
  have HK0 := Lib.hid (Blk.new w 52 #[.slice A1 x.decl.length c1, .slice A2 ml.length c2, .slice A3 x.starts.length c3, .slice A4 x.rules.length c4])
  have HSZ : Hid ((w.alloc (.cells #[.slice A1 x.decl.length c1, .slice A2 ml.length c2, .slice A3 x.starts.length c3, .slice A4 x.rules.length c4] 52)).heap.size = w.heap.size + 1) := Lib.hid (by simp)
  have HL : Hid (leftF [] (x.rules.drop 0) = lefts x) := Lib.hid rfl
  have HLS : Hid (lefts x = lefts x) := Lib.hid rfl
  clear h hc m1
  go_enter Tryd.func66, Tryd.ntmps66
  go_wp2
  generalize w.alloc (.cells #[.slice A1 x.decl.length c1, .slice A2 ml.length c2, .slice A3 x.starts.length c3, .slice A4 x.rules.length c4] 52) = W at *
  have hW : W.heap.size = w.heap.size + 1 := HSZ.out
  go_loopw [3, 4] (fun ov i wr => ∃ (k : Nat) (O : List Nme) (Ao : Option Addr) (co : Nat), i = .int .i64 k ∧ ov = .slice Ao O.length co ∧ k ≤ x.rules.length ∧ Hid (O.length ≤ k) ∧ Hid (leftF O (x.rules.drop k) = lefts x) ∧ Hid (wr.ownsRow (w.heap.size + 1) 9 1 (.slice Ao O.length co) O.length (O.map Nv)) ∧ Hid (Below (w.heap.size + 1) W wr)) (fun _ i _ => x.rules.length - (intOf i).toNat)
  case atStart => exact ⟨0, [], none, 0, rfl, rfl, Nat.zero_le _, Lib.hid (Nat.le_refl _), HL, Lib.hid (World.ownsRow_nil _ _ _ _), Lib.hid (by rw [← hW]; exact Below.refl _ _)⟩
  case round =>
    obtain ⟨k, O, Ao, co, rfl, rfl, hk, HO, HF, HOW, HBW⟩ := hrel
    have hkb := HK0.out.below HBW.out (by omega)
    obtain ⟨z0, z1, z2, z3⟩ := blk4 hkb
    have hwr : w.heap.size < wr.heap.size := hkb.lt
    clear hkb hW
    by_cases hlt : k < x.rules.length
    · obtain ⟨r, hr⟩ : ∃ r, x.rules[k]? = some r := ⟨_, List.getElem?_eq_getElem hlt⟩
      obtain ⟨b, off, hA, hb, hcell⟩ := HC.out wr (HB0.out.trans (HBW.out.mono (by omega))) k r hr
      subst hA
      have HPL := Lib.hid (rplace_any (arr_nv HOW.out (by have := HO.out; omega)) (str r.left.s))
      rw [place_nat] at HPL
      have HN := HF.out
      rw [leftF_take O x.rules hr] at HN
      have ho : O.length ≤ 100000 := by have := HO.out; omega
      cases hc : O.contains r.left.s with
      | true =>
        rw [hc] at HPL HN
        rw [if_pos rfl] at HPL HN
        have HN2 := Lib.hid HN
        have q1 : ¬ ((O.findIdx (· == r.left.s) : Nat) : Int) < 0 := by omega
        generalize O.findIdx (· == r.left.s) = p at *
        clear hc hr HN
        go_wp2_with (go_at_call 45; refine HPL.out.mono ?_; rintro e w' ⟨rfl, rfl⟩)
        go_roundw
        case rel => exact ⟨k + 1, O, _, _, by go_num, rfl, by omega, Lib.hid (by have := HO.out; omega), HN2, HOW, HBW⟩
        case measure => simp [intOf]; omega
      | false =>
        rw [hc] at HPL HN
        rw [if_neg (by simp)] at HPL HN
        have HN2 := Lib.hid HN
        clear hc hr HN
        go_wp2_with (first
          | (go_at_call 45; refine HPL.out.mono ?_; rintro e w' ⟨rfl, rfl⟩)
          | (at_builtin
             refine wpList_app ElStr (.tmp 22) (.tmp 30) rfl rfl (base := w.heap.size + 1) (n := O.length) (m := 1) (N := O.length + 1) (xs := O.map Nv) (news := [.string (str r.left.s)]) rfl rfl (HOW.out.alloc _) (src_str _ _) rfl (by unfold maxLen; omega) (by omega) (by rw [World.size_alloc]; omega) ?_
             intro A5 c5 w5 r1 r2 r3
             have HF1 := Lib.hid r1
             have HF2 := Lib.hid (below_app r2 (by omega))
             clear r1 r2 r3))
        go_roundw
        case rel =>
          refine ⟨k + 1, O ++ [r.left.s], A5, c5, by go_num, by simp, by omega, Lib.hid (by have := HO.out; simp; omega), HN2, Lib.hid ?_, Lib.hid (HBW.out.trans (HF2.out.mono (by omega)))⟩
          have e2 : (O ++ [r.left.s]).length = O.length + 1 := by simp
          rw [e2, List.map_append]
          exact HF1.out
        case measure => simp [intOf]; omega
    · obtain rfl : k = x.rules.length := by omega
      have HN := HF.out
      rw [List.drop_length] at HN
      have HA := Lib.hid (arr_nv HOW.out (by have := HO.out; omega))
      have HE : Hid (O = lefts x) := Lib.hid HN
      clear HN
      go_wp2
      go_ret
      exact ⟨_, rfl, by rw [← HE.out]; exact HA.out, HB0.out.trans (HBW.out.mono (by omega))⟩
end Go.Proofs.YtnpjhndgdlihjaaDoor
