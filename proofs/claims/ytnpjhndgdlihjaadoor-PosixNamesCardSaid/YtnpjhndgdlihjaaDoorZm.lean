/- No two rules are the same: the program's, all of them. The rules of a left side: the program's and the document's. Ordered: the program's. Two rows of texts, one behind the other: slices.Concat. No name stands twice: the program's, by a map. What Check asks: the document's, first part. The document's tokens: bytes, letters, what is quoted, comments, marks. The document's tokens: one token. The document's tokens: one token. The document's tokens: all of them. -/
import Derived.Test.YtnpjhndgdlihjaaDoorZl
import Derived.Lib.AppendZeros
import Derived.Maps.Own
import Derived.Maps.OwnOps
import Derived.Maps.OwnSet
import Derived.Maps.Views
import Derived.StringKeys
import Derived.Deep.RegionLaw
import Derived.Deep.RegionHeld3
import Derived.Test.YtnpjhndgdlihjaaDoorZd
namespace Go.Proofs.YtnpjhndgdlihjaaDoor
open Go.RowKit
set_option linter.unusedVariables false
/-- No two of the first k are the same. -/
def UnTo (l : List Ru) (k : Nat) : Prop := ∀ (i j : Nat) (x r : Ru), i < k → j < i → l[j]? = some x → l[i]? = some r → sameR x r = false
theorem UnTo.next {l : List Ru} {k : Nat} {r : Ru} (h : UnTo l k) (hr : l[k]? = some r) (ha : ((l.take k).any fun x => sameR x r) = false) : UnTo l (k + 1) := by
  intro i j x r' hi hj hx hr'
  by_cases e : i = k
  · subst e
    rw [hr] at hr'
    cases hr'
    have hm : x ∈ l.take i := List.mem_of_getElem? (i := j) (by rw [List.getElem?_take, if_pos hj]; exact hx)
    cases hq : sameR x r with
    | false => rfl
    | true =>
      have : ((l.take i).any fun x => sameR x r) = true := List.any_eq_true.2 ⟨x, hm, hq⟩
      rw [ha] at this
      cases this
  · exact h i j x r' (by omega) hj hx hr'
open Classical in
theorem UnTo.all {l : List Ru} (h : UnTo l l.length) : decide (Un l) = true := by
  rw [decide_eq_true_eq]
  intro i j x r hj hx hr
  exact h i j x r (List.getElem?_eq_some_iff.1 hr).1 hj hx hr
theorem un_not {l : List Ru} {k : Nat} {r : Ru} (hr : l[k]? = some r) (ha : ((l.take k).any fun x => sameR x r) = true) : ¬ Un l := by
  intro h
  obtain ⟨x, hm, hq⟩ := List.any_eq_true.1 ha
  obtain ⟨j, hj, he⟩ := List.mem_iff_getElem.1 hm
  have hj' : j < k := by rw [List.length_take] at hj; omega
  have := h k j x r hj' (by rw [← he, List.getElem_take]; exact List.getElem?_eq_getElem _) hr
  rw [hq] at this
  cases this
open Classical in
theorem says_un {w w' : World} {l : List Ru} {b : Bool} (h : decide (Un l) = b) (hb : Below w.heap.size w w') : Says w (decide (Un l)) (.returned (.bool b)) w' := ⟨by rw [h], hb⟩
end Go.Proofs.YtnpjhndgdlihjaaDoor

namespace Go.Proofs.YtnpjhndgdlihjaaDoor
open Go.RowKit
set_option linter.unusedVariables false
theorem Tryd.infoInt : (Tryd.prog.info? 3).map (fun i => (i.zero, i.size, i.bytes)) = some (some (.int .i64 0), 1, 8) := by kernel_rfl
theorem ElInt : El Tryd.prog 66 3 1 8 := El.of Tryd.underlying66 Tryd.infoInt rfl (by decide)
theorem own_below {w w' : World} {base : Nat} {e : TypeId} {size k : Nat} {v : Value} {xs : List Value} (h : w.ownsRow base e size v k xs) (hb : Below w.heap.size w w') : w'.ownsRow base e size v k xs := by
  refine ⟨h.1, ?_⟩
  rcases h.2 with hn | ⟨g, cap, cur, rfl, h1, h2, rest⟩
  · exact .inl hn
  · exact .inr ⟨g, cap, cur, rfl, h1, by rw [hb.block g (Array.getElem?_eq_some_iff.1 h2).1]; exact h2, rest⟩
/-- A row of the call's own that is being built. -/
def OutAt (T : TypeId) (w : World) (xs : List Value) (o : Value) (wr : World) : Prop := ∃ A c, o = .slice A xs.length c ∧ wr.ownsRow w.heap.size T 1 (.slice A xs.length c) xs.length xs ∧ Below w.heap.size w wr
theorem OutAt.nil (T : TypeId) (w : World) : OutAt T w [] (.slice none 0 0) w := ⟨none, 0, rfl, ⟨rfl, .inl ⟨rfl, rfl⟩⟩, Below.refl _ _⟩
theorem out_app {T : TypeId} {w wr w2 : World} {xs ys : List Value} {A : Option Addr} {N c : Nat} (hb : Below w.heap.size w wr) (hN : xs.length + ys.length = N) (r1 : w2.ownsRow w.heap.size T 1 (.slice A N c) N (xs ++ ys)) (r2 : Keeps w.heap.size [T] wr w2) : OutAt T w (xs ++ ys) (.slice A N c) w2 := by
  subst hN
  exact ⟨A, c, by rw [List.length_append], by rw [List.length_append]; exact r1, hb.trans (r2.below hb.size)⟩
theorem OutAt.later {T : TypeId} {w wr w2 : World} {xs : List Value} {o : Value} (h : OutAt T w xs o wr) (hb : Below wr.heap.size wr w2) : OutAt T w xs o w2 := by
  obtain ⟨A, c, ho, h1, h2⟩ := h
  exact ⟨A, c, ho, own_below h1 hb, h2.trans (hb.mono h2.size)⟩
/-- As it lies. -/
theorem OutAt.arr {α : Type} {E : α → Value} {T : TypeId} {w wr : World} {l : List α} {o : Value} (h : OutAt T w (l.map E) o wr) (hl : l.length ≤ 4611686018427387904) : Arr E wr o l := by
  obtain ⟨A, c, rfl, h1, h2⟩ := h
  rw [List.length_map] at h1 ⊢
  refine ⟨⟨A, c, rfl, fun k x hx => ?_⟩, hl, fun A' n' c' e => ?_⟩
  · rcases own_form h1 with ⟨e, h0⟩ | ⟨b, cap, e, hb, hlt, hcap, _⟩
    · have := (List.getElem?_eq_some_iff.1 hx).1
      omega
    · cases e
      have hk := (List.getElem?_eq_some_iff.1 hx).1
      refine ⟨b, 0, rfl, hlt, ?_⟩
      rw [Nat.zero_add, own_cell h1 k (by omega), List.getElem?_map, hx]
      rfl
  · cases e
    rcases own_form h1 with ⟨e, h0⟩ | ⟨b, cap, e, hb, hlt, hcap, _⟩
    · simp only [Value.slice.injEq] at e
      exact ⟨by omega, fun _ => e.2.2⟩
    · cases e
      exact ⟨hcap, fun e => by cases e⟩
theorem one_src (T : TypeId) (u : Value) (hu : u.oneCell' = true) (y : World) : SrcOK (y.alloc (.cells #[u] T)) (.slice (some ⟨y.heap.size, 0, none⟩) 1 1) 1 1 [u] :=
  SrcOK.blk (c := 1) (cs := [u]) (Blk.new y T _) rfl (fun x hx => by rw [List.mem_singleton.1 hx]; exact hu)
theorem one_src2 (T : TypeId) (u : Value) (hu : u.oneCell' = true) (y : World) (o : Obj) : SrcOK ((y.alloc o).alloc (.cells #[u] T)) (.slice (some ⟨y.heap.size + 1, 0, none⟩) 1 1) 1 1 [u] := by
  have h := one_src T u hu (y.alloc o)
  rwa [show (y.alloc o).heap.size = y.heap.size + 1 by simp] at h
/-- The numbers of rules of a left side, among the first k. -/
def ofTo (l : List Ru) (s : Int) (k : Nat) : List Int := ((List.range k).filter fun i => (l[i]?.map (Gm.left s)).getD false).map Int.ofNat
theorem ofTo_next {l : List Ru} {s : Int} {k : Nat} {r : Ru} (hr : l[k]? = some r) : ofTo l s (k + 1) = ofTo l s k ++ (if r.left = s then [(k : Int)] else []) := by
  unfold ofTo
  rw [List.range_succ, List.filter_append, List.map_append]
  congr 1
  by_cases h : r.left = s
  · simp [List.filter, hr, Gm.left, h]
  · have h2 : (r.left == s) = false := by simp [h]
    simp [List.filter, hr, Gm.left, h, h2]
theorem ofTo_yes {l : List Ru} {s : Int} {k : Nat} {r : Ru} (hr : l[k]? = some r) (h : r.left = s) : ofTo l s (k + 1) = ofTo l s k ++ [(k : Int)] := by rw [ofTo_next hr, if_pos h]
theorem ofTo_no {l : List Ru} {s : Int} {k : Nat} {r : Ru} (hr : l[k]? = some r) (h : ¬ r.left = s) : ofTo l s (k + 1) = ofTo l s k := by rw [ofTo_next hr, if_neg h, List.append_nil]
theorem ofTo_len (l : List Ru) (s : Int) (k : Nat) : (ofTo l s k).length ≤ k := by
  unfold ofTo
  rw [List.length_map]
  have := List.length_filter_le (fun i => (l[i]?.map (Gm.left s)).getD false) (List.range k)
  rwa [List.length_range] at this
def OfEnd (w : World) (v : Value) (xs : List Int) (e : Ending) (w' : World) : Prop := ∃ o, e = .returned o ∧ OutAt 3 (w.alloc (.cells v.cells 30)) (xs.map IntV) o w'
end Go.Proofs.YtnpjhndgdlihjaaDoor

namespace Go.Proofs.YtnpjhndgdlihjaaDoor
open Go.RowKit
set_option linter.unusedVariables false
def AscFrom (l : List Int) (k : Nat) : Prop := ∀ (j : Nat) (x y : Int), k ≤ j + 1 → l[j]? = some x → l[j + 1]? = some y → x ≤ y
theorem AscFrom.start (l : List Int) : AscFrom l l.length := fun j x y h _ hy => by
  have := (List.getElem?_eq_some_iff.1 hy).1
  omega
theorem AscFrom.next {l : List Int} {m : Nat} {x y : Int} (h : AscFrom l (m + 1 + 1)) (hx : l[m]? = some x) (hy : l[m + 1]? = some y) (hxy : ¬ y < x) : AscFrom l (m + 1) := by
  intro j x' y' hj h1 h2
  by_cases e : j = m
  · subst e
    rw [hx] at h1; rw [hy] at h2; cases h1; cases h2; omega
  · exact h j x' y' (by omega) h1 h2
open Classical in
theorem AscFrom.all {l : List Int} (h : AscFrom l 1) : decide (Asc l) = true := by
  rw [decide_eq_true_eq]
  exact fun j x y h1 h2 => h j x y (by omega) h1 h2
open Classical in
theorem asc_not {l : List Int} {m : Nat} {x y : Int} (hx : l[m]? = some x) (hy : l[m + 1]? = some y) (hxy : y < x) : decide (Asc l) = false := by
  rw [decide_eq_false_iff_not]
  intro h
  have := h m x y hx hy
  omega
open Classical in
theorem asc_nil {l : List Int} (h : l.length = 0) : decide (Asc l) = true := by
  rw [List.length_eq_zero_iff] at h
  subst h
  rw [decide_eq_true_eq]
  intro j x y h1
  simp at h1
/-- Places of the first rules of the first k nonterminals. -/
def Gm.firstsTo (g : Gm) (k : Nat) : List Int := (List.range k).map fun i => (g.first i : Int)
theorem Gm.firstsTo_next (g : Gm) (k : Nat) : g.firstsTo (k + 1) = g.firstsTo k ++ [(g.first k : Int)] := by unfold Gm.firstsTo; rw [List.range_succ, List.map_append]; rfl
theorem Gm.firstsTo_len (g : Gm) (k : Nat) : (g.firstsTo k).length = k := by unfold Gm.firstsTo; simp
theorem first_idx (g : Gm) (k : Nat) : (idxL (Gm.left ((g.T.length : Int) + 1 + k)) g.R = (g.first k : Int)) ∨ (idxL (Gm.left ((g.T.length : Int) + 1 + k)) g.R = -1 ∧ g.first k = g.R.length) := by
  unfold idxL Gm.first
  cases h : g.R.any (Gm.left ((g.T.length : Int) + 1 + k)) with
  | true => left; rw [if_pos rfl]
  | false =>
    right
    rw [if_neg (by simp)]
    refine ⟨rfl, List.findIdx_eq_length.2 fun x hx => ?_⟩
    cases hq : Gm.left ((g.T.length : Int) + 1 + k) x with
    | false => rfl
    | true =>
      have : g.R.any (Gm.left ((g.T.length : Int) + 1 + k)) = true := List.any_eq_true.2 ⟨x, hx, hq⟩
      rw [h] at this
      cases this
end Go.Proofs.YtnpjhndgdlihjaaDoor

namespace Go.Proofs.YtnpjhndgdlihjaaDoor
open Go.RowKit
set_option linter.unusedVariables false
theorem Tryd.infoStr : (Tryd.prog.info? 9).map (fun i => (i.zero, i.size, i.bytes)) = some (some (.string ⟨#[]⟩), 1, 16) := by kernel_rfl
theorem ElStr : El Tryd.prog 27 9 1 16 := El.of Tryd.underlying27 Tryd.infoStr rfl (by decide)
theorem str_one (s : ByteArray) : (StrV s).oneCell' = true := rfl
def CatAt (w : World) (xs ys : List Value) (o i : Value) (wr : World) : Prop :=
  (i = .int .i64 0 ∧ OutAt 9 w [] o wr) ∨ (i = .int .i64 1 ∧ OutAt 9 w xs o wr) ∨ (i = .int .i64 2 ∧ OutAt 9 w (xs ++ ys) o wr)
end Go.Proofs.YtnpjhndgdlihjaaDoor

namespace Go.Proofs.YtnpjhndgdlihjaaDoor
open Go.RowKit Go.Maps
set_option linter.unusedVariables false
theorem lawStr : Keyed Tryd.prog 9 := string_keyed Tryd.underlying9
theorem zeroInt (w : World) : (zeroValue 3).run Tryd.prog w = .ok (.int .i64 0) w := by kernel_rfl
def kl (s : ByteArray) : Lit := .string s.data.toList
theorem kl_inj {a b : ByteArray} (h : kl a = kl b) : a = b := by
  unfold kl at h
  injection h with h
  exact ByteArray.ext (Array.ext' h)
/-- What a map of counts knows of the first k of a list. -/
structure Cnt (D : DataW Unit) (L : List ByteArray) (k : Nat) : Prop where
  has : ∀ s, Maps.has D (kl s) = true ↔ s ∈ L.take k
  le : Maps.size D ≤ k
  nodup : Maps.size D = k ↔ (L.take k).Nodup
theorem Cnt.start (L : List ByteArray) : Cnt (.map []) L 0 := ⟨fun s => by simp [Maps.has], by simp [Maps.size], by simp [Maps.size]⟩
theorem key_lit (s : ByteArray) : WideAt.IsKeyLit (kl s) := by unfold kl; simp [WideAt.IsKeyLit]
theorem Cnt.next {D : DataW Unit} {L : List ByteArray} {k : Nat} {s : ByteArray} (h : Cnt D L k) (hs : L[k]? = some s) (ht : Maps.Tidy D) (d : DataW Unit) : Cnt (D.put (kl s) d) L (k + 1) := by
  obtain ⟨hk, rfl⟩ := List.getElem?_eq_some_iff.1 hs
  have htk : L.take (k + 1) = L.take k ++ [L[k]] := List.take_succ_eq_append_getElem hk
  have hsz := Maps.size_put (k := kl L[k]) ht d
  refine ⟨fun s => ?_, ?_, ?_⟩
  · rw [htk]
    by_cases e : s = L[k]
    · subst e
      rw [Maps.has_put_same ht.isMap (key_lit _)]
      exact ⟨fun _ => List.mem_append_right _ (List.mem_singleton.2 rfl), fun _ => rfl⟩
    · rw [Maps.has_put_other (fun hh => e (kl_inj hh)), h.has, List.mem_append, List.mem_singleton]
      exact ⟨.inl, fun hh => hh.resolve_right e⟩
  · have := h.le
    rw [hsz]; split <;> omega
  · rw [htk, List.nodup_append, hsz]
    by_cases hm : L[k] ∈ L.take k
    · rw [if_pos ((h.has _).2 hm)]
      have := h.le
      constructor
      · intro hh; omega
      · rintro ⟨_, _, h3⟩
        exact absurd rfl (h3 L[k] hm L[k] (by simp))
    · rw [if_neg (fun hh => hm ((h.has _).1 hh))]
      constructor
      · intro hh
        refine ⟨h.nodup.1 (by omega), by simp, ?_⟩
        intro a ha b hb
        rw [List.mem_singleton.1 hb]
        rintro rfl
        exact hm ha
      · rintro ⟨h1, _, _⟩
        have := h.nodup.2 h1
        omega
theorem Cnt.all {D : DataW Unit} {L : List ByteArray} (h : Cnt D L L.length) : ((Maps.size D : Int) == (L.length : Int)) = decide L.Nodup := by
  have := h.nodup
  rw [List.take_length] at this
  rw [Bool.eq_iff_iff, beq_iff_eq, decide_eq_true_eq, ← this]
  omega
theorem below_more {w y : World} (h : Below w.heap.size w y) (o : Obj) : Below w.heap.size w (y.alloc o) := h.alloc h.size o
/-- A row beside a map that turns. -/
theorem arr_beside {w wr : World} {o : Value} {L : List ByteArray} {B : Nat} {es : Array MapEntry} {clock : Nat} (h : Arr StrV w o L) (hB : w.heap[B]? = some (.map es clock)) (hg : w.grownBy wr (some B)) : Arr StrV wr o L := by
  obtain ⟨⟨A, c, hv, hc⟩, hs, hro⟩ := h
  refine ⟨⟨A, c, hv, fun k x hx => ?_⟩, hs, hro⟩
  obtain ⟨b, off, hA, hlt, hcell⟩ := hc k x hx
  refine ⟨b, off, hA, Nat.lt_of_lt_of_le hlt hg.size, ?_⟩
  have hne : b ≠ B := by
    rintro rfl
    simp [World.cell?, hB] at hcell
  rw [World.cell?_of_block (w := w) (hg.block b hlt (by simp [hne]))]
  exact hcell
theorem box_beside {w wr : World} {b B : Nat} {v : Value} (h : GBox w b v) (hne : b ≠ B) (hg : w.grownBy wr (some B)) : GBox wr b v :=
  ⟨Nat.lt_of_lt_of_le h.lt hg.size, fun j hj => by rw [World.cell?_of_block (w := w) (hg.block b h.lt (by simp [hne]))]; exact h.cell j hj⟩
theorem owns_below {w w' : World} {B n : Nat} {D : DataW Unit} (h : w.ownsMap Tryd.prog 9 (plainElem Tryd.prog 3) B n D) (hb : Below w.heap.size w w') : w'.ownsMap Tryd.prog 9 (plainElem Tryd.prog 3) B n D := by
  obtain ⟨es, clock, h1, h2, h3, h4⟩ := h
  exact ⟨es, clock, by rw [hb.block B (Array.getElem?_eq_some_iff.1 h1).1]; exact h1, h2, h3, h4⟩
end Go.Proofs.YtnpjhndgdlihjaaDoor

namespace Go.Proofs.YtnpjhndgdlihjaaDoor
open Go.RowKit
set_option linter.unusedVariables false
theorem all_step {α : Type} {p : α → Bool} {l : List α} {k : Nat} {x : α} (h : ∀ j y, j < k → l[j]? = some y → p y = true) (hx : l[k]? = some x) (hp : p x = true) : ∀ j y, j < k + 1 → l[j]? = some y → p y = true := by
  intro j y hj hy
  by_cases e : j = k
  · subst e
    rw [hx] at hy
    cases hy
    exact hp
  · exact h j y (by omega) hy
theorem all_yes {α : Type} {p : α → Bool} {l : List α} (h : ∀ j y, j < l.length → l[j]? = some y → p y = true) : l.all p = true := by
  rw [List.all_eq_true]
  intro x hx
  obtain ⟨k, hk, he⟩ := List.mem_iff_getElem.1 hx
  exact h k x hk (by rw [← he]; exact List.getElem?_eq_getElem hk)
theorem all_no {α : Type} {p : α → Bool} {l : List α} {k : Nat} {x : α} (hx : l[k]? = some x) (hp : p x = false) : l.all p = false := by
  rw [List.all_eq_false]
  exact ⟨x, List.mem_of_getElem? hx, by rw [hp]; simp⟩
theorem texts_eq {a b : ByteArray} (h : a = b) : (a.toList == b.toList) = true := by rw [h]; simp
theorem texts_ne {a b : ByteArray} (h : ¬ a = b) : (a.toList == b.toList) = false := by
  rw [beq_eq_false_iff_ne, bytes_list, bytes_list]
  exact fun e => h (ByteArray.ext (Array.ext' e))
open Classical in
/-- The first place of a text. -/
noncomputable def placeL (l : List ByteArray) (s : ByteArray) : Int := idxL (fun x => decide (x = s)) l
set_option maxRecDepth 100000 in
set_option maxHeartbeats 1600000 in
open Classical in
theorem rplace_any {w : World} {v : Value} {l : List ByteArray} (h : Arr StrV w v l) (s : ByteArray) : Calls Tryd.prog 45 #[v, .string s] w fun e w' => e = .returned (.int .i64 (placeL l s)) ∧ w' = w := by
  obtain ⟨⟨A, c, rfl, hc⟩, hs, _⟩ := h
  have HC := Lib.hid hc
  clear hc
  unfold placeL
  go_enter Tryd.func45, Tryd.ntmps45
  go_wp2
  go_loop [5] (fun i => ∃ k : Nat, k ≤ l.length ∧ i = .int .i64 k ∧ Hid (∀ j y, j < k → l[j]? = some y → decide (y = s) = false)) (fun i => l.length - (intOf i).toNat)
  case atStart => exact ⟨0, Nat.zero_le _, rfl, Lib.hid (fun j y hj => absurd hj (Nat.not_lt_zero _))⟩
  case round =>
    obtain ⟨k, hk, rfl, HA⟩ := hrel
    by_cases hlt : k < l.length
    · have hx := List.getElem?_eq_getElem hlt
      generalize l[k] = x at hx
      obtain ⟨b, off, hA, hb, hcell⟩ := HC.out k x hx
      subst hA
      simp only [StrV] at hcell
      have HX := Lib.hid hx
      clear hx
      by_cases hq : x = s
      · have HI := Lib.hid (idxL_hit HX.out (decide_eq_true hq) HA.out)
        have hq1 := texts_eq hq
        clear hq
        go_wp2
        go_ret
        exact ⟨by rw [HI.out]; rfl, rfl⟩
      · have HN := Lib.hid (not_so HX.out (decide_eq_false hq) HA.out)
        have hq1 := texts_ne hq
        clear hq
        go_wp2
        go_round
        case rel => exact ⟨k + 1, by omega, by go_num, HN⟩
        case measure => simp [intOf]; omega
    · obtain rfl : k = l.length := by omega
      have HI := Lib.hid (idxL_miss HA.out)
      go_wp2
      go_ret
      exact ⟨by rw [HI.out]; rfl, rfl⟩
end Go.Proofs.YtnpjhndgdlihjaaDoor

namespace Go.Proofs.YtnpjhndgdlihjaaDoor
open Go.RowKit
set_option linter.unusedVariables false
theorem rwhite_any (c : UInt8) (w : World) : Calls Tryd.prog 58 #[.int .u8 c.toNat] w fun e w' => e = .returned (.bool (whiteB c)) ∧ w = w' := by
  have hw : whiteB c = ((c.toNat : Int) == 32 || (c.toNat : Int) == 9 || (c.toNat : Int) == 10 || (c.toNat : Int) == 13) := by
    rw [show ((c.toNat : Int) == 32) = (c == 32) from byte_eq c 32 (by decide), show ((c.toNat : Int) == 9) = (c == 9) from byte_eq c 9 (by decide), show ((c.toNat : Int) == 10) = (c == 10) from byte_eq c 10 (by decide), show ((c.toNat : Int) == 13) = (c == 13) from byte_eq c 13 (by decide)]
    rfl
  rw [hw]
  generalize (c.toNat : Int) = n
  clear hw
  cases h1 : (n == 32) <;> cases h2 : (n == 9) <;> cases h3 : (n == 10) <;> cases h4 : (n == 13) <;>
    (go_enter Tryd.func58, Tryd.ntmps58
     go_wp2
     go_ret
     exact ⟨rfl, rfl⟩)
def SpanLet (s : ByteArray) (p k : Nat) : Prop := p + k ≤ s.size ∧ spanBy letB (s.data.toList.drop p) = k + spanBy letB (s.data.toList.drop (p + k))
set_option maxRecDepth 100000 in
set_option maxHeartbeats 1600000 in
theorem rletters_any (s : ByteArray) (hs : s.size ≤ 4611686018427387904) (p : Nat) (hp : p ≤ s.size) (w : World) : Calls Tryd.prog 61 #[.string s, .int .i64 p] w fun e w' => e = .returned (.int .i64 (spanBy letB (s.data.toList.drop p))) ∧ w = w' := by
  go_enter Tryd.func61, Tryd.ntmps61
  go_wp2
  go_loop [5] (fun n => ∃ k : Nat, p + k ≤ s.size ∧ n = .int .i64 k ∧ Hid (SpanLet s p k)) (fun n => s.size - (intOf n).toNat)
  case atStart => exact ⟨0, by omega, rfl, Lib.hid ⟨by omega, by simp⟩⟩
  case round =>
    obtain ⟨k, hk, rfl, HS⟩ := hrel
    by_cases hlt : p + k < s.size
    · have HD := Lib.hid (drop_at s (p + k) hlt)
      have HI := Lib.hid (rclass_any s[p + k] w)
      cases hb : letB s[p + k] with
      | true =>
        have HN : Hid (SpanLet s p (k + 1)) := Lib.hid ⟨by omega, by
          have h1 := HS.out.2
          rw [HD.out, spanBy_cons, if_pos hb] at h1
          rw [h1]
          show k + (spanBy letB (s.data.toList.drop (p + k + 1)) + 1) = k + 1 + spanBy letB (s.data.toList.drop (p + (k + 1)))
          rw [Nat.add_assoc p k 1]; omega⟩
        unfold letB at hb
        generalize classOf s[p + k] = cl at *
        cases h4 : (cl == 4) with
        | true =>
          have q4 : ((cl : Int) != 4) = false := by rw [beq_iff_eq] at h4; subst h4; rfl
          clear hb h4
          go_wp2_with (go_at_call 60; refine HI.out.mono ?_; rintro e w' ⟨rfl, rfl⟩)
          go_round
          case rel => exact ⟨k + 1, by omega, by go_num, HN⟩
          case measure => simp [intOf]; omega
        | false =>
          have q4 : ((cl : Int) != 4) = true := by rw [beq_eq_false_iff_ne] at h4; exact bne_iff_ne.2 (by omega)
          have q3 : ((cl : Int) != 3) = false := by rw [h4, Bool.false_or, beq_iff_eq] at hb; subst hb; rfl
          clear hb h4
          go_wp2_with (go_at_call 60; refine HI.out.mono ?_; rintro e w' ⟨rfl, rfl⟩)
          go_round
          case rel => exact ⟨k + 1, by omega, by go_num, HN⟩
          case measure => simp [intOf]; omega
      | false =>
        have HN : Hid (spanBy letB (s.data.toList.drop p) = k) := Lib.hid (by
          have h1 := HS.out.2
          rw [HD.out, spanBy_cons, hb] at h1
          simpa using h1)
        unfold letB at hb
        generalize classOf s[p + k] = cl at *
        rw [Bool.or_eq_false_iff, beq_eq_false_iff_ne, beq_eq_false_iff_ne] at hb
        have q4 : ((cl : Int) != 4) = true := bne_iff_ne.2 (by omega)
        have q3 : ((cl : Int) != 3) = true := bne_iff_ne.2 (by omega)
        clear hb
        go_wp2_with (go_at_call 60; refine HI.out.mono ?_; rintro e w' ⟨rfl, rfl⟩)
        go_ret
        exact ⟨ret_nat HN.out.symm, rfl⟩
    · have HN : Hid (spanBy letB (s.data.toList.drop p) = k) := Lib.hid (by
        have h1 := HS.out.2
        rw [show s.data.toList.drop (p + k) = [] from List.drop_of_length_le (by simp; omega)] at h1
        simpa [spanBy] using h1)
      go_wp2
      go_ret
      exact ⟨ret_nat HN.out.symm, rfl⟩
/-- How many bytes, or what is wrong; the document's. -/
def RPair (w : World) (r : Except Flt (Nat × Nat)) (e : Ending) (w' : World) : Prop :=
  Below w.heap.size w w' ∧ match r with
  | .ok (k, n) => e = .returned (.tuple #[.int .i64 n, .agg #[.int .i64 0, .int .i64 0]])
  | .error f => e = .returned (.tuple #[.int .i64 0, .agg #[.int .i64 f.1, .int .i64 f.2]])
theorem RPair.errI (w w' : World) (e p : Nat) (q : Int) (h : q = p) (hb : Below w.heap.size w w') : RPair w (.error (e, p)) (.returned (.tuple #[.int .i64 0, .agg #[.int .i64 e, .int .i64 q]])) w' := by subst h; exact ⟨hb, rfl⟩
theorem RPair.yesI (w w' : World) (k n : Nat) (q : Int) (h : q = n) (hb : Below w.heap.size w w') : RPair w (.ok (k, n)) (.returned (.tuple #[.int .i64 q, .agg #[.int .i64 0, .int .i64 0]])) w' := by subst h; exact ⟨hb, rfl⟩
set_option maxRecDepth 100000 in
set_option maxHeartbeats 3200000 in
theorem rquoted_at (s : ByteArray) (hs : s.size ≤ 4611686018427387904) (p : Nat) (hp : p < s.size) (w : World) : Calls Tryd.prog 62 #[.string s, .int .i64 p] w (RPair w (quoteL s.size p (s.data.toList.drop (p + 1)))) := by
  have hd := drop_at s p hp
  go_enter Tryd.func62, Tryd.ntmps62
  go_wp2
  go_loop [6] (fun n => ∃ k : Nat, p + 1 + k ≤ s.size ∧ n = .int .i64 (1 + (k : Int)) ∧ Hid (SpanAt s (p + 1) k)) (fun n => s.size + 1 - (intOf n).toNat)
  case atStart => exact ⟨0, by omega, rfl, Lib.hid ⟨by omega, by simp⟩⟩
  case round =>
    obtain ⟨k, hk, rfl, HS⟩ := hrel
    by_cases hlt : p + (1 + k) < s.size
    · have HD : Hid (s.data.toList.drop (p + 1 + k) = s[p + (1 + k)] :: s.data.toList.drop (p + 1 + k + 1)) := Lib.hid (by
        have := drop_at s (p + 1 + k) (by omega)
        rw [this]
        congr 2
        omega)
      have q1 : ¬ (s.size : Int) ≤ (p : Int) + (1 + (k : Int)) := by omega
      have q2 : (p : Int) + (1 + (k : Int)) < (s.size : Int) := by omega
      have HI := Lib.hid (rinside_any s[p + (1 + k)] (w.alloc (.cells #[.int .i64 0, .int .i64 0] 34)))
      cases hb : insideB s[p + (1 + k)] with
      | true =>
        rw [hb] at HI
        have HN : Hid (SpanAt s (p + 1) (k + 1)) := Lib.hid ⟨by omega, by
          have h1 := HS.out.2
          rw [HD.out, spanL_cons, if_pos hb] at h1
          rw [h1]
          show k + (spanL (s.data.toList.drop (p + 1 + k + 1)) + 1) = k + 1 + spanL (s.data.toList.drop (p + 1 + (k + 1)))
          rw [Nat.add_assoc (p + 1) k 1]; omega⟩
        clear hb hd
        go_wp2_with (go_at_call 88; refine HI.out.mono ?_; rintro e w' ⟨rfl, rfl⟩)
        go_round
        case rel => exact ⟨k + 1, by omega, by go_num, HN⟩
        case measure => simp [intOf]; omega
      | false =>
        rw [hb] at HI
        have hN : spanL (s.data.toList.drop (p + 1)) = k := by
          have h1 := HS.out.2
          rw [HD.out, spanL_cons, hb] at h1
          simpa using h1
        have hg := rest_get s p k hlt
        clear hb hd
        by_cases hc : s[p + (1 + k)] = 39
        · have h6 : ((s[p + (1 + k)].toNat : Int) != 39) = false := by rw [hc]; rfl
          by_cases h3 : k = 0
          · subst h3
            have HQ : Hid (quoteL s.size p (s.data.toList.drop (p + 1)) = .error (2, p + 1 + 0)) := Lib.hid (by
              unfold quoteL
              rw [hN, if_neg (by omega), if_pos (.inr rfl)])
            clear hc hg hN
            go_wp2_with (go_at_call 88; refine HI.out.mono ?_; rintro e w' ⟨rfl, rfl⟩)
            rw [HQ.out]
            refine bodyPost_ret (v := .tuple #[.int .i64 0, .agg #[.int .i64 2, .int .i64 ((p : Int) + 1)]]) (by simp [results, Tryd.results62, go_sem]) rfl (RPair.errI _ _ 2 _ _ (by omega) (below_alloc _ _))
          · have h7 : ((1 : Int) + (k : Int) == 1) = false := beq_eq_false_iff_ne.2 (by omega)
            by_cases h4 : 24 ≤ 1 + k
            · have h5 : 24 < (1 : Int) + (k : Int) + 1 := by omega
              have HQ : Hid (quoteL s.size p (s.data.toList.drop (p + 1)) = .error (5, p)) := Lib.hid (by
                unfold quoteL
                rw [hN, hg, hc, if_neg (by omega), if_neg (by rintro (h | h) <;> simp_all), if_pos h4])
              clear hc hg hN h3 h4
              go_wp2_with (go_at_call 88; refine HI.out.mono ?_; rintro e w' ⟨rfl, rfl⟩)
              rw [HQ.out]
              refine bodyPost_ret (v := .tuple #[.int .i64 0, .agg #[.int .i64 5, .int .i64 (p : Int)]]) (by simp [results, Tryd.results62, go_sem]) rfl (RPair.errI _ _ 5 _ _ rfl (below_alloc _ _))
            · have h5 : ¬ 24 < (1 : Int) + (k : Int) + 1 := by omega
              have HQ : Hid (quoteL s.size p (s.data.toList.drop (p + 1)) = .ok (2, k + 2)) := Lib.hid (by
                unfold quoteL
                rw [hN, hg, hc, if_neg (by omega), if_neg (by rintro (h | h) <;> simp_all), if_neg h4])
              clear hc hg hN h3 h4
              go_wp2_with (go_at_call 88; refine HI.out.mono ?_; rintro e w' ⟨rfl, rfl⟩)
              rw [HQ.out]
              refine bodyPost_ret (v := .tuple #[.int .i64 ((1 : Int) + (k : Int) + 1), .agg #[.int .i64 0, .int .i64 0]]) (by simp [results, Tryd.results62, go_sem]) rfl (RPair.yesI _ _ 2 _ _ (by omega) (below_alloc _ _))
        · have h6 : ((s[p + (1 + k)].toNat : Int) != 39) = true := by
            rw [bne_iff_ne]
            intro e
            exact hc (UInt8.toNat_inj.1 (by show s[p + (1 + k)].toNat = 39; omega))
          have HQ : Hid (quoteL s.size p (s.data.toList.drop (p + 1)) = .error (2, p + 1 + k)) := Lib.hid (by
            unfold quoteL
            rw [hN, if_neg (by omega), if_pos (.inl (by rw [hg]; simpa using hc))])
          clear hc hg hN
          go_wp2_with (go_at_call 88; refine HI.out.mono ?_; rintro e w' ⟨rfl, rfl⟩)
          rw [HQ.out]
          refine bodyPost_ret (v := .tuple #[.int .i64 0, .agg #[.int .i64 2, .int .i64 ((p : Int) + (1 + (k : Int)))]]) (by simp [results, Tryd.results62, go_sem]) rfl (RPair.errI _ _ 2 _ _ (by omega) (below_alloc _ _))
    · have hN : spanL (s.data.toList.drop (p + 1)) = k := by
        have h1 := HS.out.2
        rw [show s.data.toList.drop (p + 1 + k) = [] from List.drop_of_length_le (by simp; omega)] at h1
        simpa [spanL] using h1
      have HQ : Hid (quoteL s.size p (s.data.toList.drop (p + 1)) = .error (4, s.size)) := Lib.hid (by
        unfold quoteL
        rw [hN, if_pos (by omega)])
      have q1 : (s.size : Int) ≤ (p : Int) + (1 + (k : Int)) := by omega
      have q2 : ¬ (p : Int) + (1 + (k : Int)) < (s.size : Int) := by omega
      clear hN hd
      go_wp2
      rw [HQ.out]
      refine bodyPost_ret (v := .tuple #[.int .i64 0, .agg #[.int .i64 4, .int .i64 (s.size : Int)]]) (by simp [results, Tryd.results62, go_sem]) rfl (RPair.errI _ _ 4 _ _ rfl (below_alloc _ _))
/-- No end of a comment from here up to there. -/
def NoEnd (s : ByteArray) (p k : Nat) : Prop := ∀ j, j < k → Lib.occAt (s.data.toList.drop (p + 2)) [42, 47] j = false
theorem occ_two (l : List UInt8) (j : Nat) : Lib.occAt l [42, 47] j = (l[j]? == some 42 && l[j + 1]? == some 47) := by
  unfold Lib.occAt
  rw [← List.head?_drop, ← List.head?_drop (i := j + 1), ← List.drop_drop]
  cases l.drop j with
  | nil => rfl
  | cons a t =>
    cases t with
    | nil => simp [List.isPrefixOf]
    | cons b u => simp [List.isPrefixOf, Bool.beq_comm (a := a), Bool.beq_comm (a := b)]
theorem index_found {l : List UInt8} {k : Nat} (h1 : Lib.occAt l [42, 47] k = true) (h2 : ∀ j, j < k → Lib.occAt l [42, 47] j = false) : Lib.index l [42, 47] = k := by
  rcases Lib.index_spec l [42, 47] with ⟨_, h⟩ | ⟨i, h, _, h3, h4⟩
  · have := h k (by rcases Lib.occAt_room h1 with h | h <;> first | (simp at h; omega) | cases h)
    rw [h1] at this; cases this
  · rw [h]
    have a1 : ¬ k < i := fun hk => by have := h4 k hk; rw [h1] at this; cases this
    have a2 : ¬ i < k := fun hk => by have := h2 i hk; rw [h3] at this; cases this
    omega
theorem index_none {l : List UInt8} {k : Nat} (hk : l.length ≤ k + 1) (h2 : ∀ j, j < k → Lib.occAt l [42, 47] j = false) : Lib.index l [42, 47] < 0 := by
  rcases Lib.index_spec l [42, 47] with ⟨h, _⟩ | ⟨i, h, _, h3, h4⟩
  · omega
  · exfalso
    have := h2 i (by rcases Lib.occAt_room h3 with h | h <;> first | (simp at h; omega) | cases h)
    rw [h3] at this; cases this
set_option maxRecDepth 100000 in
set_option maxHeartbeats 3200000 in
theorem rcomment_at (s : ByteArray) (hs : s.size ≤ 8192) (p : Nat) (hp : p < s.size) (w : World) : Calls Tryd.prog 59 #[.string s, .int .i64 p] w (RPair w (commentL s.size p (s.data.toList.drop (p + 1)))) := by
  by_cases h1 : p + 1 < s.size
  · have hh : (s.data.toList.drop (p + 1)).head? = some s[p + 1] := by rw [List.head?_drop]; exact get_some s _ h1
    have q1 : ¬ (s.size : Int) ≤ (p : Int) + 1 := by omega
    by_cases hc : s[p + 1] = 42
    · have h6 : ((s[p + 1].toNat : Int) != 42) = false := by rw [hc]; rfl
      have HC : Hid (commentL s.size p (s.data.toList.drop (p + 1)) = if Lib.index (s.data.toList.drop (p + 2)) [42, 47] < 0 then .error (4, s.size) else .ok (0, (Lib.index (s.data.toList.drop (p + 2)) [42, 47]).toNat + 4)) := Lib.hid (by
        unfold commentL
        rw [if_pos (by rw [hh, hc]), drop_two])
      clear hh hc
      go_enter Tryd.func59, Tryd.ntmps59
      go_wp2
      go_loop [6] (fun n => ∃ q : Nat, p + 2 ≤ q ∧ q ≤ s.size + 1 ∧ n = .int .i64 q ∧ Hid (NoEnd s p (q - (p + 2)))) (fun n => s.size + 1 - (intOf n).toNat)
      case atStart => exact ⟨p + 2, by omega, by omega, by go_num, Lib.hid (fun j hj => absurd hj (by omega))⟩
      case round =>
        obtain ⟨q, hq2, hk, rfl, HS⟩ := hrel
        by_cases hlt : q + 1 < s.size
        · have q2 : (q : Int) + 1 < (s.size : Int) := by omega
          have q3 : (q : Int) < (s.size : Int) := by omega
          have hocc : Lib.occAt (s.data.toList.drop (p + 2)) [42, 47] (q - (p + 2)) = (s[q] == 42 && s[q + 1] == 47) := by
            rw [occ_two, List.getElem?_drop, List.getElem?_drop, show p + 2 + (q - (p + 2)) = q by omega, get_some s q (by omega), show p + 2 + (q - (p + 2) + 1) = q + 1 by omega, get_some s (q + 1) hlt]
            simp
          have e42 : ((s[q].toNat : Int) == 42) = (s[q] == 42) := byte_eq _ 42 (by decide)
          have e47 : ((s[q + 1].toNat : Int) == 47) = (s[q + 1] == 47) := byte_eq _ 47 (by decide)
          cases b1 : (s[q] == 42) with
          | false =>
            rw [b1] at e42 hocc
            have HN : Hid (NoEnd s p (q + 1 - (p + 2))) := Lib.hid (fun j hj => by
              rcases Nat.lt_or_ge j (q - (p + 2)) with h | h
              · exact HS.out j h
              · obtain rfl : j = q - (p + 2) := by omega
                rw [hocc]; rfl)
            clear hocc b1 e47
            go_wp2
            go_round
            case rel => exact ⟨q + 1, by omega, by omega, by go_num, HN⟩
            case measure => simp [intOf]; omega
          | true =>
            cases b2 : (s[q + 1] == 47) with
            | false =>
              rw [b1] at e42
              rw [b2] at e47
              rw [b1, b2] at hocc
              have HN : Hid (NoEnd s p (q + 1 - (p + 2))) := Lib.hid (fun j hj => by
                rcases Nat.lt_or_ge j (q - (p + 2)) with h | h
                · exact HS.out j h
                · obtain rfl : j = q - (p + 2) := by omega
                  rw [hocc]; rfl)
              clear hocc b1 b2
              go_wp2
              go_round
              case rel => exact ⟨q + 1, by omega, by omega, by go_num, HN⟩
              case measure => simp [intOf]; omega
            | true =>
              rw [b1] at e42
              rw [b2] at e47
              rw [b1, b2] at hocc
              have HI : Hid (commentL s.size p (s.data.toList.drop (p + 1)) = .ok (0, q - (p + 2) + 4)) := Lib.hid (by
                rw [HC.out, index_found hocc HS.out, if_neg (by omega)]
                rfl)
              clear hocc b1 b2
              go_wp2
              rw [HI.out]
              refine bodyPost_ret (v := .tuple #[.int .i64 ((q : Int) + 2 - (p : Int)), .agg #[.int .i64 0, .int .i64 0]]) (by simp [results, Tryd.results59, go_sem]) rfl (RPair.yesI _ _ 0 _ _ (by omega) (below_alloc _ _))
        · have HI : Hid (commentL s.size p (s.data.toList.drop (p + 1)) = .error (4, s.size)) := Lib.hid (by
            rw [HC.out, if_pos (index_none (k := q - (p + 2)) (by simp; omega) HS.out)])
          have q2 : ¬ (q : Int) + 1 < (s.size : Int) := by omega
          go_wp2
          rw [HI.out]
          refine bodyPost_ret (v := .tuple #[.int .i64 0, .agg #[.int .i64 4, .int .i64 (s.size : Int)]]) (by simp [results, Tryd.results59, go_sem]) rfl (RPair.errI _ _ 4 _ _ rfl (below_alloc _ _))
    · have h6 : ((s[p + 1].toNat : Int) != 42) = true := by
        rw [bne_iff_ne]
        intro e
        exact hc (UInt8.toNat_inj.1 (by show s[p + 1].toNat = 42; omega))
      have HC : Hid (commentL s.size p (s.data.toList.drop (p + 1)) = .error (2, p)) := Lib.hid (by
        unfold commentL
        rw [if_neg (by rw [hh]; simpa using hc)])
      clear hh hc
      go_enter Tryd.func59, Tryd.ntmps59
      go_wp2
      rw [HC.out]
      refine bodyPost_ret (v := .tuple #[.int .i64 0, .agg #[.int .i64 2, .int .i64 (p : Int)]]) (by simp [results, Tryd.results59, go_sem]) rfl (RPair.errI _ _ 2 _ _ rfl (below_alloc _ _))
  · have hh : (s.data.toList.drop (p + 1)).head? = none := by rw [List.head?_drop]; simp; omega
    have q1 : (s.size : Int) ≤ (p : Int) + 1 := by omega
    have HC : Hid (commentL s.size p (s.data.toList.drop (p + 1)) = .error (2, p)) := Lib.hid (by
      unfold commentL
      rw [if_neg (by rw [hh]; simp)])
    clear hh
    go_enter Tryd.func59, Tryd.ntmps59
    go_wp2
    rw [HC.out]
    refine bodyPost_ret (v := .tuple #[.int .i64 0, .agg #[.int .i64 2, .int .i64 (p : Int)]]) (by simp [results, Tryd.results59, go_sem]) rfl (RPair.errI _ _ 2 _ _ rfl (below_alloc _ _))
end Go.Proofs.YtnpjhndgdlihjaaDoor

namespace Go.Proofs.YtnpjhndgdlihjaaDoor
open Go.RowKit
set_option linter.unusedVariables false
/-- A kind, how many bytes, or what is wrong; the document's. -/
def ROne (w : World) (r : Except Flt (Nat × Nat)) (e : Ending) (w' : World) : Prop :=
  Below w.heap.size w w' ∧ match r with
  | .ok (k, n) => e = .returned (.tuple #[.int .i64 k, .int .i64 n, .agg #[.int .i64 0, .int .i64 0]])
  | .error f => ∃ k : Int, e = .returned (.tuple #[.int .i64 k, .int .i64 0, .agg #[.int .i64 f.1, .int .i64 f.2]])
theorem ROne.errI (w w' : World) (k : Int) (e p : Nat) (q : Int) (h : q = p) (hb : Below w.heap.size w w') : ROne w (.error (e, p)) (.returned (.tuple #[.int .i64 k, .int .i64 0, .agg #[.int .i64 e, .int .i64 q]])) w' := by subst h; exact ⟨hb, k, rfl⟩
theorem ROne.yesI (w w' : World) (k n : Nat) (q : Int) (h : q = n) (hb : Below w.heap.size w w') : ROne w (.ok (k, n)) (.returned (.tuple #[.int .i64 k, .int .i64 q, .agg #[.int .i64 0, .int .i64 0]])) w' := by subst h; exact ⟨hb, rfl⟩
set_option maxRecDepth 100000 in
set_option maxHeartbeats 1600000 in
theorem rmark_at (s : ByteArray) (hs : s.size ≤ 8192) (p : Nat) (hp : p < s.size) (w : World) : Calls Tryd.prog 63 #[.string s, .int .i64 p] w (ROne w (markL p (s.data.toList.drop (p + 1)))) := by
  have HSP := Lib.hid (rletters_any s (by omega) (p + 1) (by omega) (w.alloc (.cells #[.int .i64 0, .int .i64 0] 34)))
  have hk : spanBy letB (s.data.toList.drop (p + 1)) ≤ s.size - (p + 1) := by
    have := spanBy_le letB (s.data.toList.drop (p + 1))
    simp only [List.length_drop, len_size] at this
    omega
  have hlen : (s.data.toList.drop (p + 1)).length = s.size - (p + 1) := by rw [List.length_drop, len_size]
  have htk := extract_take s (p + 1) (spanBy letB (s.data.toList.drop (p + 1)))
  have hi1 : (p : Int) + 1 = ((p + 1 : Nat) : Int) := by omega
  rw [← hi1] at HSP
  have body : (s.data.toList.drop (p + 1)).head? ≠ some 37 → (∀ h : p + 1 < s.size, ((s[p + 1].toNat : Int) == 37) = false) → Calls Tryd.prog 63 #[.string s, .int .i64 p] w (ROne w (markL p (s.data.toList.drop (p + 1)))) := by
    intro h37 hq
    have h5 : (s.data.toList.drop (p + 1)).take (spanBy letB (s.data.toList.drop (p + 1))) = [116, 111, 107, 101, 110] → spanBy letB (s.data.toList.drop (p + 1)) = 5 := fun h => by
      have := congrArg List.length h
      rw [List.length_take] at this
      simp only [List.length_cons, List.length_nil] at this
      omega
    have h6 : (s.data.toList.drop (p + 1)).take (spanBy letB (s.data.toList.drop (p + 1))) = [115, 116, 97, 114, 116] → spanBy letB (s.data.toList.drop (p + 1)) = 5 := fun h => by
      have := congrArg List.length h
      rw [List.length_take] at this
      simp only [List.length_cons, List.length_nil] at this
      omega
    unfold markL
    rw [if_neg h37]
    clear h37 hlen
    generalize spanBy letB (s.data.toList.drop (p + 1)) = k at *
    rw [← htk]
    rw [← htk] at h5 h6
    have b1 : (p : Int) + 1 + (k : Int) ≤ (s.size : Int) := by omega
    have b2 : p + 1 + k ≤ s.size := by omega
    generalize hx : s.extract (p + 1) (p + 1 + k) = x at *
    have hxx : x.toList = x.data.toList := Lib.toList_data x
    cases hT : (x.toList == [116, 111, 107, 101, 110]) with
    | true =>
      have hx5 := beq_iff_eq.1 hT
      rw [hxx] at hx5
      rw [if_pos hx5, h5 hx5]
      subst hx
      clear hxx htk hi1 h5 h6 hx5
      by_cases h1 : p + 1 < s.size
      · have q0 := hq h1
        have q1 : (p : Int) + 1 < (s.size : Int) := by omega
        clear hq
        go_enter Tryd.func63, Tryd.ntmps63
        go_wp2_with (go_at_call 61; refine HSP.out.mono ?_; rintro e w' ⟨rfl, rfl⟩)
        refine bodyPost_ret (v := .tuple #[.int .i64 7, .int .i64 6, .agg #[.int .i64 0, .int .i64 0]]) (by simp [results, Tryd.results63, go_sem]) rfl (ROne.yesI _ _ 7 _ _ rfl (below_alloc _ _))
      · have q1 : ¬ (p : Int) + 1 < (s.size : Int) := by omega
        clear hq
        go_enter Tryd.func63, Tryd.ntmps63
        go_wp2_with (go_at_call 61; refine HSP.out.mono ?_; rintro e w' ⟨rfl, rfl⟩)
        refine bodyPost_ret (v := .tuple #[.int .i64 7, .int .i64 6, .agg #[.int .i64 0, .int .i64 0]]) (by simp [results, Tryd.results63, go_sem]) rfl (ROne.yesI _ _ 7 _ _ rfl (below_alloc _ _))
    | false =>
      rw [if_neg (by rw [← hxx]; simpa using hT)]
      cases hS : (x.toList == [115, 116, 97, 114, 116]) with
      | true =>
        have hx5 := beq_iff_eq.1 hS
        rw [hxx] at hx5
        rw [if_pos hx5, h6 hx5]
        subst hx
        clear hxx htk hi1 h5 h6 hx5
        by_cases h1 : p + 1 < s.size
        · have q0 := hq h1
          have q1 : (p : Int) + 1 < (s.size : Int) := by omega
          clear hq
          go_enter Tryd.func63, Tryd.ntmps63
          go_wp2_with (go_at_call 61; refine HSP.out.mono ?_; rintro e w' ⟨rfl, rfl⟩)
          refine bodyPost_ret (v := .tuple #[.int .i64 8, .int .i64 6, .agg #[.int .i64 0, .int .i64 0]]) (by simp [results, Tryd.results63, go_sem]) rfl (ROne.yesI _ _ 8 _ _ rfl (below_alloc _ _))
        · have q1 : ¬ (p : Int) + 1 < (s.size : Int) := by omega
          clear hq
          go_enter Tryd.func63, Tryd.ntmps63
          go_wp2_with (go_at_call 61; refine HSP.out.mono ?_; rintro e w' ⟨rfl, rfl⟩)
          refine bodyPost_ret (v := .tuple #[.int .i64 8, .int .i64 6, .agg #[.int .i64 0, .int .i64 0]]) (by simp [results, Tryd.results63, go_sem]) rfl (ROne.yesI _ _ 8 _ _ rfl (below_alloc _ _))
      | false =>
        rw [if_neg (by rw [← hxx]; simpa using hS)]
        subst hx
        clear hxx htk hi1 h5 h6
        by_cases h1 : p + 1 < s.size
        · have q0 := hq h1
          have q1 : (p : Int) + 1 < (s.size : Int) := by omega
          clear hq
          go_enter Tryd.func63, Tryd.ntmps63
          go_wp2_with (go_at_call 61; refine HSP.out.mono ?_; rintro e w' ⟨rfl, rfl⟩)
          refine bodyPost_ret (v := .tuple #[.int .i64 0, .int .i64 0, .agg #[.int .i64 2, .int .i64 (p : Int)]]) (by simp [results, Tryd.results63, go_sem]) rfl (ROne.errI _ _ 0 2 _ _ rfl (below_alloc _ _))
        · have q1 : ¬ (p : Int) + 1 < (s.size : Int) := by omega
          clear hq
          go_enter Tryd.func63, Tryd.ntmps63
          go_wp2_with (go_at_call 61; refine HSP.out.mono ?_; rintro e w' ⟨rfl, rfl⟩)
          refine bodyPost_ret (v := .tuple #[.int .i64 0, .int .i64 0, .agg #[.int .i64 2, .int .i64 (p : Int)]]) (by simp [results, Tryd.results63, go_sem]) rfl (ROne.errI _ _ 0 2 _ _ rfl (below_alloc _ _))
  by_cases h1 : p + 1 < s.size
  · have hh : (s.data.toList.drop (p + 1)).head? = some s[p + 1] := by rw [List.head?_drop]; exact get_some s _ h1
    have e37 : ((s[p + 1].toNat : Int) == 37) = (s[p + 1] == 37) := byte_eq _ 37 (by decide)
    cases hc : (s[p + 1] == 37) with
    | true =>
      rw [hc] at e37
      have hcc := beq_iff_eq.1 hc
      unfold markL
      rw [if_pos (by rw [hh, hcc])]
      have q1 : (p : Int) + 1 < (s.size : Int) := by omega
      clear hh hc hcc body HSP hk hlen htk hi1
      go_enter Tryd.func63, Tryd.ntmps63
      go_wp2
      refine bodyPost_ret (v := .tuple #[.int .i64 6, .int .i64 2, .agg #[.int .i64 0, .int .i64 0]]) (by simp [results, Tryd.results63, go_sem]) rfl (ROne.yesI _ _ 6 _ _ rfl (below_alloc _ _))
    | false =>
      rw [hc] at e37
      exact body (by rw [hh]; simpa using hc) (fun _ => e37)
  · exact body (by rw [List.head?_drop, List.getElem?_eq_none (by simp; omega)]; simp) (fun h => absurd h h1)
end Go.Proofs.YtnpjhndgdlihjaaDoor

namespace Go.Proofs.YtnpjhndgdlihjaaDoor
open Go.RowKit
set_option linter.unusedVariables false
/-- The token at a place; white bytes are passed over one by one. -/
def oneD (sz p : Nat) : List UInt8 → Except Flt (Nat × Nat)
  | [] => .ok (0, 0)
  | c :: r => if whiteB c then .ok (0, 1) else oneL sz p (c :: r)
/-- A callee's world behind the result's own cell. -/
theorem res_facts {w w1 : World} {x0 x1 : Value} {T : TypeId} (hb : Below (w.alloc (.cells #[x0, x1] T)).heap.size (w.alloc (.cells #[x0, x1] T)) w1) :
    Below w.heap.size w w1 ∧ w.heap.size < w1.heap.size ∧ w1.cell? ⟨w.heap.size, 0, none⟩ = some x0 ∧ w1.cell? ⟨w.heap.size, 1, none⟩ = some x1 ∧ w1.frozen? ⟨w.heap.size, 0, none⟩ = false ∧ w1.frozen? ⟨w.heap.size, 1, none⟩ = false := by
  have hs := hb.size
  simp at hs
  refine ⟨(below_alloc w _).trans (hb.mono (by simp)), by omega, ?_, ?_, ?_, ?_⟩
  · rw [hb.cell (p := ⟨w.heap.size, 0, none⟩) (by simp)]; simp
  · rw [hb.cell (p := ⟨w.heap.size, 1, none⟩) (by simp)]; simp
  · rw [hb.frozen (p := ⟨w.heap.size, 0, none⟩) (by simp)]; simp
  · rw [hb.frozen (p := ⟨w.heap.size, 1, none⟩) (by simp)]; simp
/-- The result's cell, behind its two stores and a new block. -/
theorem res_cells {w1 : World} {b : Nat} {x0 x1 x y : Value} (hlt : b < w1.heap.size) (c0 : w1.cell? ⟨b, 0, none⟩ = some x0) (c1 : w1.cell? ⟨b, 1, none⟩ = some x1) (o : Obj) :
    ((((w1.setCell ⟨b, 0, none⟩ x).setCell ⟨b, 1, none⟩ y).alloc o).drew).cell? ⟨b, 0, none⟩ = some x ∧ ((((w1.setCell ⟨b, 0, none⟩ x).setCell ⟨b, 1, none⟩ y).alloc o).drew).cell? ⟨b, 1, none⟩ = some y := by
  have h1 : ((w1.setCell ⟨b, 0, none⟩ x).setCell ⟨b, 1, none⟩ y).cell? ⟨b, 0, none⟩ = some x := by
    rw [World.cell?_setCell_other _ _ _ _ (by simp), World.cell?_setCell_same _ _ _ c0]
  have h2 : ((w1.setCell ⟨b, 0, none⟩ x).setCell ⟨b, 1, none⟩ y).cell? ⟨b, 1, none⟩ = some y :=
    World.cell?_setCell_same _ _ _ (u := x1) (by rw [World.cell?_setCell_other _ _ _ _ (by simp), c1])
  exact ⟨((below_alloc _ o).cell (p := ⟨b, 0, none⟩) (World.block_lt_of_cell? _ _ h1)).trans h1, ((below_alloc _ o).cell (p := ⟨b, 1, none⟩) (World.block_lt_of_cell? _ _ h2)).trans h2⟩
theorem res_below {w w1 : World} {x y : Value} (hb : Below w.heap.size w w1) (o : Obj) : Below w.heap.size w ((((w1.setCell ⟨w.heap.size, 0, none⟩ x).setCell ⟨w.heap.size, 1, none⟩ y).alloc o).drew) :=
  ((((hb.setCell (by simp) _).setCell (by simp) _).alloc (by simpa using hb.size) _).trans ⟨rfl, rfl, rfl, Nat.le_refl _, fun _ _ => rfl⟩)
set_option maxRecDepth 100000 in
set_option maxHeartbeats 3200000 in
theorem rone_at (s : ByteArray) (hs : s.size ≤ 8192) (p : Nat) (hp : p < s.size) (w : World) : Calls Tryd.prog 39 #[.string s, .int .i64 p] w (ROne w (oneD s.size p (s.data.toList.drop p))) := by
  have HW := Lib.hid (rwhite_any s[p] (w.alloc (.cells #[.int .i64 0, .int .i64 0] 34)))
  have e47 : ((s[p].toNat : Int) == 47) = (s[p] == 47) := byte_eq s[p] 47 (by decide)
  have e39 : ((s[p].toNat : Int) == 39) = (s[p] == 39) := byte_eq s[p] 39 (by decide)
  have e37 : ((s[p].toNat : Int) == 37) = (s[p] == 37) := byte_eq s[p] 37 (by decide)
  have e58 : ((s[p].toNat : Int) == 58) = (s[p] == 58) := byte_eq s[p] 58 (by decide)
  have e124 : ((s[p].toNat : Int) == 124) = (s[p] == 124) := byte_eq s[p] 124 (by decide)
  have e59 : ((s[p].toNat : Int) == 59) = (s[p] == 59) := byte_eq s[p] 59 (by decide)
  have hd := drop_at s p hp
  unfold oneD
  rw [hd]
  simp only
  cases hw : whiteB s[p] with
  | true =>
    rw [hw] at HW
    rw [if_pos rfl]
    clear hw hd e47 e39 e37 e58 e124 e59
    go_enter Tryd.func39, Tryd.ntmps39
    go_wp2_with (go_at_call 58; refine HW.out.mono ?_; rintro e w' ⟨rfl, rfl⟩)
    refine bodyPost_ret (v := .tuple #[.int .i64 0, .int .i64 1, .agg #[.int .i64 0, .int .i64 0]]) (by simp [results, Tryd.results39, go_sem]) rfl (ROne.yesI _ _ 0 1 _ rfl (below_alloc _ _))
  | false =>
  rw [hw] at HW
  rw [if_neg (by decide)]
  unfold oneL
  simp only
  rw [hw, if_neg (by decide), ← hd]
  clear hw hd
  by_cases h47 : s[p] = 47
  · rw [if_pos h47]
    rw [show (s[p] == 47) = true from beq_iff_eq.2 h47] at e47
    have HC := Lib.hid (rcomment_at s hs p hp (w.alloc (.cells #[.int .i64 0, .int .i64 0] 34)))
    have hk := @commentL_kind s.size p (s.data.toList.drop (p + 1))
    generalize commentL s.size p (s.data.toList.drop (p + 1)) = res at *
    clear h47 e39 e37 e58 e124 e59
    cases res with
    | ok q =>
      obtain ⟨k, n⟩ := q
      obtain rfl := hk k n rfl
      go_enter Tryd.func39, Tryd.ntmps39
      go_wp2_with (first
        | (go_at_call 58; refine HW.out.mono ?_; rintro e w' ⟨rfl, rfl⟩)
        | (go_at_call 59; refine HC.out.mono ?_; rintro e w1 ⟨hb, rfl⟩; obtain ⟨hB, hlt, c0, c1, f0, f1⟩ := res_facts hb; have HB := Lib.hid hB; clear hb hB))
      go_region
      go_wp2
      refine bodyPost_ret (v := .tuple #[.int .i64 0, .int .i64 n, .agg #[.int .i64 0, .int .i64 0]]) (by have hz := res_cells (x := .int .i64 0) (y := .int .i64 0) hlt c0 c1 (.cells #[.int .i64 0, .int .i64 0] 34); simp [results, Tryd.results39, go_sem, hz.1, hz.2]) rfl (ROne.yesI _ _ 0 n _ rfl (res_below HB.out _))
    | error f =>
      obtain ⟨f1', f2'⟩ := f
      go_enter Tryd.func39, Tryd.ntmps39
      go_wp2_with (first
        | (go_at_call 58; refine HW.out.mono ?_; rintro e w' ⟨rfl, rfl⟩)
        | (go_at_call 59; refine HC.out.mono ?_; rintro e w1 ⟨hb, rfl⟩; obtain ⟨hB, hlt, c0, c1, f0, f1⟩ := res_facts hb; have HB := Lib.hid hB; clear hb hB))
      go_region
      go_wp2
      refine bodyPost_ret (v := .tuple #[.int .i64 0, .int .i64 0, .agg #[.int .i64 (f1' : Int), .int .i64 (f2' : Int)]]) (by have hz := res_cells (x := .int .i64 (f1' : Int)) (y := .int .i64 (f2' : Int)) hlt c0 c1 (.cells #[.int .i64 (f1' : Int), .int .i64 (f2' : Int)] 34); simp [results, Tryd.results39, go_sem, hz.1, hz.2]) rfl (ROne.errI _ _ _ _ _ _ rfl (res_below HB.out _))
  rw [if_neg h47]
  rw [show (s[p] == 47) = false from beq_eq_false_iff_ne.2 h47] at e47
  have HCL := Lib.hid (rclass_any s[p] (w.alloc (.cells #[.int .i64 0, .int .i64 0] 34)))
  by_cases h39 : s[p] = 39
  · rw [if_pos h39]
    rw [show (s[p] == 39) = true from beq_iff_eq.2 h39] at e39
    rw [show classOf s[p] = 6 by rw [h39]; decide] at HCL
    have HC := Lib.hid (rquoted_at s (by omega) p hp (w.alloc (.cells #[.int .i64 0, .int .i64 0] 34)))
    have hk := @quoteL_kind s.size p (s.data.toList.drop (p + 1))
    generalize quoteL s.size p (s.data.toList.drop (p + 1)) = res at *
    clear h47 h39 e37 e58 e124 e59
    cases res with
    | ok q =>
      obtain ⟨k, n⟩ := q
      obtain rfl := hk k n rfl
      go_enter Tryd.func39, Tryd.ntmps39
      go_wp2_with (first
        | (go_at_call 58; refine HW.out.mono ?_; rintro e w' ⟨rfl, rfl⟩)
        | (go_at_call 60; refine HCL.out.mono ?_; rintro e w' ⟨rfl, rfl⟩)
        | (go_at_call 62; refine HC.out.mono ?_; rintro e w1 ⟨hb, rfl⟩; obtain ⟨hB, hlt, c0, c1, f0, f1⟩ := res_facts hb; have HB := Lib.hid hB; clear hb hB))
      go_region
      go_wp2
      refine bodyPost_ret (v := .tuple #[.int .i64 2, .int .i64 n, .agg #[.int .i64 0, .int .i64 0]]) (by have hz := res_cells (x := .int .i64 0) (y := .int .i64 0) hlt c0 c1 (.cells #[.int .i64 0, .int .i64 0] 34); simp [results, Tryd.results39, go_sem, hz.1, hz.2]) rfl (ROne.yesI _ _ 2 n _ rfl (res_below HB.out _))
    | error f =>
      obtain ⟨f1', f2'⟩ := f
      go_enter Tryd.func39, Tryd.ntmps39
      go_wp2_with (first
        | (go_at_call 58; refine HW.out.mono ?_; rintro e w' ⟨rfl, rfl⟩)
        | (go_at_call 60; refine HCL.out.mono ?_; rintro e w' ⟨rfl, rfl⟩)
        | (go_at_call 62; refine HC.out.mono ?_; rintro e w1 ⟨hb, rfl⟩; obtain ⟨hB, hlt, c0, c1, f0, f1⟩ := res_facts hb; have HB := Lib.hid hB; clear hb hB))
      go_region
      go_wp2
      refine bodyPost_ret (v := .tuple #[.int .i64 2, .int .i64 0, .agg #[.int .i64 (f1' : Int), .int .i64 (f2' : Int)]]) (by have hz := res_cells (x := .int .i64 (f1' : Int)) (y := .int .i64 (f2' : Int)) hlt c0 c1 (.cells #[.int .i64 (f1' : Int), .int .i64 (f2' : Int)] 34); simp [results, Tryd.results39, go_sem, hz.1, hz.2]) rfl (ROne.errI _ _ _ _ _ _ rfl (res_below HB.out _))
  rw [if_neg h39]
  rw [show (s[p] == 39) = false from beq_eq_false_iff_ne.2 h39] at e39
  by_cases h37 : s[p] = 37
  · rw [if_pos h37]
    rw [show (s[p] == 37) = true from beq_iff_eq.2 h37] at e37
    rw [show (s[p] == 58) = false by rw [h37]; rfl] at e58
    rw [show (s[p] == 124) = false by rw [h37]; rfl] at e124
    rw [show (s[p] == 59) = false by rw [h37]; rfl] at e59
    rw [show classOf s[p] = 8 by rw [h37]; decide] at HCL
    have HC := Lib.hid (rmark_at s hs p hp (w.alloc (.cells #[.int .i64 0, .int .i64 0] 34)))
    generalize markL p (s.data.toList.drop (p + 1)) = res at *
    clear h47 h39 h37
    cases res with
    | ok q =>
      obtain ⟨k, n⟩ := q
      go_enter Tryd.func39, Tryd.ntmps39
      go_wp2_with (first
        | (go_at_call 58; refine HW.out.mono ?_; rintro e w' ⟨rfl, rfl⟩)
        | (go_at_call 60; refine HCL.out.mono ?_; rintro e w' ⟨rfl, rfl⟩)
        | (go_at_call 63; refine HC.out.mono ?_; rintro e w1 ⟨hb, rfl⟩; obtain ⟨hB, hlt, c0, c1, f0, f1⟩ := res_facts hb; have HB := Lib.hid hB; clear hb hB))
      refine bodyPost_ret (v := .tuple #[.int .i64 k, .int .i64 n, .agg #[.int .i64 0, .int .i64 0]]) (by simp [results, Tryd.results39, go_sem, c0, c1]) rfl (ROne.yesI _ _ k n _ rfl ((HB.out.setCell (by simp) _).setCell (by simp) _))
    | error f =>
      obtain ⟨f1', f2'⟩ := f
      go_enter Tryd.func39, Tryd.ntmps39
      go_wp2_with (first
        | (go_at_call 58; refine HW.out.mono ?_; rintro e w' ⟨rfl, rfl⟩)
        | (go_at_call 60; refine HCL.out.mono ?_; rintro e w' ⟨rfl, rfl⟩)
        | (go_at_call 63; refine HC.out.mono ?_; rintro e w1 ⟨hb, k, rfl⟩; obtain ⟨hB, hlt, c0, c1, f0, f1⟩ := res_facts hb; have HB := Lib.hid hB; clear hb hB))
      refine bodyPost_ret (v := .tuple #[.int .i64 k, .int .i64 0, .agg #[.int .i64 (f1' : Int), .int .i64 (f2' : Int)]]) (by simp [results, Tryd.results39, go_sem, c0, c1]) rfl (ROne.errI _ _ _ _ _ _ rfl ((HB.out.setCell (by simp) _).setCell (by simp) _))
  rw [if_neg h37]
  rw [show (s[p] == 37) = false from beq_eq_false_iff_ne.2 h37] at e37
  by_cases h4 : classOf s[p] = 4
  · rw [if_pos h4]
    rw [h4] at HCL
    have HSP := Lib.hid (rletters_any s (by omega) p (by omega) (w.alloc (.cells #[.int .i64 0, .int .i64 0] 34)))
    generalize spanBy letB (s.data.toList.drop p) = k at *
    clear h47 h39 h37 h4 e39 e37 e58 e124 e59
    by_cases h24 : 24 < k
    · rw [if_pos h24]
      have q24 : (24 : Int) < (k : Int) := by omega
      clear h24
      go_enter Tryd.func39, Tryd.ntmps39
      go_wp2_with (first
        | (go_at_call 58; refine HW.out.mono ?_; rintro e w' ⟨rfl, rfl⟩)
        | (go_at_call 60; refine HCL.out.mono ?_; rintro e w' ⟨rfl, rfl⟩)
        | (go_at_call 61; refine HSP.out.mono ?_; rintro e w' ⟨rfl, rfl⟩))
      refine bodyPost_ret (v := .tuple #[.int .i64 0, .int .i64 0, .agg #[.int .i64 5, .int .i64 (p : Int)]]) (by simp [results, Tryd.results39, go_sem]) rfl (ROne.errI _ _ 0 5 _ _ rfl (below_alloc _ _))
    · rw [if_neg h24]
      have q24 : ¬ (24 : Int) < (k : Int) := by omega
      clear h24
      go_enter Tryd.func39, Tryd.ntmps39
      go_wp2_with (first
        | (go_at_call 58; refine HW.out.mono ?_; rintro e w' ⟨rfl, rfl⟩)
        | (go_at_call 60; refine HCL.out.mono ?_; rintro e w' ⟨rfl, rfl⟩)
        | (go_at_call 61; refine HSP.out.mono ?_; rintro e w' ⟨rfl, rfl⟩))
      refine bodyPost_ret (v := .tuple #[.int .i64 1, .int .i64 (k : Int), .agg #[.int .i64 0, .int .i64 0]]) (by simp [results, Tryd.results39, go_sem]) rfl (ROne.yesI _ _ 1 k _ rfl (below_alloc _ _))
  rw [if_neg h4]
  have q4 : ((classOf s[p] : Int) == 4) = false := beq_eq_false_iff_ne.2 (by omega)
  generalize classOf s[p] = cl at *
  clear h47 h39 h37 h4
  unfold signL
  by_cases h58 : s[p] = 58
  · rw [show (s[p] == 58) = true from beq_iff_eq.2 h58] at e58
    rw [if_pos h58, if_pos (by decide)]
    clear h58 e124 e59
    go_enter Tryd.func39, Tryd.ntmps39
    go_wp2_with (first
      | (go_at_call 58; refine HW.out.mono ?_; rintro e w' ⟨rfl, rfl⟩)
      | (go_at_call 60; refine HCL.out.mono ?_; rintro e w' ⟨rfl, rfl⟩))
    refine bodyPost_ret (v := .tuple #[.int .i64 3, .int .i64 1, .agg #[.int .i64 0, .int .i64 0]]) (by simp [results, Tryd.results39, go_sem]) rfl (ROne.yesI _ _ 3 1 _ rfl (below_alloc _ _))
  rw [if_neg h58]
  rw [show (s[p] == 58) = false from beq_eq_false_iff_ne.2 h58] at e58
  by_cases h124 : s[p] = 124
  · rw [show (s[p] == 124) = true from beq_iff_eq.2 h124] at e124
    rw [if_pos h124, if_pos (by decide)]
    clear h58 h124 e59
    go_enter Tryd.func39, Tryd.ntmps39
    go_wp2_with (first
      | (go_at_call 58; refine HW.out.mono ?_; rintro e w' ⟨rfl, rfl⟩)
      | (go_at_call 60; refine HCL.out.mono ?_; rintro e w' ⟨rfl, rfl⟩))
    refine bodyPost_ret (v := .tuple #[.int .i64 4, .int .i64 1, .agg #[.int .i64 0, .int .i64 0]]) (by simp [results, Tryd.results39, go_sem]) rfl (ROne.yesI _ _ 4 1 _ rfl (below_alloc _ _))
  rw [if_neg h124]
  rw [show (s[p] == 124) = false from beq_eq_false_iff_ne.2 h124] at e124
  by_cases h59 : s[p] = 59
  · rw [show (s[p] == 59) = true from beq_iff_eq.2 h59] at e59
    rw [if_pos h59, if_pos (by decide)]
    clear h58 h124 h59
    go_enter Tryd.func39, Tryd.ntmps39
    go_wp2_with (first
      | (go_at_call 58; refine HW.out.mono ?_; rintro e w' ⟨rfl, rfl⟩)
      | (go_at_call 60; refine HCL.out.mono ?_; rintro e w' ⟨rfl, rfl⟩))
    refine bodyPost_ret (v := .tuple #[.int .i64 5, .int .i64 1, .agg #[.int .i64 0, .int .i64 0]]) (by simp [results, Tryd.results39, go_sem]) rfl (ROne.yesI _ _ 5 1 _ rfl (below_alloc _ _))
  rw [if_neg h59]
  rw [show (s[p] == 59) = false from beq_eq_false_iff_ne.2 h59] at e59
  rw [if_neg (by decide)]
  clear h58 h124 h59
  go_enter Tryd.func39, Tryd.ntmps39
  go_wp2_with (first
    | (go_at_call 58; refine HW.out.mono ?_; rintro e w' ⟨rfl, rfl⟩)
    | (go_at_call 60; refine HCL.out.mono ?_; rintro e w' ⟨rfl, rfl⟩))
  refine bodyPost_ret (v := .tuple #[.int .i64 0, .int .i64 0, .agg #[.int .i64 2, .int .i64 (p : Int)]]) (by simp [results, Tryd.results39, go_sem]) rfl (ROne.errI _ _ 0 2 _ _ rfl (below_alloc _ _))
end Go.Proofs.YtnpjhndgdlihjaaDoor

namespace Go.Proofs.YtnpjhndgdlihjaaDoor
open Go.RowKit
set_option linter.unusedVariables false
theorem toks_fuel (sz : Nat) : ∀ (f f' p : Nat) (l : List UInt8), sz = p + l.length → l.length < f → l.length < f' → toksL sz f p l = toksL sz f' p l := by
  intro f
  induction f with
  | zero => intro f' p l _ h; omega
  | succ f ih =>
    intro f' p l hsz h1 h2
    cases f' with
    | zero => omega
    | succ f' =>
      simp only [toksL]
      cases l with
      | nil => rfl
      | cons c r =>
        cases ho : oneL sz p (c :: r) with
        | error e => rfl
        | ok q =>
          obtain ⟨k, n⟩ := q
          have a1 := (one_ok ho).2 (by simp)
          have a2 := one_len ho hsz
          simp only [List.length_cons] at a2 h1 h2 hsz
          simp only
          rw [ih f' (p + n) ((c :: r).drop n) (by simp; omega) (by simp; omega) (by simp; omega)]
theorem toks_white {sz f p m : Nat} {l : List UInt8} (hl : l ≠ []) (ho : oneL sz p l = .ok (0, m)) : toksL sz (f + 1) p l = toksL sz f (p + m) (l.drop m) := by
  have he : l.isEmpty = false := by cases l with | nil => exact absurd rfl hl | cons a r => rfl
  simp only [toksL, he, ho]
  cases toksL sz f (p + m) (l.drop m) <;> rfl
theorem TokAt.white {s : ByteArray} {p : Nat} {acc : List Tk} (h : TokAt s p acc) (hp : p < s.size) (hw : whiteB s[p] = true) : TokAt s (p + 1) acc := by
  obtain ⟨f, hf, h⟩ := h
  refine ⟨s.size, by omega, ?_⟩
  rw [h]
  congr 1
  have hd := drop_at s p hp
  have hlen : (s.data.toList.drop (p + 1)).length = s.size - (p + 1) := by rw [List.length_drop, len_size]
  generalize s.data.toList.drop (p + 1) = r at *
  rw [hd]
  obtain ⟨g, rfl⟩ : ∃ g, f = g + 1 := ⟨f - 1, by omega⟩
  have ho : oneL s.size p (s[p] :: r) = .ok (0, spanBy whiteB r + 1) := by
    unfold oneL
    simp only
    rw [hw, if_pos rfl, spanBy_cons, if_pos hw]
  rw [toks_white (by simp) ho, List.drop_succ_cons]
  have hsp := spanBy_le whiteB r
  cases r with
  | nil => exact toks_fuel _ _ _ _ _ (by simp [spanBy] at hlen ⊢; omega) (by simp [spanBy] at hlen ⊢; omega) (by simp [spanBy] at hlen ⊢; omega)
  | cons c t =>
    simp only [List.length_cons] at hlen hsp
    cases hc : whiteB c with
    | false =>
      have h0 : spanBy whiteB (c :: t) = 0 := by rw [spanBy_cons, hc]; rfl
      rw [h0]
      exact toks_fuel _ _ _ _ _ (by simp; omega) (by simp; omega) (by simp; omega)
    | true =>
      have ho2 : oneL s.size (p + 1) (c :: t) = .ok (0, spanBy whiteB (c :: t)) := by
        unfold oneL
        simp only
        rw [hc, if_pos rfl]
      obtain ⟨g2, hg2⟩ : ∃ g2, s.size = g2 + 1 := ⟨s.size - 1, by omega⟩
      have hr : toksL s.size s.size (p + 1) (c :: t) = toksL s.size (g2 + 1) (p + 1) (c :: t) := by rw [← hg2]
      rw [hr, toks_white (by simp) ho2, show p + (spanBy whiteB (c :: t) + 1) = p + 1 + spanBy whiteB (c :: t) by omega]
      have h1 : 1 ≤ spanBy whiteB (c :: t) := by rw [spanBy_cons, hc]; simp
      exact toks_fuel _ _ _ _ _ (by simp; omega) (by simp; omega) (by simp; omega)
theorem one_err {sz p : Nat} {l : List UInt8} {f : Flt} (h : oneL sz p l = .error f) : f.1 ≠ 0 := by
  unfold oneL at h
  cases l with
  | nil => cases h
  | cons c r =>
    simp only at h
    unfold commentL quoteL markL at h
    repeat' (first | (cases h; done) | (cases h; simp; done) | split at h)
/-- A step of the document's. -/
theorem TokAt.stepD {s : ByteArray} {p : Nat} {acc : List Tk} (h : TokAt s p acc) (hp : p < s.size) :
    match oneD s.size p (s.data.toList.drop p) with
    | .error e => e.1 ≠ 0 ∧ toksL s.size (s.size + 1) 0 s.data.toList = .error e
    | .ok (k, n) => 0 < n ∧ p + n ≤ s.size ∧ TokAt s (p + n) (if k = 0 then acc else acc ++ [⟨k, (s.data.toList.drop p).take n, p⟩]) := by
  have hd := drop_at s p hp
  cases hw : whiteB s[p] with
  | true =>
    have ho : oneD s.size p (s.data.toList.drop p) = .ok (0, 1) := by rw [hd]; unfold oneD; simp only; rw [hw]; rfl
    rw [ho]
    exact ⟨by omega, by omega, h.white hp hw⟩
  | false =>
    have ho : oneD s.size p (s.data.toList.drop p) = oneL s.size p (s.data.toList.drop p) := by rw [hd]; unfold oneD; simp only; rw [hw]; rfl
    rw [ho]
    have hs := h.step hp
    cases he : oneL s.size p (s.data.toList.drop p) with
    | error e => rw [he] at hs; exact ⟨one_err he, hs⟩
    | ok q => obtain ⟨k, n⟩ := q; rw [he] at hs; exact hs
/-- What the document's tokens come to: an error, or none. -/
def RAll (w : World) (r : Except Flt (List Tk)) (e : Ending) (w' : World) : Prop :=
  Below w.heap.size w w' ∧ ∃ v, match r with
  | .ok _ => e = .returned (.tuple #[v, .agg #[.int .i64 0, .int .i64 0]])
  | .error f => f.1 ≠ 0 ∧ e = .returned (.tuple #[v, .agg #[.int .i64 f.1, .int .i64 f.2]])
end Go.Proofs.YtnpjhndgdlihjaaDoor
