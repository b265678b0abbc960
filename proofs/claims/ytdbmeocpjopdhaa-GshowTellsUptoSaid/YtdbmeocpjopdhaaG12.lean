/- No name stands twice: the program's, by a map. -/
import Derived.Test.YtdbmeocpjopdhaaG10
import Derived.Test.YtdbmeocpjopdhaaG11
import Derived.Maps.Own
import Derived.Maps.OwnOps
import Derived.Maps.OwnSet
import Derived.Maps.Views
import Derived.StringKeys
namespace Go.Proofs.Ytdbmeocpjopdhaa
open Go.RowKit Go.Maps
set_option linter.unusedVariables false
theorem lawStr : Keyed Try.prog 9 := string_keyed Try.underlying9
theorem zeroInt (w : World) : (zeroValue 3).run Try.prog w = .ok (.int .i64 0) w := by kernel_rfl
def kl (s : ByteArray) : Lit := .string s.data.toList
theorem kl_inj {a b : ByteArray} (h : kl a = kl b) : a = b := by
  unfold kl at h
  injection h with h
  exact ByteArray.ext (Array.ext' h)
/-- What a map of counts knows of the first k of a list. -/
structure Cnt (D : DataW Unit) (L : List ByteArray) (k : Nat) : Prop where
  has : ∀ s, Maps.has D (kl s) = true ↔ s ∈ L.take k
  le : Maps.size D ≤ k
  nodup : Maps.size D = k ↔ (L.take k).Nodup
theorem Cnt.start (L : List ByteArray) : Cnt (.map []) L 0 := ⟨fun s => by simp [Maps.has], by simp [Maps.size], by simp [Maps.size]⟩
theorem key_lit (s : ByteArray) : WideAt.IsKeyLit (kl s) := by unfold kl; simp [WideAt.IsKeyLit]
theorem Cnt.next {D : DataW Unit} {L : List ByteArray} {k : Nat} {s : ByteArray} (h : Cnt D L k) (hs : L[k]? = some s) (ht : Maps.Tidy D) (d : DataW Unit) : Cnt (D.put (kl s) d) L (k + 1) := by
  obtain ⟨hk, rfl⟩ := List.getElem?_eq_some_iff.1 hs
  have htk : L.take (k + 1) = L.take k ++ [L[k]] := List.take_succ_eq_append_getElem hk
  have hsz := Maps.size_put (k := kl L[k]) ht d
  refine ⟨fun s => ?_, ?_, ?_⟩
  · rw [htk]
    by_cases e : s = L[k]
    · subst e
      rw [Maps.has_put_same ht.isMap (key_lit _)]
      exact ⟨fun _ => List.mem_append_right _ (List.mem_singleton.2 rfl), fun _ => rfl⟩
    · rw [Maps.has_put_other (fun hh => e (kl_inj hh)), h.has, List.mem_append, List.mem_singleton]
      exact ⟨.inl, fun hh => hh.resolve_right e⟩
  · have := h.le
    rw [hsz]; split <;> omega
  · rw [htk, List.nodup_append, hsz]
    by_cases hm : L[k] ∈ L.take k
    · rw [if_pos ((h.has _).2 hm)]
      have := h.le
      constructor
      · intro hh; omega
      · rintro ⟨_, _, h3⟩
        exact absurd rfl (h3 L[k] hm L[k] (by simp))
    · rw [if_neg (fun hh => hm ((h.has _).1 hh))]
      constructor
      · intro hh
        refine ⟨h.nodup.1 (by omega), by simp, ?_⟩
        intro a ha b hb
        rw [List.mem_singleton.1 hb]
        rintro rfl
        exact hm ha
      · rintro ⟨h1, _, _⟩
        have := h.nodup.2 h1
        omega
theorem Cnt.all {D : DataW Unit} {L : List ByteArray} (h : Cnt D L L.length) : ((Maps.size D : Int) == (L.length : Int)) = decide L.Nodup := by
  have := h.nodup
  rw [List.take_length] at this
  rw [Bool.eq_iff_iff, beq_iff_eq, decide_eq_true_eq, ← this]
  omega
theorem below_more {w y : World} (h : Below w.heap.size w y) (o : Obj) : Below w.heap.size w (y.alloc o) := h.alloc h.size o
/-- A row beside a map that turns. -/
theorem arr_beside {w wr : World} {o : Value} {L : List ByteArray} {B : Nat} {es : Array MapEntry} {clock : Nat} (h : Arr StrV w o L) (hB : w.heap[B]? = some (.map es clock)) (hg : w.grownBy wr (some B)) : Arr StrV wr o L := by
  obtain ⟨⟨A, c, hv, hc⟩, hs, hro⟩ := h
  refine ⟨⟨A, c, hv, fun k x hx => ?_⟩, hs, hro⟩
  obtain ⟨b, off, hA, hlt, hcell⟩ := hc k x hx
  refine ⟨b, off, hA, Nat.lt_of_lt_of_le hlt hg.size, ?_⟩
  have hne : b ≠ B := by
    rintro rfl
    simp [World.cell?, hB] at hcell
  rw [World.cell?_of_block (w := w) (hg.block b hlt (by simp [hne]))]
  exact hcell
theorem box_beside {w wr : World} {b B : Nat} {v : Value} (h : GBox w b v) (hne : b ≠ B) (hg : w.grownBy wr (some B)) : GBox wr b v :=
  ⟨Nat.lt_of_lt_of_le h.lt hg.size, fun j hj => by rw [World.cell?_of_block (w := w) (hg.block b h.lt (by simp [hne]))]; exact h.cell j hj⟩
theorem owns_below {w w' : World} {B n : Nat} {D : DataW Unit} (h : w.ownsMap Try.prog 9 (plainElem Try.prog 3) B n D) (hb : Below w.heap.size w w') : w'.ownsMap Try.prog 9 (plainElem Try.prog 3) B n D := by
  obtain ⟨es, clock, h1, h2, h3, h4⟩ := h
  exact ⟨es, clock, by rw [hb.block B (Array.getElem?_eq_some_iff.1 h1).1]; exact h1, h2, h3, h4⟩
set_option maxRecDepth 100000 in
set_option maxHeartbeats 6400000 in
theorem once_any {w : World} {v : Value} {g : Gm} (h : GrR w v g) : Calls Try.prog 27 #[v] w (Says w g.once) := by
  have hsm := h.small
  have hT20 := hsm.2.2.1
  have hN20 := hsm.2.2.2.1
  have hmm := @run_makeMap Try.prog
  have HG := Lib.hid (GBox.new w 25 v)
  have HTOP := Lib.hid (fun y (hy : Below w.heap.size w y) => top_any (h.later hy))
  obtain ⟨AT, cT, AN, cN, AR, cR, rfl, hT, hN, hR⟩ := h.open_
  have HCON : Hid (∀ y B, Below w.heap.size w y → y.cell? ⟨B, 0, none⟩ = some (.slice AT g.T.length cT) → y.cell? ⟨B, 1, none⟩ = some (.slice AN g.N.length cN) → Calls Try.prog 55 #[.slice (some ⟨B, 0, none⟩) 2 2] y fun e w' => ∃ o, e = .returned o ∧ Arr StrV w' o (g.T ++ g.N) ∧ Below y.heap.size y w') := Lib.hid (fun y B hy h0 h1 =>
    (concat_any (hT.later hy) (hN.later hy) hT20 hN20 h0 h1).mono fun e w' ⟨o, he, ho⟩ => ⟨o, he, ho.arr (by rw [List.length_append]; omega), ho.elim fun _ ⟨_, _, _, hb⟩ => hb⟩)
  have HSZ : Hid (∀ s ∈ g.T ++ g.N, s.size ≤ maxLen) := Lib.hid (fun s hs => by
    unfold maxLen
    rcases List.mem_append.1 hs with hh | hh
    · have := hsm.1 s hh; omega
    · have := hsm.2.1 s hh; omega)
  have HLEN : Hid ((g.T ++ g.N).length = g.T.length + g.N.length) := Lib.hid List.length_append
  have HONCE : Hid (g.once = decide (g.T ++ g.N).Nodup) := Lib.hid rfl
  clear h hT hN hR hsm
  generalize g.T ++ g.N = L at *
  generalize g.T.length = nT at *
  generalize g.N.length = nN at *
  generalize g.R.length = nR at *
  generalize g.s = gs at *
  generalize g.once = res at *
  go_enter Try.func27, Try.ntmps27
  go_wp2_with fail
  refine (HCON.out _ _ (below_more (below_more (below_alloc w _) _) _) ?_ ?_).mono ?_
  · exact (World.cell?_alloc_at _ _ _ _ (by simp)).trans rfl
  · exact (World.cell?_alloc_at _ _ _ _ (by simp)).trans rfl
  rintro e w2 ⟨o, rfl, ho, hb2⟩
  obtain ⟨⟨A, c, rfl, hc⟩, _⟩ := id ho
  have HARR := Lib.hid ho
  have hmap0 := World.ownsMap_made (w.alloc (.cells #[.slice AT nT cT, .slice AN nN cN, .slice AR nR cR, .int .i64 gs] 25)) Try.prog 9 (plainElem (H := Unit) Try.prog 3)
  have hB1 : (w.alloc (.cells #[.slice AT nT cT, .slice AN nN cN, .slice AR nR cR, .int .i64 gs] 25)).heap.size = w.heap.size + 1 := by simp
  rw [hB1] at hmap0
  have HOWN := Lib.hid (owns_below (owns_below hmap0 (below_alloc _ _)) hb2)
  have HB2 := Lib.hid ((below_more (below_more (below_alloc w _) _) _).trans (hb2.mono (below_more (below_more (below_alloc w _) _) _).size))
  have HG2 := Lib.hid ((((HG.out.later (below_alloc _ _)).later (below_alloc _ _))).later hb2)
  have hlen := HLEN.out
  clear hb2 hmap0 hB1 ho hc
  go_wp2
  go_loopw [14] (fun i wr => ∃ k : Nat, k ≤ L.length ∧ i = .int .i64 k ∧ Hid (w2.grownBy wr (some (w.heap.size + 1))) ∧ ∃ D : DataW Unit, Hid (wr.ownsMap Try.prog 9 (plainElem Try.prog 3) (w.heap.size + 1) k D) ∧ Hid (Cnt D L k)) (fun i _ => L.length - (intOf i).toNat)
  case atStart => exact ⟨0, Nat.zero_le _, rfl, Lib.hid (World.grownBy.refl _ _), _, HOWN, Lib.hid (Cnt.start L)⟩
  case round =>
    obtain ⟨k, hk, rfl, HGR, D, HO, HC⟩ := hrel
    have hws := HB2.out.size
    have hwr := HGR.out.size
    by_cases hlt : k < L.length
    · have hs := List.getElem?_eq_getElem hlt
      generalize L[k] = s at hs
      have HKEY := Lib.hid (WideMaps.keyOf_string_mk Try.underlying9 (HSZ.out s (List.mem_of_getElem? hs)))
      obtain ⟨es, clock, hbm, _⟩ := HOWN.out
      obtain ⟨⟨A', c', e, hc'⟩, _⟩ := arr_beside HARR.out hbm HGR.out
      cases e
      obtain ⟨b, off, rfl, hlt0, hcell⟩ := hc' k s hs
      have HC3 := Lib.hid (fun d => HC.out.next hs (HO.out.tidy lawStr) d)
      clear hbm hc' hs
      simp only [StrV] at hcell
      go_wp2_with (first
        | (at_lookup; refine wpList_lookup_own_int _ rfl _ _ 62 rfl 9 3 .i64 lawStr Try.underlying62 Try.underlying3 (zeroInt _) (w.heap.size + 1) k _ rfl HO.out _ _ rfl HKEY.out ?_; intro c hat hwc)
        | (at_mapUpdate; refine wpList_mapUpdate_own _ rfl _ _ _ 62 rfl 9 3 lawStr Try.underlying62 _ (w.heap.size + 1) k _ rfl HO.out (by unfold maxLen; omega) _ _ _ rfl rfl HKEY.out _ [] (plainElem_int Try.underlying3 (wrap64_wf _)) ?_; intro w3 hown3 hgrow3; have HGR3 := Lib.hid (HGR.out.trans hgrow3); have HO3 := Lib.hid hown3; clear hown3 hgrow3))
      go_roundw
      case rel => exact ⟨k + 1, by omega, by go_num, HGR3, _, HO3, Lib.hid (HC3.out _)⟩
      case measure => simp [intOf]; omega
    · obtain rfl : k = L.length := by omega
      have hb3 := HB2.out.grown HGR.out HB2.out.size (fun j hj => by cases hj; omega)
      obtain ⟨d0, d1, d2, d3⟩ := (box_beside HG2.out (by omega) HGR.out).four
      have HT := Lib.hid (HTOP.out wr hb3)
      have HALL := Lib.hid HC.out.all
      have HB3 := Lib.hid hb3
      clear hb3
      go_wp2_with (first
        | (at_len; refine wpList_len_own _ rfl _ 62 rfl 9 3 Try.underlying62 _ (w.heap.size + 1) L.length _ rfl HO.out ?_)
        | (go_at_call 33; refine HT.out.mono ?_; rintro e w4 ⟨rfl, hb4⟩; have HB4 := Lib.hid (HB3.out.trans (hb4.mono HB3.out.size)); clear hb4))
      go_ret
      refine ⟨ret_bool ?_, HB4.out⟩
      rw [HONCE.out, ← HALL.out, hlen]
      simp
end Go.Proofs.Ytdbmeocpjopdhaa
