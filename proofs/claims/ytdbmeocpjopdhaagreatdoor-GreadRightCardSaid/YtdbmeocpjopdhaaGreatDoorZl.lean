/- IndexFunc, ContainsFunc, all: of rows of texts, numbers, rules. Symbols of a grammar, and what is known of a rule. What Check asks of each name and each rule. No two rules are the same: the program's. No two rules are the same: the program's, all of them. -/
import Derived.Test.YtdbmeocpjopdhaaGreatDoorZb
import Derived.Shelf.Abstract
import Derived.Deep.RegionWith
import Derived.BigQuiet
import Derived.Deep.QuietTactic
import Derived.Deep.RegionHeld3
namespace Go.Proofs.YtdbmeocpjopdhaaGreatDoor
open Go.RowKit
set_option linter.unusedVariables false
theorem not_so {α : Type} {p : α → Bool} {l : List α} {k : Nat} {x : α} (hx : l[k]? = some x) (hp : p x = false) (hA : ∀ j y, j < k → l[j]? = some y → p y = false) : ∀ j y, j < k + 1 → l[j]? = some y → p y = false := by
  intro j y hj hy
  by_cases e : j = k
  · subst e
    rw [hx] at hy
    cases hy
    exact hp
  · exact hA j y (by omega) hy
theorem says_bool {w w' : World} {a b : Bool} {e : Ending} (h : Says w a e w') (hab : a = b) : Says w b e w' := hab ▸ h
set_option maxRecDepth 100000 in
set_option maxHeartbeats 2000000 in
theorem idxS_any {w : World} {v : Value} {l : List ByteArray} (H : Arr StrV w v l) (p : ByteArray → Bool) (g : Nat) (lb : Array Value) (eg : ∀ args y, (callFunc g args).run Tryz.prog y = .ok (.enter g args) y)
    (hp : ∀ x ∈ l, ∀ y, Below w.heap.size w y → Calls Tryz.prog g (#[StrV x] ++ lb) y (Says y (p x))) :
    Calls Tryz.prog 81 #[v, .func (.func g) #[] lb] w fun e w' => e = .returned (.int .i64 (idxL p l)) ∧ Below w.heap.size w w' := by
  obtain ⟨⟨A, c, rfl, hc⟩, hs⟩ := H
  have HC := Lib.hid hc
  have HP := Lib.hid hp
  clear hc hp
  go_enter Tryz.func81, Tryz.ntmps81
  go_wp2
  go_loopw [5, 8] (fun _ i wr => ∃ k : Nat, k ≤ l.length ∧ i = .int .i64 k ∧ Hid (∀ j y, j < k → l[j]? = some y → p y = false) ∧ Hid (Below w.heap.size w wr)) (fun _ i _ => l.length - (intOf i).toNat)
  case atStart => exact ⟨0, Nat.zero_le _, rfl, Lib.hid (fun j y hj => absurd hj (Nat.not_lt_zero _)), Lib.hid (Below.refl _ w)⟩
  case round =>
    obtain ⟨k, hk, rfl, HA, HB⟩ := hrel
    by_cases hlt : k < l.length
    · have hx := List.getElem?_eq_getElem hlt
      generalize l[k] = x at hx
      have hm := List.mem_of_getElem? hx
      obtain ⟨b, off, rfl, hlt0, hcell⟩ := HC.out k x hx
      have hcw := (HB.out.cell (p := ⟨b, off + k, none⟩) hlt0).trans hcell
      have HCALL := Lib.hid (HP.out x hm wr HB.out)
      simp only [StrV] at *
      have HX := Lib.hid hx
      clear hx hcell hm
      cases hq : p x with
      | true =>
        rw [hq] at HCALL
        have HI := Lib.hid (idxL_hit HX.out hq HA.out)
        clear hq
        go_wp2_with (go_at_fn g; refine HCALL.out.mono ?_; rintro e w' ⟨rfl, hb'⟩; have HB' := Lib.hid (HB.out.trans (hb'.mono HB.out.size)); clear hb')
        go_ret
        exact ⟨by rw [HI.out]; rfl, HB'.out⟩
      | false =>
        rw [hq] at HCALL
        have HN := Lib.hid (not_so HX.out hq HA.out)
        clear hq
        go_wp2_with (go_at_fn g; refine HCALL.out.mono ?_; rintro e w' ⟨rfl, hb'⟩; have HB' := Lib.hid (HB.out.trans (hb'.mono HB.out.size)); clear hb')
        go_roundw
        case rel => exact ⟨k + 1, by omega, by go_num, HN, HB'⟩
        case measure => simp [intOf]; omega
    · obtain rfl : k = l.length := by omega
      have HI := Lib.hid (idxL_miss HA.out)
      go_wp2
      go_ret
      exact ⟨by rw [HI.out]; rfl, HB.out⟩
theorem conS_any {w : World} {v : Value} {l : List ByteArray} (H : Arr StrV w v l) (p : ByteArray → Bool) (g : Nat) (lb : Array Value) (eg : ∀ args y, (callFunc g args).run Tryz.prog y = .ok (.enter g args) y)
    (hp : ∀ x ∈ l, ∀ y, Below w.heap.size w y → Calls Tryz.prog g (#[StrV x] ++ lb) y (Says y (p x))) :
    Calls Tryz.prog 49 #[v, .func (.func g) #[] lb] w (Says w (l.any p)) := by
  have HI := Lib.hid (idxS_any H p g lb eg hp)
  have HE := Lib.hid (idxL_any p l)
  generalize l.any p = a at *
  generalize idxL p l = n at *
  clear H hp
  go_enter Tryz.func49, Tryz.ntmps49
  go_wp2_with fail
  refine HI.out.mono ?_
  rintro e w' ⟨rfl, hb⟩
  have HB := Lib.hid hb
  clear hb
  go_wp2
  go_ret
  exact ⟨ret_bool (by rw [← HE.out]), HB.out⟩
theorem allSq_any (g : Nat) (lb : Array Value) (eg : ∀ args y, (callFunc g args).run Tryz.prog y = .ok (.enter g args) y) (x : ByteArray) (b : Bool) (B : Nat) (w : World) (hcell : w.cell? ⟨B, 0, none⟩ = some (.func (.func g) #[] lb))
    (hp : ∀ y, Below w.heap.size w y → Calls Tryz.prog g (#[StrV x] ++ lb) y (Says y b)) : Calls Tryz.prog 50 #[StrV x, .pointer (some ⟨B, 0, none⟩)] w (Says w (!b)) := by
  have HC := Lib.hid (hp w (Below.refl _ w))
  clear hp
  simp only [StrV] at *
  go_enter Tryz.func50, Tryz.ntmps50
  go_wp2_with (go_at_fn g; refine HC.out.mono ?_; rintro e w' ⟨rfl, hb'⟩; have HB' := Lib.hid hb'; clear hb')
  go_ret
  exact ⟨rfl, HB'.out⟩
theorem allS_any {w : World} {v : Value} {l : List ByteArray} (H : Arr StrV w v l) (p : ByteArray → Bool) (g : Nat) (lb : Array Value) (eg : ∀ args y, (callFunc g args).run Tryz.prog y = .ok (.enter g args) y)
    (hp : ∀ x ∈ l, ∀ y, Below w.heap.size w y → Calls Tryz.prog g (#[StrV x] ++ lb) y (Says y (p x))) :
    Calls Tryz.prog 21 #[v, .func (.func g) #[] lb] w (Says w (l.all p)) := by
  have HC := Lib.hid (fun (o : Obj) => conS_any (H.later ((Below.refl _ w).alloc (Nat.le_refl _) o)) (fun x => !p x) 50 #[.pointer (some ⟨w.heap.size, 0, none⟩)] (fun _ _ => by kernel_rfl))
  have HQ : Hid (∀ t, ∀ x ∈ l, ∀ y, Below (w.alloc (.cells #[.func (.func g) #[] lb] t)).heap.size (w.alloc (.cells #[.func (.func g) #[] lb] t)) y → Calls Tryz.prog 50 (#[StrV x] ++ #[.pointer (some ⟨w.heap.size, 0, none⟩)]) y (Says y (!p x))) := Lib.hid (by
    intro t x hx y hy
    refine allSq_any g lb eg x (p x) w.heap.size y ?_ (fun z hz => hp x hx z ?_)
    · exact (hy.cell (p := ⟨w.heap.size, 0, none⟩) (by simp)).trans ((Blk.new w t _).cell 0)
    · exact below_alloc_trans (hy.trans (hz.mono hy.size)))
  have HN := Lib.hid (all_not_any p l)
  clear H hp
  generalize l.all p = b at *
  go_enter Tryz.func21, Tryz.ntmps21
  go_wp2_with fail
  refine (HC.out _ (HQ.out _)).mono ?_
  rintro e w' ⟨rfl, hb⟩
  have HB := Lib.hid (below_alloc_trans hb)
  clear hb
  go_wp2
  go_ret
  exact ⟨ret_bool HN.out, HB.out⟩
set_option maxRecDepth 100000 in
set_option maxHeartbeats 2000000 in
theorem idxI_any {w : World} {v : Value} {l : List Int} (H : Arr IntV w v l) (p : Int → Bool) (g : Nat) (lb : Array Value) (eg : ∀ args y, (callFunc g args).run Tryz.prog y = .ok (.enter g args) y)
    (hp : ∀ x ∈ l, ∀ y, Below w.heap.size w y → Calls Tryz.prog g (#[IntV x] ++ lb) y (Says y (p x))) :
    Calls Tryz.prog 101 #[v, .func (.func g) #[] lb] w fun e w' => e = .returned (.int .i64 (idxL p l)) ∧ Below w.heap.size w w' := by
  obtain ⟨⟨A, c, rfl, hc⟩, hs⟩ := H
  have HC := Lib.hid hc
  have HP := Lib.hid hp
  clear hc hp
  go_enter Tryz.func101, Tryz.ntmps101
  go_wp2
  go_loopw [5, 8] (fun _ i wr => ∃ k : Nat, k ≤ l.length ∧ i = .int .i64 k ∧ Hid (∀ j y, j < k → l[j]? = some y → p y = false) ∧ Hid (Below w.heap.size w wr)) (fun _ i _ => l.length - (intOf i).toNat)
  case atStart => exact ⟨0, Nat.zero_le _, rfl, Lib.hid (fun j y hj => absurd hj (Nat.not_lt_zero _)), Lib.hid (Below.refl _ w)⟩
  case round =>
    obtain ⟨k, hk, rfl, HA, HB⟩ := hrel
    by_cases hlt : k < l.length
    · have hx := List.getElem?_eq_getElem hlt
      generalize l[k] = x at hx
      have hm := List.mem_of_getElem? hx
      obtain ⟨b, off, rfl, hlt0, hcell⟩ := HC.out k x hx
      have hcw := (HB.out.cell (p := ⟨b, off + k, none⟩) hlt0).trans hcell
      have HCALL := Lib.hid (HP.out x hm wr HB.out)
      simp only [IntV] at *
      have HX := Lib.hid hx
      clear hx hcell hm
      cases hq : p x with
      | true =>
        rw [hq] at HCALL
        have HI := Lib.hid (idxL_hit HX.out hq HA.out)
        clear hq
        go_wp2_with (go_at_fn g; refine HCALL.out.mono ?_; rintro e w' ⟨rfl, hb'⟩; have HB' := Lib.hid (HB.out.trans (hb'.mono HB.out.size)); clear hb')
        go_ret
        exact ⟨by rw [HI.out]; rfl, HB'.out⟩
      | false =>
        rw [hq] at HCALL
        have HN := Lib.hid (not_so HX.out hq HA.out)
        clear hq
        go_wp2_with (go_at_fn g; refine HCALL.out.mono ?_; rintro e w' ⟨rfl, hb'⟩; have HB' := Lib.hid (HB.out.trans (hb'.mono HB.out.size)); clear hb')
        go_roundw
        case rel => exact ⟨k + 1, by omega, by go_num, HN, HB'⟩
        case measure => simp [intOf]; omega
    · obtain rfl : k = l.length := by omega
      have HI := Lib.hid (idxL_miss HA.out)
      go_wp2
      go_ret
      exact ⟨by rw [HI.out]; rfl, HB.out⟩
theorem conI_any {w : World} {v : Value} {l : List Int} (H : Arr IntV w v l) (p : Int → Bool) (g : Nat) (lb : Array Value) (eg : ∀ args y, (callFunc g args).run Tryz.prog y = .ok (.enter g args) y)
    (hp : ∀ x ∈ l, ∀ y, Below w.heap.size w y → Calls Tryz.prog g (#[IntV x] ++ lb) y (Says y (p x))) :
    Calls Tryz.prog 87 #[v, .func (.func g) #[] lb] w (Says w (l.any p)) := by
  have HI := Lib.hid (idxI_any H p g lb eg hp)
  have HE := Lib.hid (idxL_any p l)
  generalize l.any p = a at *
  generalize idxL p l = n at *
  clear H hp
  go_enter Tryz.func87, Tryz.ntmps87
  go_wp2_with fail
  refine HI.out.mono ?_
  rintro e w' ⟨rfl, hb⟩
  have HB := Lib.hid hb
  clear hb
  go_wp2
  go_ret
  exact ⟨ret_bool (by rw [← HE.out]), HB.out⟩
theorem allIq_any (g : Nat) (lb : Array Value) (eg : ∀ args y, (callFunc g args).run Tryz.prog y = .ok (.enter g args) y) (x : Int) (b : Bool) (B : Nat) (w : World) (hcell : w.cell? ⟨B, 0, none⟩ = some (.func (.func g) #[] lb))
    (hp : ∀ y, Below w.heap.size w y → Calls Tryz.prog g (#[IntV x] ++ lb) y (Says y b)) : Calls Tryz.prog 88 #[IntV x, .pointer (some ⟨B, 0, none⟩)] w (Says w (!b)) := by
  have HC := Lib.hid (hp w (Below.refl _ w))
  clear hp
  simp only [IntV] at *
  go_enter Tryz.func88, Tryz.ntmps88
  go_wp2_with (go_at_fn g; refine HC.out.mono ?_; rintro e w' ⟨rfl, hb'⟩; have HB' := Lib.hid hb'; clear hb')
  go_ret
  exact ⟨rfl, HB'.out⟩
theorem allI_any {w : World} {v : Value} {l : List Int} (H : Arr IntV w v l) (p : Int → Bool) (g : Nat) (lb : Array Value) (eg : ∀ args y, (callFunc g args).run Tryz.prog y = .ok (.enter g args) y)
    (hp : ∀ x ∈ l, ∀ y, Below w.heap.size w y → Calls Tryz.prog g (#[IntV x] ++ lb) y (Says y (p x))) :
    Calls Tryz.prog 54 #[v, .func (.func g) #[] lb] w (Says w (l.all p)) := by
  have HC := Lib.hid (fun (o : Obj) => conI_any (H.later ((Below.refl _ w).alloc (Nat.le_refl _) o)) (fun x => !p x) 88 #[.pointer (some ⟨w.heap.size, 0, none⟩)] (fun _ _ => by kernel_rfl))
  have HQ : Hid (∀ t, ∀ x ∈ l, ∀ y, Below (w.alloc (.cells #[.func (.func g) #[] lb] t)).heap.size (w.alloc (.cells #[.func (.func g) #[] lb] t)) y → Calls Tryz.prog 88 (#[IntV x] ++ #[.pointer (some ⟨w.heap.size, 0, none⟩)]) y (Says y (!p x))) := Lib.hid (by
    intro t x hx y hy
    refine allIq_any g lb eg x (p x) w.heap.size y ?_ (fun z hz => hp x hx z ?_)
    · exact (hy.cell (p := ⟨w.heap.size, 0, none⟩) (by simp)).trans ((Blk.new w t _).cell 0)
    · exact below_alloc_trans (hy.trans (hz.mono hy.size)))
  have HN := Lib.hid (all_not_any p l)
  clear H hp
  generalize l.all p = b at *
  go_enter Tryz.func54, Tryz.ntmps54
  go_wp2_with fail
  refine (HC.out _ (HQ.out _)).mono ?_
  rintro e w' ⟨rfl, hb⟩
  have HB := Lib.hid (below_alloc_trans hb)
  clear hb
  go_wp2
  go_ret
  exact ⟨ret_bool HN.out, HB.out⟩
set_option maxRecDepth 100000 in
set_option maxHeartbeats 2000000 in
theorem idxR_any {w : World} {v : Value} {l : List Ru} (H : Rul w v l) (p : Ru → Bool) (g : Nat) (lb : Array Value) (eg : ∀ args y, (callFunc g args).run Tryz.prog y = .ok (.enter g args) y)
    (hp : ∀ x ∈ l, ∀ y, Below w.heap.size w y → Calls Tryz.prog g (#[RuV x] ++ lb) y (Says y (p x))) :
    Calls Tryz.prog 33 #[v, .func (.func g) #[] lb] w fun e w' => e = .returned (.int .i64 (idxL p l)) ∧ Below w.heap.size w w' := by
  obtain ⟨⟨A, c, rfl, hc⟩, hs⟩ := H
  have HC := Lib.hid hc
  have HP := Lib.hid hp
  clear hc hp
  go_enter Tryz.func33, Tryz.ntmps33
  go_wp2
  go_loopw [5, 8] (fun _ i wr => ∃ k : Nat, k ≤ l.length ∧ i = .int .i64 k ∧ Hid (∀ j y, j < k → l[j]? = some y → p y = false) ∧ Hid (Below w.heap.size w wr)) (fun _ i _ => l.length - (intOf i).toNat)
  case atStart => exact ⟨0, Nat.zero_le _, rfl, Lib.hid (fun j y hj => absurd hj (Nat.not_lt_zero _)), Lib.hid (Below.refl _ w)⟩
  case round =>
    obtain ⟨k, hk, rfl, HA, HB⟩ := hrel
    by_cases hlt : k < l.length
    · have hx := List.getElem?_eq_getElem hlt
      generalize l[k] = x at hx
      have hm := List.mem_of_getElem? hx
      obtain ⟨b, off, rfl, hlt0, hcell, hcell2, _⟩ := HC.out k x hx
      have hcw := (HB.out.cell (p := ⟨b, off + k * 2, none⟩) hlt0).trans hcell
      have hcw2 := (HB.out.cell (p := ⟨b, off + k * 2 + 1, none⟩) hlt0).trans hcell2
      have HCALL := Lib.hid (HP.out x hm wr HB.out)
      simp only [RuV] at *
      have HX := Lib.hid hx
      clear hx hcell hm
      cases hq : p x with
      | true =>
        rw [hq] at HCALL
        have HI := Lib.hid (idxL_hit HX.out hq HA.out)
        clear hq
        go_wp2_with (go_at_fn g; refine HCALL.out.mono ?_; rintro e w' ⟨rfl, hb'⟩; have HB' := Lib.hid (HB.out.trans (hb'.mono HB.out.size)); clear hb')
        go_ret
        exact ⟨by rw [HI.out]; rfl, HB'.out⟩
      | false =>
        rw [hq] at HCALL
        have HN := Lib.hid (not_so HX.out hq HA.out)
        clear hq
        go_wp2_with (go_at_fn g; refine HCALL.out.mono ?_; rintro e w' ⟨rfl, hb'⟩; have HB' := Lib.hid (HB.out.trans (hb'.mono HB.out.size)); clear hb')
        go_roundw
        case rel => exact ⟨k + 1, by omega, by go_num, HN, HB'⟩
        case measure => simp [intOf]; omega
    · obtain rfl : k = l.length := by omega
      have HI := Lib.hid (idxL_miss HA.out)
      go_wp2
      go_ret
      exact ⟨by rw [HI.out]; rfl, HB.out⟩
theorem conR_any {w : World} {v : Value} {l : List Ru} (H : Rul w v l) (p : Ru → Bool) (g : Nat) (lb : Array Value) (eg : ∀ args y, (callFunc g args).run Tryz.prog y = .ok (.enter g args) y)
    (hp : ∀ x ∈ l, ∀ y, Below w.heap.size w y → Calls Tryz.prog g (#[RuV x] ++ lb) y (Says y (p x))) :
    Calls Tryz.prog 47 #[v, .func (.func g) #[] lb] w (Says w (l.any p)) := by
  have HI := Lib.hid (idxR_any H p g lb eg hp)
  have HE := Lib.hid (idxL_any p l)
  generalize l.any p = a at *
  generalize idxL p l = n at *
  clear H hp
  go_enter Tryz.func47, Tryz.ntmps47
  go_wp2_with fail
  refine HI.out.mono ?_
  rintro e w' ⟨rfl, hb⟩
  have HB := Lib.hid hb
  clear hb
  go_wp2
  go_ret
  exact ⟨ret_bool (by rw [← HE.out]), HB.out⟩
theorem allRq_any (g : Nat) (lb : Array Value) (eg : ∀ args y, (callFunc g args).run Tryz.prog y = .ok (.enter g args) y) (x : Ru) (b : Bool) (B : Nat) (w : World) (hcell : w.cell? ⟨B, 0, none⟩ = some (.func (.func g) #[] lb))
    (hp : ∀ y, Below w.heap.size w y → Calls Tryz.prog g (#[RuV x] ++ lb) y (Says y b)) : Calls Tryz.prog 48 #[RuV x, .pointer (some ⟨B, 0, none⟩)] w (Says w (!b)) := by
  have HP := Lib.hid hp
  clear hp
  have hB : B < w.heap.size := World.block_lt_of_cell? w _ hcell
  simp only [RuV] at *
  go_enter Tryz.func48, Tryz.ntmps48
  go_wp2_with (go_at_fn g; refine (HP.out _ ((Below.refl _ w).alloc (Nat.le_refl _) _)).mono ?_; rintro e w' ⟨rfl, hb'⟩; have HB' := Lib.hid (below_alloc_trans hb'); clear hb')
  go_ret
  exact ⟨rfl, HB'.out⟩
theorem allR_any {w : World} {v : Value} {l : List Ru} (H : Rul w v l) (p : Ru → Bool) (g : Nat) (lb : Array Value) (eg : ∀ args y, (callFunc g args).run Tryz.prog y = .ok (.enter g args) y)
    (hp : ∀ x ∈ l, ∀ y, Below w.heap.size w y → Calls Tryz.prog g (#[RuV x] ++ lb) y (Says y (p x))) :
    Calls Tryz.prog 20 #[v, .func (.func g) #[] lb] w (Says w (l.all p)) := by
  have HC := Lib.hid (fun (o : Obj) => conR_any (H.later ((Below.refl _ w).alloc (Nat.le_refl _) o)) (fun x => !p x) 48 #[.pointer (some ⟨w.heap.size, 0, none⟩)] (fun _ _ => by kernel_rfl))
  have HQ : Hid (∀ t, ∀ x ∈ l, ∀ y, Below (w.alloc (.cells #[.func (.func g) #[] lb] t)).heap.size (w.alloc (.cells #[.func (.func g) #[] lb] t)) y → Calls Tryz.prog 48 (#[RuV x] ++ #[.pointer (some ⟨w.heap.size, 0, none⟩)]) y (Says y (!p x))) := Lib.hid (by
    intro t x hx y hy
    refine allRq_any g lb eg x (p x) w.heap.size y ?_ (fun z hz => hp x hx z ?_)
    · exact (hy.cell (p := ⟨w.heap.size, 0, none⟩) (by simp)).trans ((Blk.new w t _).cell 0)
    · exact below_alloc_trans (hy.trans (hz.mono hy.size)))
  have HN := Lib.hid (all_not_any p l)
  clear H hp
  generalize l.all p = b at *
  go_enter Tryz.func20, Tryz.ntmps20
  go_wp2_with fail
  refine (HC.out _ (HQ.out _)).mono ?_
  rintro e w' ⟨rfl, hb⟩
  have HB := Lib.hid (below_alloc_trans hb)
  clear hb
  go_wp2
  go_ret
  exact ⟨ret_bool HN.out, HB.out⟩
end Go.Proofs.YtdbmeocpjopdhaaGreatDoor

namespace Go.Proofs.YtdbmeocpjopdhaaGreatDoor
open Go.RowKit
set_option linter.unusedVariables false
/-- What is to be known of a grammar's value. -/
theorem GrR.open_ {w : World} {v : Value} {g : Gm} (h : GrR w v g) : ∃ AT cT AN cN AR cR, v = .agg #[.slice AT g.T.length cT, .slice AN g.N.length cN, .slice AR g.R.length cR, .int .i64 g.s] ∧
    Arr StrV w (.slice AT g.T.length cT) g.T ∧ Arr StrV w (.slice AN g.N.length cN) g.N ∧ Rul w (.slice AR g.R.length cR) g.R := by
  obtain ⟨⟨vT, vN, vR, hv, h1, h2, h3⟩, hs⟩ := h
  obtain ⟨⟨AT, cT, rfl, hT⟩, sT⟩ := id h1
  obtain ⟨⟨AN, cN, rfl, hN⟩, sN⟩ := id h2
  obtain ⟨⟨AR, cR, rfl, hR⟩, sR⟩ := id h3
  exact ⟨AT, cT, AN, cN, AR, cR, hv, h1, h2, h3⟩
section
variable {w : World} {v : Value} {g : Gm}
theorem top_any (h : GrR w v g) : Calls Tryz.prog 31 #[v] w fun e w' => e = .returned (.int .i64 ((g.T.length : Int) + (g.N.length : Int))) ∧ Below w.heap.size w w' := by
  obtain ⟨AT, cT, AN, cN, AR, cR, rfl, hT, hN, hR⟩ := h.open_
  have h1 := h.small.2.2.1
  have h2 := h.small.2.2.2.1
  clear h hT hN hR
  go_enter Tryz.func31, Tryz.ntmps31
  go_wp2
  go_ret
  exact ⟨rfl, below_alloc _ _⟩
theorem term_any (h : GrR w v g) (s : Int) : Calls Tryz.prog 56 #[v, .int .i64 s] w (Says w (g.term s)) := by
  obtain ⟨AT, cT, AN, cN, AR, cR, rfl, hT, hN, hR⟩ := h.open_
  clear h hT hN hR
  unfold Gm.term
  generalize g.T.length = n
  generalize g.N.length = m
  go_enter Tryz.func56, Tryz.ntmps56
  go_wp2
  all_goals go_ret
  all_goals exact ⟨ret_bool (by rw [Bool.eq_iff_iff]; simp [*] <;> omega), below_alloc _ _⟩
theorem non_any (h : GrR w v g) (s : Int) : Calls Tryz.prog 26 #[v, .int .i64 s] w (Says w (g.non s)) := by
  have HT := Lib.hid (fun y (hy : Below w.heap.size w y) => top_any (h.later hy))
  obtain ⟨AT, cT, AN, cN, AR, cR, rfl, hT, hN, hR⟩ := h.open_
  clear h hT hN hR
  unfold Gm.non
  generalize g.T.length = n at *
  generalize g.N.length = m at *
  generalize g.R.length = r at *
  generalize g.s = gs at *
  by_cases hs : (n : Int) < s
  · rw [decide_eq_true hs, Bool.true_and]
    go_enter Tryz.func26, Tryz.ntmps26
    go_wp2_with (go_at_call 31; refine (HT.out _ (below_alloc _ _)).mono ?_; rintro e w' ⟨rfl, hb'⟩; have HB' := Lib.hid (below_alloc_trans hb'); clear hb')
    go_ret
    exact ⟨rfl, HB'.out⟩
  · rw [decide_eq_false hs, Bool.false_and]
    go_enter Tryz.func26, Tryz.ntmps26
    go_wp2
    go_ret
    exact ⟨rfl, below_alloc _ _⟩
end
/-- A grammar's own box. -/
structure GBox (y : World) (B : Nat) (v : Value) : Prop where
  lt : B < y.heap.size
  cell : ∀ j, j < 4 → y.cell? ⟨B, j, none⟩ = v.cells[j]?
theorem GBox.later {y y' : World} {B : Nat} {v : Value} (h : GBox y B v) (hb : Below y.heap.size y y') : GBox y' B v :=
  ⟨Nat.lt_of_lt_of_le h.lt hb.size, fun j hj => (hb.cell (p := ⟨B, j, none⟩) h.lt).trans (h.cell j hj)⟩
theorem GBox.new (w : World) (t : TypeId) (v : Value) : GBox (w.alloc (.cells v.cells t)) w.heap.size v := ⟨by simp, fun j _ => (Blk.new w t _).cell j⟩
theorem GBox.four {y : World} {B : Nat} {a b c d : Value} (h : GBox y B (.agg #[a, b, c, d])) : y.cell? ⟨B, 0, none⟩ = some a ∧ y.cell? ⟨B, 1, none⟩ = some b ∧ y.cell? ⟨B, 2, none⟩ = some c ∧ y.cell? ⟨B, 3, none⟩ = some d :=
  ⟨h.cell 0 (by omega), h.cell 1 (by omega), h.cell 2 (by omega), h.cell 3 (by omega)⟩
theorem knownq_any {w y : World} {B : Nat} {v : Value} {g : Gm} (h : GrR w v g) (s : Int) (hb : Below w.heap.size w y) (hc : GBox y B v) : Calls Tryz.prog 55 #[.int .i64 s, .pointer (some ⟨B, 0, none⟩)] y (Says y (g.sym s)) := by
  have HT := Lib.hid (fun z (hz : Below w.heap.size w z) => term_any (h.later hz) s)
  have HN := Lib.hid (fun z (hz : Below w.heap.size w z) => non_any (h.later hz) s)
  obtain ⟨AT, cT, AN, cN, AR, cR, rfl, hT, hN, hR⟩ := h.open_
  have HB := Lib.hid hb
  have HG := Lib.hid hc
  have hBy := hc.lt
  obtain ⟨c0, c1, c2, c3⟩ := hc.four
  clear h hT hN hR hb hc
  unfold Gm.sym
  generalize g.term s = a at *
  generalize g.non s = b at *
  go_enter Tryz.func55, Tryz.ntmps55
  go_wp2_with fail
  refine (HT.out _ HB.out).mono ?_
  rintro e w1 ⟨rfl, hb1⟩
  have HB1 := Lib.hid hb1
  cases a with
  | true =>
    clear hb1
    go_wp2
    go_ret
    exact ⟨rfl, HB1.out⟩
  | false =>
    obtain ⟨d0, d1, d2, d3⟩ := (HG.out.later hb1).four
    clear hb1 c0 c1 c2 c3
    go_wp2_with fail
    refine (HN.out _ (HB.out.trans (HB1.out.mono HB.out.size))).mono ?_
    rintro e w2 ⟨rfl, hb2⟩
    have HB2 := Lib.hid (HB1.out.trans (hb2.mono HB1.out.size))
    clear hb2
    go_wp2
    go_ret
    exact ⟨rfl, HB2.out⟩
theorem known_any {w : World} {v u : Value} {g : Gm} {r : Ru} (h : GrR w v g) (hr : RuR w u r) : Calls Tryz.prog 28 #[v, u] w (Says w (g.knownR r)) := by
  have HN := Lib.hid (fun z (hz : Below w.heap.size w z) => non_any (h.later hz) r.left)
  have HG := Lib.hid (GBox.new w 26 v)
  have HA : Hid (∀ z, Below w.heap.size w z → GBox z w.heap.size v → Calls Tryz.prog 54 #[r.v, .func (.func 55) #[] #[.pointer (some ⟨w.heap.size, 0, none⟩)]] z (Says z (r.right.all g.sym))) := Lib.hid (by
    intro z hz hgb
    exact allI_any (hr.right.later hz) g.sym 55 #[.pointer (some ⟨w.heap.size, 0, none⟩)] (fun _ _ => by kernel_rfl) (fun x hx y hy => knownq_any h x (hz.trans (hy.mono hz.size)) (hgb.later hy)))
  obtain ⟨AT, cT, AN, cN, AR, cR, rfl, hT, hN, hR⟩ := h.open_
  obtain ⟨rfl, hrr⟩ := hr
  unfold Gm.knownR RuV
  clear h hT hN hR hrr
  generalize r.right.all g.sym = b at *
  generalize r.left = rl at *
  generalize r.v = rv at *
  generalize g.non rl = a at *
  go_enter Tryz.func28, Tryz.ntmps28
  go_wp2_with fail
  refine (HN.out _ ((below_alloc w _).trans ((below_alloc _ _).mono (by simp)))).mono ?_
  rintro e w1 ⟨rfl, hb1⟩
  have HB1 := Lib.hid ((below_alloc w _).trans (((below_alloc _ _).trans (hb1.mono (by simp))).mono (by simp)))
  cases a with
  | false =>
    clear hb1
    go_wp2
    go_ret
    exact ⟨rfl, HB1.out⟩
  | true =>
    have HG1 := Lib.hid ((HG.out.later (below_alloc _ _)).later hb1)
    have e1 := (hb1.cell (p := ⟨w.heap.size + 1, 1, none⟩) (by simp)).trans (World.cell?_alloc_at _ _ _ _ (by simp))
    clear hb1
    go_wp2_with fail
    refine (HA.out _ HB1.out HG1.out).mono ?_
    rintro e w2 ⟨rfl, hb2⟩
    have HB2 := Lib.hid (HB1.out.trans (hb2.mono HB1.out.size))
    clear hb2
    go_wp2
    go_ret
    exact ⟨rfl, HB2.out⟩
end Go.Proofs.YtdbmeocpjopdhaaGreatDoor

namespace Go.Proofs.YtdbmeocpjopdhaaGreatDoor
open Go.RowKit
set_option linter.unusedVariables false
theorem form2_any (s : ByteArray) (hs : s.size ≤ 4611686018427387904) (w : World) : Calls Tryz.prog 22 #[.string s] w (Says w (okName s.data.toList || quotedB s.data.toList)) := by
  have HP := Lib.hid (plain_any s (by omega) w)
  have HQ := Lib.hid (isq_any s hs)
  generalize okName s.data.toList = a at *
  generalize quotedB s.data.toList = b at *
  go_enter Tryz.func22, Tryz.ntmps22
  go_wp2_with fail
  refine HP.out.mono ?_
  rintro e w1 ⟨rfl, hb⟩
  have HB := Lib.hid hb
  clear hb
  cases a with
  | true =>
    go_wp2
    go_ret
    exact ⟨rfl, HB.out⟩
  | false =>
    go_wp2_with fail
    refine (HQ.out _).mono ?_
    rintro e w2 ⟨rfl, hb⟩
    have HB2 := Lib.hid (HB.out.trans (hb.mono HB.out.size))
    clear hb
    go_wp2
    go_ret
    exact ⟨rfl, HB2.out⟩

theorem short_any (r : Ru) (w : World) (hr : Arr IntV w r.v r.right) : Calls Tryz.prog 19 #[RuV r] w (Says w (shortR r)) := by
  obtain ⟨⟨A, c, hv, _⟩, hs⟩ := hr
  unfold shortR RuV
  rw [hv]
  clear hv
  generalize r.right.length = n at *
  generalize r.left = rl at *
  go_enter Tryz.func19, Tryz.ntmps19
  go_wp2
  go_ret
  exact ⟨ret_bool (by rw [decide_eq_decide]; omega), below_alloc _ _⟩
theorem know3_any {w y : World} {B : Nat} {v : Value} {g : Gm} {r : Ru} (h : GrR w v g) (hr : Arr IntV w r.v r.right) (hb : Below w.heap.size w y) (hc : GBox y B v) : Calls Tryz.prog 27 #[RuV r, .pointer (some ⟨B, 0, none⟩)] y (Says y (g.knownR r)) := by
  have HK := Lib.hid (fun z (hz : Below w.heap.size w z) => known_any (h.later hz) (⟨rfl, hr.later hz⟩ : RuR z (RuV r) r))
  obtain ⟨AT, cT, AN, cN, AR, cR, rfl, hT, hN, hR⟩ := h.open_
  have HB := Lib.hid hb
  have HG := Lib.hid hc
  have hBy := hc.lt
  obtain ⟨c0, c1, c2, c3⟩ := hc.four
  clear h hT hN hR hb hc hr
  unfold RuV at *
  generalize g.knownR r = a at *
  go_enter Tryz.func27, Tryz.ntmps27
  go_wp2_with fail
  refine (HK.out _ (HB.out.trans ((below_alloc _ _).mono HB.out.size))).mono ?_
  rintro e w1 ⟨rfl, hb1⟩
  have HB1 := Lib.hid (below_alloc_trans hb1)
  clear hb1
  go_wp2
  go_ret
  exact ⟨rfl, HB1.out⟩
theorem below_draws {B : Nat} {w w' : World} (h : Below B w w') (n : Nat) : Below B w (w'.drewN n) := ⟨h.os, h.tape, h.output, h.size, h.block⟩
/-- Two lists are one up to k. -/
def EqTo (a b : List Int) (k : Nat) : Prop := ∀ j x y, j < k → a[j]? = some x → b[j]? = some y → x = y
theorem EqTo.next {a b : List Int} {k : Nat} {x y : Int} (h : EqTo a b k) (hx : a[k]? = some x) (hy : b[k]? = some y) (he : x = y) : EqTo a b (k + 1) := by
  intro j x' y' hj h1 h2
  by_cases e : j = k
  · subst e
    rw [hx] at h1; rw [hy] at h2; cases h1; cases h2; exact he
  · exact h j x' y' (by omega) h1 h2
theorem EqTo.all {a b : List Int} (hl : a.length = b.length) (h : EqTo a b a.length) : (a == b) = true := by
  rw [beq_iff_eq]
  apply List.ext_getElem? 
  intro j
  by_cases hj : j < a.length
  · rw [List.getElem?_eq_getElem hj, List.getElem?_eq_getElem (by omega)]
    rw [h j _ _ hj (List.getElem?_eq_getElem hj) (List.getElem?_eq_getElem (by omega))]
  · rw [List.getElem?_eq_none (by omega), List.getElem?_eq_none (by omega)]
theorem ne_at {a b : List Int} {k : Nat} {x y : Int} (hx : a[k]? = some x) (hy : b[k]? = some y) (hn : ¬ x = y) : (a == b) = false := by
  rw [beq_eq_false_iff_ne]
  rintro rfl
  rw [hx] at hy
  cases hy
  exact hn rfl
set_option maxRecDepth 100000 in
set_option maxHeartbeats 1600000 in
theorem equal_any {w : World} {u v : Value} {a b : List Int} (ha : Arr IntV w u a) (hb : Arr IntV w v b) : Calls Tryz.prog 58 #[u, v] w (Says w (a == b)) := by
  obtain ⟨⟨A, c, rfl, hca⟩, hsa⟩ := ha
  obtain ⟨⟨B, d, rfl, hcb⟩, hsb⟩ := hb
  have HCA := Lib.hid hca
  have HCB := Lib.hid hcb
  clear hca hcb
  by_cases hl : a.length = b.length
  · rw [← hl]
    have HL := Lib.hid hl
    clear hl hsb
    go_enter Tryz.func58, Tryz.ntmps58
    go_wp2
    go_loopw [5, 13] (fun _ i wr => ∃ k : Nat, k ≤ a.length ∧ i = .int .i64 k ∧ Hid (EqTo a b k) ∧ Hid (∃ q, wr = w.drewN q)) (fun _ i _ => a.length - (intOf i).toNat)
    case atStart => exact ⟨0, Nat.zero_le _, rfl, Lib.hid (fun j x y hj => absurd hj (Nat.not_lt_zero _)), Lib.hid ⟨0, rfl⟩⟩
    case round =>
      obtain ⟨k, hk, rfl, HE, HD⟩ := hrel
      by_cases hlt : k < a.length
      · have hx := List.getElem?_eq_getElem hlt
        have hy := List.getElem?_eq_getElem (show k < b.length by have := HL.out; omega)
        generalize a[k] = x at hx
        generalize b[k]'(by have := HL.out; omega) = y at hy
        obtain ⟨b1, off1, rfl, hlt1, hcell1⟩ := HCA.out k x hx
        obtain ⟨b2, off2, rfl, hlt2, hcell2⟩ := HCB.out k y hy
        have HX := Lib.hid hx
        have HY := Lib.hid hy
        have e1 : wr.cell? ⟨b1, off1 + k, none⟩ = some (.int .i64 x) := by obtain ⟨q, rfl⟩ := HD.out; exact hcell1
        have e2 : wr.cell? ⟨b2, off2 + k, none⟩ = some (.int .i64 y) := by obtain ⟨q, rfl⟩ := HD.out; exact hcell2
        clear hx hy hcell1 hcell2
        by_cases hxy : x = y
        · have HN := Lib.hid (HE.out.next HX.out HY.out hxy)
          have hb : (x != y) = false := by simp [hxy]
          clear hxy
          go_wp2
          go_quiet (fail)
          have HDD : Hid (∃ q, wr.drewN nq = w.drewN q) := Lib.hid (by
            obtain ⟨q, hq⟩ := HD.out
            exact ⟨q + nq, by rw [hq, World.drewN_drewN]⟩)
          go_wp2
          go_roundw
          case rel => exact ⟨k + 1, by omega, by go_num, HN, HDD⟩
          case measure => simp [intOf]; omega
        · have HN := Lib.hid (ne_at HX.out HY.out hxy)
          have hb : (x != y) = true := by simp [hxy]
          clear hxy
          go_wp2
          go_quiet (fail)
          go_wp2
          go_ret
          refine ⟨ret_bool HN.out.symm, ?_⟩
          obtain ⟨q, rfl⟩ := HD.out
          exact below_draws (below_draws (Below.refl _ w) _) _
      · obtain rfl : k = a.length := by omega
        have HN := Lib.hid (HE.out.all HL.out)
        go_wp2
        go_ret
        refine ⟨ret_bool HN.out.symm, ?_⟩
        obtain ⟨q, rfl⟩ := HD.out
        exact below_draws (Below.refl _ w) _
  · have hb : (a == b) = false := by
      rw [beq_eq_false_iff_ne]; rintro rfl; exact hl rfl
    rw [hb]
    have hl2 : ¬ (a.length : Int) = (b.length : Int) := by omega
    clear hl hb
    go_enter Tryz.func58, Tryz.ntmps58
    go_wp2
    go_ret
    exact ⟨rfl, Below.refl _ w⟩
end Go.Proofs.YtdbmeocpjopdhaaGreatDoor

namespace Go.Proofs.YtdbmeocpjopdhaaGreatDoor
open Go.RowKit
set_option linter.unusedVariables false
theorem below_drew {B : Nat} {w w' : World} (h : Below B w w') : Below B w w'.drew := ⟨h.os, h.tape, h.output, h.size, h.block⟩
theorem same_any {w : World} {a b : Ru} (ha : Arr IntV w a.v a.right) (hb : Arr IntV w b.v b.right) : Calls Tryz.prog 30 #[RuV a, RuV b] w (Says w (sameR a b)) := by
  have HE := Lib.hid (fun z (hz : Below w.heap.size w z) => equal_any (ha.later hz) (hb.later hz))
  clear ha hb
  unfold sameR RuV
  generalize (a.right == b.right) = q at *
  generalize a.v = av at *
  generalize b.v = bv at *
  generalize a.left = al at *
  generalize b.left = bl at *
  by_cases h : al = bl
  · have h1 : (al == bl) = true := by simp [h]
    rw [h1, Bool.true_and]
    clear h
    go_enter Tryz.func30, Tryz.ntmps30
    go_wp2_with fail
    refine (HE.out _ ((below_alloc w _).trans ((below_alloc _ _).mono (by simp)))).mono ?_
    rintro e w1 ⟨rfl, hb1⟩
    have HB1 := Lib.hid ((below_alloc w _).trans (((below_alloc _ _).trans (hb1.mono (by simp))).mono (by simp)))
    clear hb1
    go_wp2
    go_ret
    exact ⟨rfl, HB1.out⟩
  · have h1 : (al == bl) = false := by simp [h]
    rw [h1, Bool.false_and]
    clear h
    go_enter Tryz.func30, Tryz.ntmps30
    go_wp2
    go_ret
    exact ⟨rfl, ((below_alloc w _).trans ((below_alloc _ _).mono (by simp)))⟩
set_option maxRecDepth 100000 in
theorem unlikeq_any {y : World} {x r : Ru} {BF BL BI b off n c i : Nat} (hF : y.cell? ⟨BF, 0, none⟩ = some (.func (.func 30) #[] #[])) (hL : y.cell? ⟨BL, 0, none⟩ = some (.slice (some ⟨b, off, none⟩) n c)) (hI : y.cell? ⟨BI, 0, none⟩ = some (.int .i64 i))
    (hi : i < n) (h1 : y.cell? ⟨b, off + i * 2, none⟩ = some (.int .i64 r.left)) (h2 : y.cell? ⟨b, off + i * 2 + 1, none⟩ = some r.v) (hx : Arr IntV y x.v x.right) (hr : Arr IntV y r.v r.right) :
    Calls Tryz.prog 57 #[RuV x, .pointer (some ⟨BF, 0, none⟩), .pointer (some ⟨BL, 0, none⟩), .pointer (some ⟨BI, 0, none⟩)] y (Says y (sameR x r)) := by
  have HS := Lib.hid (fun z (hz : Below y.heap.size y z) => same_any (hx.later hz) (hr.later hz))
  have lF := World.block_lt_of_cell? y _ hF
  have lL := World.block_lt_of_cell? y _ hL
  have lI := World.block_lt_of_cell? y _ hI
  have lb := World.block_lt_of_cell? y _ h1
  clear hx hr
  unfold RuV at *
  generalize sameR x r = q at *
  generalize x.left = xl at *
  generalize x.v = xv at *
  generalize r.left = rl at *
  generalize r.v = rv at *
  go_enter Tryz.func57, Tryz.ntmps57
  have HK : Hid (∀ w', Below (y.alloc (.cells #[.int .i64 xl, xv] 39)).heap.size (y.alloc (.cells #[.int .i64 xl, xv] 39)) w' → w'.cell? ⟨BF, 0, none⟩ = some (.func (.func 30) #[] #[]) ∧ w'.cell? ⟨BL, 0, none⟩ = some (.slice (some ⟨b, off, none⟩) n c) ∧ w'.cell? ⟨BI, 0, none⟩ = some (.int .i64 i) ∧ w'.cell? ⟨b, off + i * 2, none⟩ = some (.int .i64 rl) ∧ w'.cell? ⟨b, off + i * 2 + 1, none⟩ = some rv ∧ w'.cell? ⟨y.heap.size, 0, none⟩ = some (.int .i64 xl) ∧ w'.cell? ⟨y.heap.size, 1, none⟩ = some xv) := Lib.hid (fun w' h => by
    have h0 := below_alloc_trans h
    exact ⟨(h0.cell (p := ⟨BF, 0, none⟩) lF).trans hF, (h0.cell (p := ⟨BL, 0, none⟩) lL).trans hL, (h0.cell (p := ⟨BI, 0, none⟩) lI).trans hI, (h0.cell (p := ⟨b, off + i * 2, none⟩) lb).trans h1, (h0.cell (p := ⟨b, off + i * 2 + 1, none⟩) lb).trans h2,
      (h.cell (p := ⟨y.heap.size, 0, none⟩) (by simp)).trans ((Blk.new y _ _).cell 0), (h.cell (p := ⟨y.heap.size, 1, none⟩) (by simp)).trans ((Blk.new y _ _).cell 1)⟩)
  clear hF hL hI h1 h2
  go_wp2_with fail
  go_region_held3 (fun w' => w'.cell? ⟨BF, 0, none⟩ = some (.func (.func 30) #[] #[]) ∧ w'.cell? ⟨BL, 0, none⟩ = some (.slice (some ⟨b, off, none⟩) n c) ∧ w'.cell? ⟨BI, 0, none⟩ = some (.int .i64 i) ∧ w'.cell? ⟨b, off + i * 2, none⟩ = some (.int .i64 rl) ∧ w'.cell? ⟨b, off + i * 2 + 1, none⟩ = some rv ∧ w'.cell? ⟨y.heap.size, 0, none⟩ = some (.int .i64 xl) ∧ w'.cell? ⟨y.heap.size, 1, none⟩ = some xv)
    (first | exact HK.out _ HZ.out | exact HK.out _ ⟨rfl, rfl, rfl, Nat.le_refl _, fun _ _ => rfl⟩)
    (first | (go_at_call 30; refine (HS.out _ (below_drew (below_alloc y _))).mono ?_; rintro e w2 ⟨rfl, hb2⟩; have HB2 := Lib.hid ((below_drew (below_alloc y _)).trans (hb2.mono (below_drew (below_alloc y _)).size)); have HZ := Lib.hid ((below_drew (Below.refl _ _)).trans (hb2.mono (Nat.le_refl _))); clear hb2))
  all_goals go_wp2
  all_goals go_ret
  all_goals exact ⟨rfl, HB2.out⟩
end Go.Proofs.YtdbmeocpjopdhaaGreatDoor

namespace Go.Proofs.YtdbmeocpjopdhaaGreatDoor
open Go.RowKit
set_option linter.unusedVariables false
/-- No two of the first k are the same. -/
def UnTo (l : List Ru) (k : Nat) : Prop := ∀ (i j : Nat) (x r : Ru), i < k → j < i → l[j]? = some x → l[i]? = some r → sameR x r = false
theorem UnTo.next {l : List Ru} {k : Nat} {r : Ru} (h : UnTo l k) (hr : l[k]? = some r) (ha : ((l.take k).any fun x => sameR x r) = false) : UnTo l (k + 1) := by
  intro i j x r' hi hj hx hr'
  by_cases e : i = k
  · subst e
    rw [hr] at hr'
    cases hr'
    have hm : x ∈ l.take i := List.mem_of_getElem? (i := j) (by rw [List.getElem?_take, if_pos hj]; exact hx)
    cases hq : sameR x r with
    | false => rfl
    | true =>
      have : ((l.take i).any fun x => sameR x r) = true := List.any_eq_true.2 ⟨x, hm, hq⟩
      rw [ha] at this
      cases this
  · exact h i j x r' (by omega) hj hx hr'
open Classical in
theorem UnTo.all {l : List Ru} (h : UnTo l l.length) : decide (Un l) = true := by
  rw [decide_eq_true_eq]
  intro i j x r hj hx hr
  exact h i j x r (List.getElem?_eq_some_iff.1 hr).1 hj hx hr
theorem un_not {l : List Ru} {k : Nat} {r : Ru} (hr : l[k]? = some r) (ha : ((l.take k).any fun x => sameR x r) = true) : ¬ Un l := by
  intro h
  obtain ⟨x, hm, hq⟩ := List.any_eq_true.1 ha
  obtain ⟨j, hj, he⟩ := List.mem_iff_getElem.1 hm
  have hj' : j < k := by rw [List.length_take] at hj; omega
  have := h k j x r hj' (by rw [← he, List.getElem_take]; exact List.getElem?_eq_getElem _) hr
  rw [hq] at this
  cases this
/-- Boxes of a row and of a function, and what was there. -/
def UK (w : World) (sl : Value) (y : World) : Prop := Below w.heap.size w y ∧ w.heap.size + 1 < y.heap.size ∧ y.cell? ⟨w.heap.size, 0, none⟩ = some sl ∧ y.cell? ⟨w.heap.size + 1, 0, none⟩ = some (.func (.func 30) #[] #[])
theorem UK.later {w y z : World} {sl : Value} (h : UK w sl y) (hb : Below y.heap.size y z) : UK w sl z :=
  ⟨h.1.trans (hb.mono h.1.size), Nat.lt_of_lt_of_le h.2.1 hb.size, (hb.cell (p := ⟨w.heap.size, 0, none⟩) (by have := h.2.1; show w.heap.size < _; omega)).trans h.2.2.1, (hb.cell (p := ⟨w.heap.size + 1, 0, none⟩) h.2.1).trans h.2.2.2⟩
open Classical in
theorem says_un {w w' : World} {l : List Ru} {b : Bool} (h : decide (Un l) = b) (hb : Below w.heap.size w w') : Says w (decide (Un l)) (.returned (.bool b)) w' := ⟨by rw [h], hb⟩
set_option maxRecDepth 100000 in
set_option maxHeartbeats 1600000 in
open Classical in
theorem unlike_any {w : World} {v : Value} {l : List Ru} (h : Rul w v l) : Calls Tryz.prog 29 #[v, .func (.func 30) #[] #[]] w (Says w (decide (Un l))) := by
  have hl := h
  obtain ⟨⟨A, c, rfl, hc⟩, hs, hro⟩ := hl
  have HCON : Hid (∀ k r b off, l[k]? = some r → A = some ⟨b, off, none⟩ → ∀ y, UK w (.slice A l.length c) y → Calls Tryz.prog 47 #[.slice A k c, .func (.func 57) #[] #[.pointer (some ⟨w.heap.size + 1, 0, none⟩), .pointer (some ⟨w.heap.size, 0, none⟩), .pointer (some ⟨y.heap.size, 0, none⟩)]] (y.alloc (.cells #[.int .i64 k] 3)) (Says (y.alloc (.cells #[.int .i64 k] 3)) ((l.take k).any fun x => sameR x r))) := Lib.hid (by
    intro k r b off hr hA y hy
    subst hA
    have hk := (List.getElem?_eq_some_iff.1 hr).1
    have hy2 := hy.later (below_alloc y (.cells #[.int .i64 k] 3))
    refine conR_any ((h.take k (by omega) c ⟨by have := (hro _ _ _ rfl).1; omega, fun e => by cases e⟩).later hy2.1) (fun x => sameR x r) 57 _ (fun _ _ => by kernel_rfl) (fun x hx z hz => ?_)
    have hz2 := hy2.later hz
    obtain ⟨b', off', e, hlt, h1, h2, h3⟩ := hc k r hr
    cases e
    refine unlikeq_any (r := r) (b := b) (off := off) (n := l.length) (c := c) (i := k) hz2.2.2.2 hz2.2.2.1 ?_ hk ?_ ?_ ((h.mem (List.mem_of_mem_take hx)).later hz2.1) (h3.later hz2.1)
    · exact (hz.cell (p := ⟨y.heap.size, 0, none⟩) (by simp)).trans ((Blk.new y _ _).cell 0)
    · exact (hz2.1.cell (p := ⟨b, off + k * 2, none⟩) hlt).trans h1
    · exact (hz2.1.cell (p := ⟨b, off + k * 2 + 1, none⟩) hlt).trans h2)
  have HCELL := Lib.hid hc
  have hcap := (hro _ _ _ rfl).1
  clear h hc hro
  go_enter Tryz.func29, Tryz.ntmps29
  go_wp2
  go_loopw [8] (fun i wr => ∃ k : Nat, k ≤ l.length ∧ i = .int .i64 k ∧ Hid (UnTo l k) ∧ Hid (UK w (.slice A l.length c) wr)) (fun i _ => l.length - (intOf i).toNat)
  case atStart => exact ⟨0, Nat.zero_le _, rfl, Lib.hid (fun i j x r hi => absurd hi (Nat.not_lt_zero _)), Lib.hid ⟨(below_alloc w _).trans ((below_alloc _ _).mono (by simp)), by simp, (World.cell?_alloc_lt _ _ ⟨w.heap.size, 0, none⟩ (by simp)).trans ((Blk.new w _ _).cell 0), by
    simp⟩⟩
  case round =>
    obtain ⟨k, hk, rfl, HU, HK⟩ := hrel
    by_cases hlt : k < l.length
    · have hr := List.getElem?_eq_getElem hlt
      generalize l[k] = r at hr
      obtain ⟨b, off, hA, hlt0, _⟩ := HCELL.out k r hr
      have HC := Lib.hid (HCON.out k r b off hr hA wr HK.out)
      have HR := Lib.hid hr
      obtain ⟨c1, c2, c3, c4⟩ := HK.out
      have l1 : w.heap.size < wr.heap.size := by omega
      clear c1 hr
      subst hA
      cases hq : (l.take k).any fun x => sameR x r with
      | false =>
        rw [hq] at HC
        have HN := Lib.hid (HU.out.next HR.out hq)
        clear hq
        go_wp2_with fail
        refine HC.out.mono ?_
        rintro e w1 ⟨rfl, hb1⟩
        have HK2 := Lib.hid ((HK.out.later (below_alloc wr _)).later hb1)
        clear hb1
        go_wp2
        go_roundw
        case rel => exact ⟨k + 1, by omega, by go_num, HN, HK2⟩
        case measure => simp [intOf]; omega
      | true =>
        rw [hq] at HC
        have HN := Lib.hid (un_not HR.out hq)
        clear hq
        go_wp2_with fail
        refine HC.out.mono ?_
        rintro e w1 ⟨rfl, hb1⟩
        have HK2 := Lib.hid ((HK.out.later (below_alloc wr _)).later hb1)
        clear hb1
        go_wp2
        go_ret
        exact says_un (decide_eq_false HN.out) HK2.out.1
    · obtain rfl : k = l.length := by omega
      have HN := Lib.hid HU.out.all
      go_wp2
      go_ret
      exact says_un HN.out HK.out.1
end Go.Proofs.YtdbmeocpjopdhaaGreatDoor
