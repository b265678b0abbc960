/- Contracts: Names of both, Same. -/
import Derived.Test.YtmjgleopmnplbaaX1
namespace Go.Proofs.Ytmjgleopmnplbaa
open Go.RowKit
set_option linter.unusedVariables false

theorem Try.info9' : (Try.prog.info? 9).map (fun i => (i.zero, i.size, i.bytes)) = some (some (.string ByteArray.empty), 1, 16) := by kernel_rfl
theorem El40 : El Try.prog 40 9 1 16 := El.of Try.underlying40 Try.info9' rfl (by decide)

def strs (l : List ByteArray) : List Value := l.map Value.string

theorem names_any {w : World} {B g : Nat} {sl : Value} {vs : List SV} {n : Nat} (h : Src w B g sl vs n) (hl : vs.length ≤ 1000) :
    Calls Try.prog 21 #[.pointer (some ⟨g, 0, none⟩)] w fun e w' => ∃ A c, e = .returned (.slice A vs.length c) ∧ w'.ownsRow w.heap.size 9 1 (.slice A vs.length c) vs.length (strs (vs.map SV.name)) ∧ Below w.heap.size w w' := by
  have H := hide h
  clear h
  go_enter Try.func21, Try.ntmps21
  go_wp2_with (go_at_call 16; refine (deep_any H.out).mono ?_; rintro e w' ⟨rfl, rfl⟩)
  go_loopw [7, 3] (fun i t wr => ∃ k : Nat, k ≤ vs.length ∧ i = .int .i64 k ∧ (∃ A c, t = .slice A k c ∧ wr.ownsRow w.heap.size 9 1 (.slice A k c) k (strs ((vs.take k).map SV.name))) ∧ Below w.heap.size w wr) (fun i _ _ => vs.length - (intOf i).toNat)
  case atStart => exact ⟨0, Nat.zero_le _, rfl, ⟨none, 0, rfl, World.ownsRow_nil _ _ _ _⟩, Below.refl _ _⟩
  case round =>
    obtain ⟨k, hk, rfl, ⟨A, c, rfl, ho⟩, hb⟩ := hrel
    have HO := hide ho
    clear ho
    by_cases hlt : k < vs.length
    · have h2 := H.out.keeps (Keeps.of_below hb (B := 0) (T := [])) (by simp) (by simp)
      have h0 := h2.blk.cell 0
      simp only [List.getElem?_toArray, List.getElem?_cons_zero] at h0
      obtain ⟨b, c', rfl, -, hbs, -, e0, e1, e2, e3⟩ := h2.at_ k hlt
      clear h2
      have HB := hide hb
      have HT : Hid (strs ((vs.take (k + 1)).map SV.name) = strs ((vs.take k).map SV.name) ++ [.string vs[k].name]) := by
        unfold Hid strs; rw [List.take_succ_eq_append_getElem hlt, List.map_append, List.map_append]; rfl
      generalize hv : vs[k] = v at *
      clear hv hb
      obtain ⟨nm, tx, p, bl⟩ := v
      dsimp only at *
      have hbw : w.heap.size ≤ wr.heap.size := HB.out.size
      go_wp2_with (at_builtin; refine wpList_app El40 (.tmp 10) (.tmp 19) rfl rfl (n := k) (m := 1) (N := k + 1) (v := .slice A k c) (src := .slice (some ⟨wr.heap.size, 0, none⟩) 1 1) (news := [.string nm]) rfl rfl (HO.out.alloc _) (SrcOK.blk (Blk.new _ _ _) rfl (by simp [Value.oneCell'])) rfl (by unfold maxLen; omega) (by omega) (by simp; omega) ?_; intro A' c' w1 r1 r2 _)
      have HR1 : Hid (w1.ownsRow w.heap.size 9 1 (.slice A' (k + 1) c') (k + 1) (strs ((vs.take (k + 1)).map SV.name))) := by unfold Hid; rw [HT.out]; exact r1
      have HR2 := hide ((HB.out.alloc HB.out.size (.cells #[.string nm] 9)).trans (r2.below (by simp; omega)))
      clear r1 r2
      go_wp2
      go_roundw
      case rel => exact ⟨k + 1, by omega, by go_num, ⟨A', c', rfl, HR1.out⟩, HR2.out⟩
      case measure => simp [intOf]; omega
    · obtain rfl : k = vs.length := by omega
      have HO2 : Hid (wr.ownsRow w.heap.size 9 1 (.slice A vs.length c) vs.length (strs (vs.map SV.name))) := by
        have := HO.out; rw [List.take_length] at this; exact this
      go_wp2
      go_ret
      exact ⟨A, c, rfl, HO2.out, hb⟩

theorem rnames {w : World} {B g : Nat} {sl : Value} {vs : List RV} {n : Nat} (h : Ref w B g sl vs n) (hl : vs.length ≤ 1000) :
    Calls Try.prog 22 #[.pointer (some ⟨g, 0, none⟩)] w fun e w' => ∃ A c, e = .returned (.slice A vs.length c) ∧ w'.ownsRow w.heap.size 9 1 (.slice A vs.length c) vs.length (strs (vs.map RV.name)) ∧ Below w.heap.size w w' := by
  obtain ⟨a, c, rfl⟩ := h.slice
  have H := hide h
  have hgs := h.blk.lt
  have h00 := h.blk.cell 0
  simp only [List.getElem?_toArray, List.getElem?_cons_zero] at h00
  clear h
  go_enter Try.func22, Try.ntmps22
  go_wp2
  go_loopw [4, 3] (fun i t wr => ∃ k : Nat, k ≤ vs.length ∧ i = .int .i64 k ∧ (∃ A c, t = .slice A k c ∧ wr.ownsRow w.heap.size 9 1 (.slice A k c) k (strs ((vs.take k).map RV.name))) ∧ Below w.heap.size w wr) (fun i _ _ => vs.length - (intOf i).toNat)
  case atStart => exact ⟨0, Nat.zero_le _, rfl, ⟨none, 0, rfl, World.ownsRow_nil _ _ _ _⟩, Below.refl _ _⟩
  case round =>
    obtain ⟨k, hk, rfl, ⟨A, c', rfl, ho⟩, hb⟩ := hrel
    have HO := hide ho
    clear ho
    have h0 : wr.cell? ⟨g, 0, none⟩ = some (.slice a vs.length c) := (hb.cell (p := ⟨g, 0, none⟩) hgs).trans h00
    by_cases hlt : k < vs.length
    · have h2 := H.out.keeps (Keeps.of_below hb (B := 0) (T := [])) (by simp) (by simp)
      obtain ⟨b, c'', hsl, -, hbs, -, e0, e1, e2⟩ := h2.at_ k hlt
      cases hsl
      clear h2
      have HB := hide hb
      have HT : Hid (strs ((vs.take (k + 1)).map RV.name) = strs ((vs.take k).map RV.name) ++ [.string vs[k].name]) := by
        unfold Hid strs; rw [List.take_succ_eq_append_getElem hlt, List.map_append, List.map_append]; rfl
      generalize hv : vs[k] = v at *
      clear hv hb
      obtain ⟨nm, tx, bl⟩ := v
      dsimp only at *
      have hbw : w.heap.size ≤ wr.heap.size := HB.out.size
      go_wp2_with (at_builtin; refine wpList_app El40 (.tmp 14) (.tmp 23) rfl rfl (n := k) (m := 1) (N := k + 1) (v := .slice A k c') (src := .slice (some ⟨wr.heap.size, 0, none⟩) 1 1) (news := [.string nm]) rfl rfl (HO.out.alloc _) (SrcOK.blk (Blk.new _ _ _) rfl (by simp [Value.oneCell'])) rfl (by unfold maxLen; omega) (by omega) (by simp; omega) ?_; intro A' c' w1 r1 r2 _)
      have HR1 : Hid (w1.ownsRow w.heap.size 9 1 (.slice A' (k + 1) c') (k + 1) (strs ((vs.take (k + 1)).map RV.name))) := by unfold Hid; rw [HT.out]; exact r1
      have HR2 := hide ((HB.out.alloc HB.out.size (.cells #[.string nm] 9)).trans (r2.below (by simp; omega)))
      clear r1 r2
      go_wp2
      go_roundw
      case rel => exact ⟨k + 1, by omega, by go_num, ⟨A', c', rfl, HR1.out⟩, HR2.out⟩
      case measure => simp [intOf]; omega
    · obtain rfl : k = vs.length := by omega
      have HO2 : Hid (wr.ownsRow w.heap.size 9 1 (.slice A vs.length c') vs.length (strs (vs.map RV.name))) := by
        have := HO.out; rw [List.take_length] at this; exact this
      go_wp2
      go_ret
      exact ⟨A, c', rfl, HO2.out, hb⟩

/-- Same, of two lists that are the same. -/
theorem same_yes {w : World} {B B' : Nat} {A A' : Option Addr} {c c' : Nat} {l : List ByteArray} (h : w.ownsRow B 9 1 (.slice A l.length c) l.length (strs l)) (h' : w.ownsRow B' 9 1 (.slice A' l.length c') l.length (strs l)) (hl : l.length ≤ 1000) :
    Calls Try.prog 20 #[.slice A l.length c, .slice A' l.length c'] w fun e w' => e = .returned (.bool true) ∧ ∃ m, w' = w.drewN m := by
  have H := hide h
  have H' := hide h'
  clear h h'
  have h0 : ((l.length : Int) != (l.length : Int)) = false := by simp
  go_enter Try.func20, Try.ntmps20
  go_wp2
  go_loopw [5] (fun i wr => ∃ k : Nat, k ≤ l.length ∧ i = .int .i64 k ∧ ∃ m, wr = w.drewN m) (fun i _ => l.length - (intOf i).toNat)
  case atStart => exact ⟨0, Nat.zero_le _, rfl, 0, rfl⟩
  case round =>
    obtain ⟨k, hk, rfl, m, rfl⟩ := hrel
    by_cases hlt : k < l.length
    · have hlI : (k : Int) < (l.length : Int) := by omega
      have hx : w.ownsRow B 9 1 (.slice A l.length c) l.length (strs l) := H.out
      have hx' : w.ownsRow B' 9 1 (.slice A' l.length c') l.length (strs l) := H'.out
      rcases own_form hx with ⟨h1, h2⟩ | ⟨b, c1, h1, -⟩
      · omega
      · cases h1
        rcases own_form hx' with ⟨h1, h2⟩ | ⟨b', c1', h1, -⟩
        · omega
        · cases h1
          have e : (strs l)[k]? = some (.string l[k]) := by simp [strs, hlt]
          have e0 := (own_cell hx k (by omega)).trans e
          have e0' := (own_cell hx' k (by omega)).trans e
          clear hx hx' e
          generalize l[k] = s at *
          have hs : (s.toList == s.toList) = true := by simp
          go_wp2
          go_quiet (fail)
          go_wp2
          go_roundw
          case rel => exact ⟨k + 1, by omega, by go_num, _, rfl⟩
          case measure => simp [intOf]; omega
    · go_wp2
      go_ret
      exact ⟨rfl, _, rfl⟩
end Go.Proofs.Ytmjgleopmnplbaa
