/- Contracts of package source: Active, Left. -/
import Derived.Test.YtmjgleopmnplbaaW1
import Derived.Laws.StructEq
namespace Go.Proofs.Ytmjgleopmnplbaa
open Go.RowKit
set_option linter.unusedVariables false

theorem ret_bool {a b : Bool} (h : a = b) : Ending.returned (.bool a) = .returned (.bool b) := by rw [h]
theorem ret_int {k : IntKind} {a b : Int} (h : a = b) : Ending.returned (.int k a) = .returned (.int k b) := by rw [h]
def named (s : ByteArray) (v : SV) : Bool := v.name.toList == s.toList

theorem any_take_succ {α : Type} (p : α → Bool) (l : List α) (k : Nat) (hk : k < l.length) : (l.take (k + 1)).any p = ((l.take k).any p || p l[k]) := by
  rw [List.take_succ_eq_append_getElem hk, List.any_append, List.any_cons, List.any_nil, Bool.or_false]
theorem any_of_take {α : Type} (p : α → Bool) (l : List α) (k : Nat) (h : (l.take k).any p = true) : l.any p = true := by
  rw [List.any_eq_true] at *
  obtain ⟨x, hx, hp⟩ := h
  exact ⟨x, List.mem_of_mem_take hx, hp⟩

theorem active_any {w : World} {B g : Nat} {sl : Value} {vs : List SV} {n : Nat} (h : Src w B g sl vs n) (s : ByteArray) :
    Calls Try.prog 18 #[.pointer (some ⟨g, 0, none⟩), .string s] w fun e w' => e = .returned (.bool (vs.any (named s))) ∧ Below w.heap.size w w' := by
  have hn := h.max
  have H := hide h
  clear h
  go_enter Try.func18, Try.ntmps18
  go_wp2_with (go_at_call 16; refine (deep_any H.out).mono ?_; rintro e w' ⟨rfl, rfl⟩)
  go_loopw [9] (fun i wr => ∃ k : Nat, k ≤ vs.length ∧ i = .int .i64 k ∧ (vs.take k).any (named s) = false ∧ Below w.heap.size w wr) (fun i _ => vs.length - (intOf i).toNat)
  case atStart => exact ⟨0, Nat.zero_le _, rfl, by simp, Below.refl _ _⟩
  case round =>
    obtain ⟨k, hk, rfl, hany, hb⟩ := hrel
    have HA := hide hany
    clear hany
    by_cases hlt : k < vs.length
    · have h2 := (H.out).keeps (Keeps.of_below hb (B := 0) (T := [])) (by simp) (by simp)
      have h0 := h2.blk.cell 0
      simp only [List.getElem?_toArray, List.getElem?_cons_zero] at h0
      obtain ⟨b, c, rfl, -, hbs, -, e0, e1, e2, e3⟩ := h2.at_ k hlt
      have hA2 := any_take_succ (named s) vs k hlt
      rw [HA.out, Bool.false_or] at hA2
      generalize hv : vs[k] = v at *
      clear hv h2
      have HA2 := hide hA2
      clear hA2
      obtain ⟨nm, tx, p, bl⟩ := v
      have HB := hide (hb.alloc hb.size (.cells #[.string nm, .string tx, .int .i64 p, .bool bl] 47))
      clear hb
      dsimp only at *
      go_wp2
      · have hnm : nm.toList = s.toList := by assumption
        go_ret
        exact ⟨ret_bool (any_of_take _ _ (k + 1) (HA2.out.trans (by simp [named, hnm]))).symm, HB.out⟩
      · have hnm : ¬ nm.toList = s.toList := by assumption
        go_roundw
        case rel => exact ⟨k + 1, by omega, by go_num, HA2.out.trans (by simp [named, hnm]), HB.out⟩
        case measure => simp [intOf]; omega
    · go_wp2
      go_ret
      exact ⟨ret_bool (by have := HA.out; rw [List.take_of_length_le (by omega)] at this; rw [this]), hb⟩

/-- How many bytes are left. -/
def leftOf (vs : List SV) : Nat := (vs.map fun v => v.text.size - v.pos).sum
theorem left_succ (vs : List SV) (k : Nat) (hk : k < vs.length) : leftOf (vs.take (k + 1)) = leftOf (vs.take k) + (vs[k].text.size - vs[k].pos) := by
  unfold leftOf
  rw [List.take_succ_eq_append_getElem hk, List.map_append, List.sum_append, List.map_cons, List.map_nil, List.sum_cons, List.sum_nil, Nat.add_zero]
theorem left_le (vs : List SV) (M : Nat) (h : ∀ v ∈ vs, v.text.size ≤ M) : leftOf vs ≤ vs.length * M := by
  induction vs with
  | nil => simp [leftOf]
  | cons v l ih =>
    have := ih fun u hu => h u (by simp [hu])
    have := h v (by simp)
    simp only [leftOf, List.map_cons, List.sum_cons, List.length_cons, Nat.add_mul] at *
    omega
theorem left_nil (w : World) : Calls Try.prog 11 #[.pointer none] w fun e w' => e = .returned (.int .i64 0) ∧ w = w' := by
  go_enter Try.func11, Try.ntmps11
  go_wp2_with (go_at_call 16; refine (deep_nil _).mono ?_; rintro e w' ⟨rfl, rfl⟩)
  go_loop [7, 3] (fun i j => i = .int .i64 0 ∧ j = .int .i64 0) (fun _ _ => 0)
  case atStart => exact ⟨rfl, rfl⟩
  case round =>
    obtain ⟨rfl, rfl⟩ := hrel
    go_wp2
    go_ret
    exact ⟨rfl, rfl⟩

theorem left_any {w : World} {B g : Nat} {sl : Value} {vs : List SV} {n : Nat} (h : Src w B g sl vs n) (ht : ∀ v ∈ vs, v.pos ≤ v.text.size ∧ v.text.size ≤ 1000) (hl : vs.length ≤ 1000) :
    Calls Try.prog 11 #[.pointer (some ⟨g, 0, none⟩)] w fun e w' => e = .returned (.int .i64 (leftOf vs : Nat)) ∧ ∃ m, w' = w.drewN m := by
  have hle : ∀ k, leftOf (vs.take k) ≤ 1000000 := fun k => by
    have h1 := left_le (vs.take k) 1000 fun v hv => (ht v (List.mem_of_mem_take hv)).2
    have h2 : (vs.take k).length ≤ vs.length := by simp; omega
    have h3 : (vs.take k).length * 1000 ≤ 1000 * 1000 := Nat.mul_le_mul_right _ (by omega)
    omega
  have H := hide h
  have HL := hide hle
  have HT := hide ht
  clear h hle ht
  go_enter Try.func11, Try.ntmps11
  go_wp2_with (go_at_call 16; refine (deep_any H.out).mono ?_; rintro e w' ⟨rfl, rfl⟩)
  go_loopw [7, 3] (fun i t wr => ∃ k : Nat, k ≤ vs.length ∧ i = .int .i64 k ∧ t = .int .i64 (leftOf (vs.take k) : Nat) ∧ ∃ m, wr = w.drewN m) (fun i _ _ => vs.length - (intOf i).toNat)
  case atStart => exact ⟨0, Nat.zero_le _, rfl, by simp [leftOf], 0, rfl⟩
  case round =>
    obtain ⟨k, hk, rfl, rfl, m, rfl⟩ := hrel
    by_cases hlt : k < vs.length
    · have h0 := H.out.blk.cell 0
      simp only [List.getElem?_toArray, List.getElem?_cons_zero] at h0
      obtain ⟨b, c, rfl, -, hbs, -, -, e1, e2, -⟩ := H.out.at_ k hlt
      have hA2 := left_succ vs k hlt
      have hk1 := HL.out k
      obtain ⟨ht1, ht2⟩ := HT.out vs[k] (List.getElem_mem hlt)
      generalize hv : vs[k] = v at *
      clear hv
      obtain ⟨nm, tx, p, bl⟩ := v
      dsimp only at *
      generalize hx : leftOf (List.take k vs) = x at *
      clear hx
      have HA2 := hide hA2
      clear hA2
      go_wp2
      go_quiet (fail)
      go_wp2
      go_roundw
      case rel => exact ⟨k + 1, by omega, by go_num, by rw [HA2.out]; go_num, _, rfl⟩
      case measure => simp [intOf]; omega
    · have hx : leftOf (vs.take k) = leftOf vs := by rw [List.take_of_length_le (by omega)]
      go_wp2
      go_ret
      exact ⟨ret_int (by rw [hx]), m, rfl⟩
end Go.Proofs.Ytmjgleopmnplbaa
