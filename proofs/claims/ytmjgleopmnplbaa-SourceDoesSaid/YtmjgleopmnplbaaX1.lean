/- Contracts of package conchref37, and of Names of both, and of Same. -/
import Derived.Test.YtmjgleopmnplbaaR1
import Derived.Test.YtmjgleopmnplbaaApp
namespace Go.Proofs.Ytmjgleopmnplbaa
open Go.RowKit
set_option linter.unusedVariables false

structure RV where
  name : ByteArray
  left : ByteArray
  blank : Bool
def RV.cells (v : RV) : List Value := [.string v.name, .string v.left, .bool v.blank]
theorem RV.len (v : RV) : v.cells.length = 3 := rfl

structure Ref (w : World) (B g : Nat) (sl : Value) (vs : List RV) (n : Nat) : Prop where
  blk : Blk w g 35 #[sl, .int .i64 n]
  base : B ≤ g
  own : w.ownsRow B 50 3 sl vs.length (vs.flatMap RV.cells)

section
variable {w w' : World} {B B' g : Nat} {sl : Value} {vs : List RV} {n : Nat} {T : List TypeId}
theorem Ref.keeps (h : Ref w B g sl vs n) (k : Keeps B' T w w') (h1 : 35 ∉ T) (h2 : 50 ∉ T) : Ref w' B g sl vs n := ⟨k.blk h.blk (.inr h1), h.base, k.own h.own (.inr h2)⟩
theorem Ref.max (h : Ref w B g sl vs n) : vs.length ≤ 9223372036854775807 := own_max h.own
theorem Ref.slice (h : Ref w B g sl vs n) : ∃ a c, sl = .slice a vs.length c := by
  rcases own_form h.own with ⟨h1, h2⟩ | ⟨b, c, h1, _⟩
  · exact ⟨none, 0, by rw [h2]; exact h1⟩
  · exact ⟨_, _, h1⟩
theorem Ref.at_ (h : Ref w B g sl vs n) (k : Nat) (hk : k < vs.length) :
    ∃ b c, sl = .slice (some ⟨b, 0, none⟩) vs.length c ∧ B ≤ b ∧ b < w.heap.size ∧ b ≠ g ∧
      w.cell? ⟨b, k * 3, none⟩ = some (.string vs[k].name) ∧ w.cell? ⟨b, k * 3 + 1, none⟩ = some (.string vs[k].left) ∧ w.cell? ⟨b, k * 3 + 2, none⟩ = some (.bool vs[k].blank) := by
  rcases own_form h.own with ⟨h1, h2⟩ | ⟨b, c, h1, h2, h3, h4, h5, cur, h6⟩
  · omega
  · subst h1
    have e := fun j (hj : j < 3) => (own_cell h.own (k * 3 + j) (by omega)).trans (fm_get RV.cells 3 RV.len vs k j hk hj)
    exact ⟨b, c, rfl, h2, h3, h6.ne_ h.blk (by decide), e 0 (by omega), e 1 (by omega), e 2 (by omega)⟩
end

def namedR (s : ByteArray) (v : RV) : Bool := v.name.toList == s.toList

theorem ractive {w : World} {B g : Nat} {sl : Value} {vs : List RV} {n : Nat} (h : Ref w B g sl vs n) (s : ByteArray) :
    Calls Try.prog 19 #[.pointer (some ⟨g, 0, none⟩), .string s] w fun e w' => e = .returned (.bool (vs.any (namedR s))) ∧ w = w' := by
  have hn := h.max
  have h0 := h.blk.cell 0
  obtain ⟨a, c, rfl⟩ := h.slice
  simp only [List.getElem?_toArray, List.getElem?_cons_zero] at h0
  have H := hide h
  clear h
  go_enter Try.func19, Try.ntmps19
  go_wp2
  go_loop [5] (fun i => ∃ k : Nat, k ≤ vs.length ∧ i = .int .i64 k ∧ (vs.take k).any (namedR s) = false) (fun i => vs.length - (intOf i).toNat)
  case atStart => exact ⟨0, Nat.zero_le _, rfl, by simp⟩
  case round =>
    obtain ⟨k, hk, rfl, hany⟩ := hrel
    have HA := hide hany
    clear hany
    by_cases hlt : k < vs.length
    · obtain ⟨b, c, hsl, -, hbs, -, e0, e1, e2⟩ := H.out.at_ k hlt
      cases hsl
      have hA2 := any_take_succ (namedR s) vs k hlt
      rw [HA.out, Bool.false_or] at hA2
      generalize hv : vs[k] = v at *
      clear hv
      have HA2 := hide hA2
      clear hA2
      obtain ⟨nm, tx, bl⟩ := v
      dsimp only at *
      go_wp2
      · have hnm : (nm.toList == s.toList) = true := by assumption
        go_ret
        exact ⟨ret_bool (any_of_take _ _ (k + 1) (HA2.out.trans (by simp [namedR, hnm]))).symm, rfl⟩
      · have hnm : (nm.toList == s.toList) = false := by assumption
        go_round
        case rel => exact ⟨k + 1, by omega, by go_num, HA2.out.trans (by simp [namedR, hnm])⟩
        case measure => simp [intOf]; omega
    · go_wp2
      go_ret
      exact ⟨ret_bool (by have := HA.out; rw [List.take_of_length_le (by omega)] at this; rw [this]), rfl⟩

theorem rpeek_empty {w : World} {B g : Nat} {sl : Value} {n : Nat} (h : Ref w B g sl [] n) :
    Calls Try.prog 15 #[.pointer (some ⟨g, 0, none⟩)] w fun e w' => e = .returned (.tuple #[.int .u8 0, .bool false]) ∧ w = w' := by
  obtain ⟨a, c, rfl⟩ := h.slice
  have h0 := h.blk.cell 0
  simp only [List.getElem?_toArray, List.getElem?_cons_zero] at h0
  clear h
  go_enter Try.func15, Try.ntmps15
  go_wp2
  go_ret2
  exact ⟨rfl, rfl⟩

theorem rpeek {w : World} {B g : Nat} {sl : Value} {vs : List RV} {v : RV} {n : Nat} (h : Ref w B g sl (vs ++ [v]) n) (hk : 0 < v.left.size) :
    Calls Try.prog 15 #[.pointer (some ⟨g, 0, none⟩)] w fun e w' => e = .returned (.tuple #[.int .u8 v.left[0].toNat, .bool true]) ∧ ∃ m, w' = w.drewN m := by
  have hn := h.max
  obtain ⟨b, c, rfl, -, -, -, e0, e1, e2⟩ := h.at_ vs.length (by simp)
  have h0 := h.blk.cell 0
  simp only [List.getElem?_toArray, List.getElem?_cons_zero] at h0
  clear h
  simp only [List.getElem_append_right, Nat.le_refl, Nat.sub_self, List.getElem_cons_zero, List.length_append, List.length_cons, List.length_nil] at *
  obtain ⟨nm, tx, bl⟩ := v
  dsimp only at *
  have hl0 : (((vs.length : Int) + 1) == 0) = false := by simp; omega
  go_enter Try.func15, Try.ntmps15
  go_wp2
  go_quiet (fail)
  go_wp2
  go_ret2
  exact ⟨rfl, _, rfl⟩

def leftR (vs : List RV) : Nat := (vs.map fun v => v.left.size).sum
theorem leftR_succ (vs : List RV) (k : Nat) (hk : k < vs.length) : leftR (vs.take (k + 1)) = leftR (vs.take k) + vs[k].left.size := by
  unfold leftR
  rw [List.take_succ_eq_append_getElem hk, List.map_append, List.sum_append, List.map_cons, List.map_nil, List.sum_cons, List.sum_nil, Nat.add_zero]
theorem leftR_le (vs : List RV) (M : Nat) (h : ∀ v ∈ vs, v.left.size ≤ M) : leftR vs ≤ vs.length * M := by
  induction vs with
  | nil => simp [leftR]
  | cons v l ih =>
    have := ih fun u hu => h u (by simp [hu])
    have := h v (by simp)
    simp only [leftR, List.map_cons, List.sum_cons, List.length_cons, Nat.add_mul] at *
    omega
theorem rleft {w : World} {B g : Nat} {sl : Value} {vs : List RV} {n : Nat} (h : Ref w B g sl vs n) (ht : ∀ v ∈ vs, v.left.size ≤ 1000) (hl : vs.length ≤ 1000) :
    Calls Try.prog 17 #[.pointer (some ⟨g, 0, none⟩)] w fun e w' => e = .returned (.int .i64 (leftR vs : Nat)) ∧ w = w' := by
  have hle : ∀ k, leftR (vs.take k) ≤ 1000000 := fun k => by
    have h1 := leftR_le (vs.take k) 1000 fun v hv => (ht v (List.mem_of_mem_take hv))
    have h2 : (vs.take k).length ≤ vs.length := by simp; omega
    have h3 : (vs.take k).length * 1000 ≤ 1000 * 1000 := Nat.mul_le_mul_right _ (by omega)
    omega
  obtain ⟨a, c, rfl⟩ := h.slice
  have h0 := h.blk.cell 0
  simp only [List.getElem?_toArray, List.getElem?_cons_zero] at h0
  have H := hide h
  have HL := hide hle
  have HT := hide ht
  clear h hle ht
  go_enter Try.func17, Try.ntmps17
  go_wp2
  go_loop [4, 3] (fun i t => ∃ k : Nat, k ≤ vs.length ∧ i = .int .i64 k ∧ t = .int .i64 (leftR (vs.take k) : Nat)) (fun i _ => vs.length - (intOf i).toNat)
  case atStart => exact ⟨0, Nat.zero_le _, rfl, by simp [leftR]⟩
  case round =>
    obtain ⟨k, hk, rfl, rfl⟩ := hrel
    by_cases hlt : k < vs.length
    · obtain ⟨b, c, hsl, -, hbs, -, e0, e1, e2⟩ := H.out.at_ k hlt
      cases hsl
      have hA2 := leftR_succ vs k hlt
      have hk1 := HL.out k
      have ht1 := HT.out vs[k] (List.getElem_mem hlt)
      generalize hv : vs[k] = v at *
      clear hv
      obtain ⟨nm, tx, bl⟩ := v
      dsimp only at *
      generalize hx : leftR (List.take k vs) = x at *
      clear hx
      have HA2 := hide hA2
      clear hA2
      go_wp2
      go_round
      case rel => exact ⟨k + 1, by omega, by go_num, by rw [HA2.out]; go_num⟩
      case measure => simp [intOf]; omega
    · have hx : leftR (vs.take k) = leftR vs := by rw [List.take_of_length_le (by omega)]
      go_wp2
      go_ret
      exact ⟨rfl, rfl⟩
end Go.Proofs.Ytmjgleopmnplbaa
