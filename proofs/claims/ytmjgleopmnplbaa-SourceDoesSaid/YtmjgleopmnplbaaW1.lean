/- Contracts of package source: the first walks. -/
import Derived.Test.YtmjgleopmnplbaaRows
import Derived.Test.YtmjgleopmnplbaaBase
import Derived.WalkSpells
import Derived.WalkLawsBesides
import Derived.BigQuiet
import Derived.Deep.QuietTactic
namespace Go.Proofs.Ytmjgleopmnplbaa
open Go.RowKit
set_option linter.unusedVariables false

/-- A value of package source. -/
structure SV where
  name : ByteArray
  text : ByteArray
  pos : Nat
  blank : Bool
def SV.cells (v : SV) : List Value := [.string v.name, .string v.text, .int .i64 v.pos, .bool v.blank]
theorem SV.len (v : SV) : v.cells.length = 4 := rfl

/-- What lies at *source.Source. -/
structure Src (w : World) (B g : Nat) (sl : Value) (vs : List SV) (n : Nat) : Prop where
  blk : Blk w g 45 #[sl, .int .i64 n]
  base : B ≤ g
  own : w.ownsRow B 47 4 sl vs.length (vs.flatMap SV.cells)

theorem Src.keeps {w w' : World} {B B' g : Nat} {sl : Value} {vs : List SV} {n : Nat} {T : List TypeId} (h : Src w B g sl vs n) (k : Keeps B' T w w') (h1 : 45 ∉ T) (h2 : 47 ∉ T) : Src w' B g sl vs n :=
  ⟨k.blk h.blk (.inr h1), h.base, k.own h.own (.inr h2)⟩
theorem Src.max {w : World} {B g : Nat} {sl : Value} {vs : List SV} {n : Nat} (h : Src w B g sl vs n) : vs.length ≤ 9223372036854775807 := own_max h.own

theorem Src.slice {w : World} {B g : Nat} {sl : Value} {vs : List SV} {n : Nat} (h : Src w B g sl vs n) : ∃ a c, sl = .slice a vs.length c := by
  rcases own_form h.own with ⟨h1, h2⟩ | ⟨b, c, h1, _⟩
  · exact ⟨none, 0, by rw [h2]; exact h1⟩
  · exact ⟨_, _, h1⟩
/-- Where the place k is. -/
theorem Src.at_ {w : World} {B g : Nat} {sl : Value} {vs : List SV} {n : Nat} (h : Src w B g sl vs n) (k : Nat) (hk : k < vs.length) :
    ∃ b c, sl = .slice (some ⟨b, 0, none⟩) vs.length c ∧ B ≤ b ∧ b < w.heap.size ∧ b ≠ g ∧
      w.cell? ⟨b, k * 4, none⟩ = some (.string vs[k].name) ∧ w.cell? ⟨b, k * 4 + 1, none⟩ = some (.string vs[k].text) ∧ w.cell? ⟨b, k * 4 + 2, none⟩ = some (.int .i64 vs[k].pos) ∧ w.cell? ⟨b, k * 4 + 3, none⟩ = some (.bool vs[k].blank) := by
  rcases own_form h.own with ⟨h1, h2⟩ | ⟨b, c, h1, h2, h3, h4, h5, cur, h6⟩
  · omega
  · subst h1
    have e := fun j (hj : j < 4) => (own_cell h.own (k * 4 + j) (by omega)).trans (fm_get SV.cells 4 SV.len vs k j hk hj)
    exact ⟨b, c, rfl, h2, h3, h6.ne_ h.blk (by decide), e 0 (by omega), e 1 (by omega), e 2 (by omega), e 3 (by omega)⟩

theorem deep_nil (w : World) : Calls Try.prog 16 #[.pointer none] w fun e w' => e = .returned (.int .i64 0) ∧ w = w' := by
  go_enter Try.func16, Try.ntmps16
  go_wp2
  go_ret
  exact ⟨rfl, rfl⟩

theorem deep_any {w : World} {B g : Nat} {sl : Value} {vs : List SV} {n : Nat} (h : Src w B g sl vs n) :
    Calls Try.prog 16 #[.pointer (some ⟨g, 0, none⟩)] w fun e w' => e = .returned (.int .i64 vs.length) ∧ w = w' := by
  obtain ⟨a, c, rfl⟩ := h.slice
  have h0 := h.blk.cell 0
  simp only [List.getElem?_toArray, List.getElem?_cons_zero] at h0
  clear h
  go_enter Try.func16, Try.ntmps16
  go_wp2
  go_ret
  exact ⟨rfl, rfl⟩

theorem top_any {w : World} {B g : Nat} {sl : Value} {vs : List SV} {n : Nat} (h : Src w B g sl vs n) :
    Calls Try.prog 24 #[.pointer (some ⟨g, 0, none⟩)] w fun e w' => e = .returned (.int .i64 (vs.length - 1)) ∧ w = w' := by
  have hn := h.max
  go_enter Try.func24, Try.ntmps24
  go_wp2_with (go_at_call 16; refine (deep_any h).mono ?_; rintro e w' ⟨rfl, rfl⟩)
  go_ret
  exact ⟨rfl, rfl⟩

theorem top_nil (w : World) : Calls Try.prog 24 #[.pointer none] w fun e w' => e = .returned (.int .i64 (-1)) ∧ w = w' := by
  go_enter Try.func24, Try.ntmps24
  go_wp2_with (go_at_call 16; refine (deep_nil _).mono ?_; rintro e w' ⟨rfl, rfl⟩)
  go_ret
  exact ⟨rfl, rfl⟩

theorem count_nil (w : World) : Calls Try.prog 12 #[.pointer none] w fun e w' => e = .returned (.int .i64 0) ∧ w = w' := by
  go_enter Try.func12, Try.ntmps12
  go_wp2
  go_ret
  exact ⟨rfl, rfl⟩

theorem count_any {w : World} {B g : Nat} {sl : Value} {vs : List SV} {n : Nat} (h : Src w B g sl vs n) :
    Calls Try.prog 12 #[.pointer (some ⟨g, 0, none⟩)] w fun e w' => e = .returned (.int .i64 n) ∧ w = w' := by
  have h0 := h.blk.cell 1
  simp only [List.getElem?_toArray, List.getElem?_cons_succ, List.getElem?_cons_zero] at h0
  clear h
  go_enter Try.func12, Try.ntmps12
  go_wp2
  go_ret
  exact ⟨rfl, rfl⟩

theorem peek_nil (w : World) : Calls Try.prog 9 #[.pointer none] w fun e w' => e = .returned (.tuple #[.int .u8 0, .bool false]) ∧ w = w' := by
  go_enter Try.func9, Try.ntmps9
  go_wp2_with (go_at_call 24; refine (top_nil _).mono ?_; rintro e w' ⟨rfl, rfl⟩)
  go_ret2
  exact ⟨rfl, rfl⟩

theorem peek_empty {w : World} {B g : Nat} {sl : Value} {n : Nat} (h : Src w B g sl [] n) :
    Calls Try.prog 9 #[.pointer (some ⟨g, 0, none⟩)] w fun e w' => e = .returned (.tuple #[.int .u8 0, .bool false]) ∧ w = w' := by
  go_enter Try.func9, Try.ntmps9
  go_wp2_with (go_at_call 24; refine (top_any h).mono ?_; rintro e w' ⟨rfl, rfl⟩)
  go_ret2
  exact ⟨rfl, rfl⟩

theorem peek_any {w : World} {B g : Nat} {sl : Value} {vs : List SV} {v : SV} {n : Nat} (h : Src w B g sl (vs ++ [v]) n) (hk : v.pos < v.text.size) (hs : v.text.size ≤ maxLen) :
    Calls Try.prog 9 #[.pointer (some ⟨g, 0, none⟩)] w fun e w' => e = .returned (.tuple #[.int .u8 v.text[v.pos].toNat, .bool true]) ∧ ∃ m, w' = w.drewN m := by
  unfold maxLen at hs
  have ht := top_any h
  have hn := h.max
  obtain ⟨b, c, rfl, -, -, -, e0, e1, e2, e3⟩ := h.at_ vs.length (by simp)
  have h0 := h.blk.cell 0
  simp only [List.getElem?_toArray, List.getElem?_cons_zero] at h0
  clear h
  simp only [List.getElem_append_right, Nat.le_refl, Nat.sub_self, List.getElem_cons_zero, List.length_append, List.length_cons, List.length_nil] at *
  simp only [Int.natCast_add, Nat.zero_add, Int.cast_ofNat_Int, Int.add_sub_cancel] at ht
  obtain ⟨nm, tx, p, bl⟩ := v
  dsimp only at *
  have HT := hide ht
  clear ht
  go_enter Try.func9, Try.ntmps9
  go_wp2_with (go_at_call 24; refine HT.out.mono ?_; rintro e w' ⟨rfl, rfl⟩)
  go_quiet (fail)
  go_wp2
  go_ret2
  exact ⟨rfl, _, rfl⟩

theorem active_nil (s : ByteArray) (w : World) : Calls Try.prog 18 #[.pointer none, .string s] w fun e w' => e = .returned (.bool false) ∧ w = w' := by
  go_enter Try.func18, Try.ntmps18
  go_wp2_with (go_at_call 16; refine (deep_nil _).mono ?_; rintro e w' ⟨rfl, rfl⟩)
  go_loop [9] (fun i => i = .int .i64 0) (fun _ => 0)
  case atStart => rfl
  case round =>
    obtain rfl := hrel
    go_wp2
    go_ret
    exact ⟨rfl, rfl⟩
end Go.Proofs.Ytmjgleopmnplbaa
