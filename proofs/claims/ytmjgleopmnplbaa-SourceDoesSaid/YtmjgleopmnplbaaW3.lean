/- Contracts of package source: Blank, Enter. -/
import Derived.Test.YtmjgleopmnplbaaW2
import Derived.Deep.AppendLies
import Derived.Deep.RegionLaw
import Derived.Lib.Strings
namespace Go.Proofs.Ytmjgleopmnplbaa
open Go.RowKit
set_option linter.unusedVariables false

/-- Does it end with this byte? -/
def endsIn (s : ByteArray) (c : UInt8) : Bool := s.data.toList.getLast? == some c

theorem endsIn_raw (s : ByteArray) (c : UInt8) (h : 1 ≤ s.size) : ((s.extract (s.size - 1) s.size).toList == [c]) = endsIn s c := by
  rw [Lib.extract_toList]
  unfold endsIn
  have hl : s.data.toList.length = s.size := (Lib.size_eq s).symm
  rcases List.eq_nil_or_concat s.data.toList with h0 | ⟨l, x, hx⟩
  · rw [h0] at hl; simp at hl; omega
  · rw [hx] at hl ⊢
    simp only [List.length_concat] at hl
    rw [List.concat_eq_append, show s.size - 1 = l.length by omega, List.drop_left, show s.size - l.length = 1 by omega, List.getLast?_append]
    by_cases hxc : x = c <;> simp [hxc]

theorem suffix_any (s : ByteArray) (c : UInt8) (hs : s.size ≤ maxLen) (w : World) : Calls Try.prog 26 #[.string s, .string ⟨#[c]⟩] w fun e w' => e = .returned (.bool (endsIn s c)) ∧ w = w' := by
  unfold maxLen at hs
  by_cases h : 1 ≤ s.size
  · have he := endsIn_raw s c h
    go_enter Try.func26, Try.ntmps26
    go_wp2
    all_goals go_ret
    exact ⟨rfl, rfl⟩
  · have he : endsIn s c = false := by
      have hl : s.data.toList.length = s.size := (Lib.size_eq s).symm
      have : s.data.toList = [] := List.eq_nil_of_length_eq_zero (by omega)
      simp [endsIn, this]
    go_enter Try.func26, Try.ntmps26
    go_wp2
    all_goals go_ret
    exact ⟨rfl, rfl⟩

theorem hasSuffix_any (s : ByteArray) (c : UInt8) (hs : s.size ≤ maxLen) (w : World) : Calls Try.prog 25 #[.string s, .string ⟨#[c]⟩] w fun e w' => e = .returned (.bool (endsIn s c)) ∧ w = w' := by
  go_enter Try.func25, Try.ntmps25
  go_wp2_with (go_at_call 26; refine (suffix_any _ _ hs _).mono ?_; rintro e w' ⟨rfl, rfl⟩)
  go_ret
  exact ⟨rfl, rfl⟩

def blankEnd (s : ByteArray) : Bool := endsIn s 32 || endsIn s 9

theorem blank_any (s : ByteArray) (hs : s.size ≤ maxLen) (w : World) : Calls Try.prog 23 #[.string s] w fun e w' => e = .returned (.bool (blankEnd s)) ∧ w = w' := by
  cases h : endsIn s 32
  · have hr : blankEnd s = endsIn s 9 := by simp [blankEnd, h]
    have HR := hide hr
    clear hr
    have h1 := hasSuffix_any s 32 hs w
    rw [h] at h1
    have H1 := hide h1
    clear h1 h
    go_enter Try.func23, Try.ntmps23
    go_wp2_with fail
    refine H1.out.mono ?_
    rintro e w' ⟨rfl, rfl⟩
    go_wp2_with fail
    refine (hasSuffix_any s 9 hs _).mono ?_
    rintro e w' ⟨rfl, rfl⟩
    go_wp2
    go_ret
    exact ⟨ret_bool (by rw [HR.out]), rfl⟩
  · have hr : blankEnd s = true := by simp [blankEnd, h]
    have HR := hide hr
    clear hr
    have h1 := hasSuffix_any s 32 hs w
    rw [h] at h1
    have H1 := hide h1
    clear h1 h
    go_enter Try.func23, Try.ntmps23
    go_wp2_with fail
    refine H1.out.mono ?_
    rintro e w' ⟨rfl, rfl⟩
    go_wp2
    go_ret
    exact ⟨ret_bool (by rw [HR.out]), rfl⟩

theorem enter_nil (s t : ByteArray) (w : World) : Calls Try.prog 8 #[.pointer none, .string s, .string t] w fun e w' => e = .returned (.bool false) ∧ w = w' := by
  go_enter Try.func8, Try.ntmps8
  go_wp2
  go_ret
  exact ⟨rfl, rfl⟩

/-- May a value be entered? -/
def mayEnter (vs : List SV) (s t : ByteArray) : Bool := !(vs.any (named s)) && decide (vs.length < 40) && decide (t.size ≤ 200)

theorem enter_no {w : World} {B g : Nat} {sl : Value} {vs : List SV} {n : Nat} (h : Src w B g sl vs n) (s t : ByteArray) (hno : mayEnter vs s t = false) (ht : t.size ≤ maxLen) :
    Calls Try.prog 8 #[.pointer (some ⟨g, 0, none⟩), .string s, .string t] w fun e w' => e = .returned (.bool false) ∧ Below w.heap.size w w' := by
  have hx := active_any h s
  have hn := h.max
  have h0 := h.blk.cell 0
  simp only [List.getElem?_toArray, List.getElem?_cons_zero] at h0
  obtain ⟨a, c, rfl⟩ := h.slice
  have hg := h.blk.lt
  clear h
  unfold maxLen at ht
  cases ha : vs.any (named s)
  · rw [ha] at hx
    have HX := hide hx
    clear hx
    simp only [mayEnter, ha, Bool.not_false, Bool.true_and, Bool.and_eq_false_iff, decide_eq_false_iff_not] at hno
    clear ha
    by_cases hlen : vs.length < 40
    · have hsz : 200 < t.size := by omega
      clear hno
      go_enter Try.func8, Try.ntmps8
      go_wp2_with fail
      refine HX.out.mono ?_
      rintro e w1 ⟨rfl, hb⟩
      have h1 := (hb.cell (p := ⟨g, 0, none⟩) hg).trans h0
      have HB := hide hb
      clear hb
      go_wp2
      go_ret
      exact ⟨rfl, HB.out⟩
    · clear hno
      go_enter Try.func8, Try.ntmps8
      go_wp2_with fail
      refine HX.out.mono ?_
      rintro e w1 ⟨rfl, hb⟩
      have h1 := (hb.cell (p := ⟨g, 0, none⟩) hg).trans h0
      have HB := hide hb
      clear hb
      go_wp2
      go_ret
      exact ⟨rfl, HB.out⟩
  · rw [ha] at hx
    have HX := hide hx
    clear hx ha hno
    go_enter Try.func8, Try.ntmps8
    go_wp2_with fail
    refine HX.out.mono ?_
    rintro e w1 ⟨rfl, hb⟩
    have HB := hide hb
    clear hb
    go_wp2
    go_ret
    exact ⟨rfl, HB.out⟩

theorem Try.info47 : (Try.prog.info? 47).map (fun i => (i.zero, i.size, i.bytes)) = some (some (.agg #[.string ByteArray.empty, .string ByteArray.empty, .int .i64 0, .bool false]), 4, 48) := by kernel_rfl

theorem mayEnter_yes {vs : List SV} {s t : ByteArray} (h : mayEnter vs s t = true) : vs.any (named s) = false ∧ vs.length < 40 ∧ t.size ≤ 200 := by
  simpa [mayEnter, and_assoc] using h
/-- The value that is entered. -/
def entered (s t : ByteArray) : SV := ⟨s, t ++ ⟨#[32]⟩, 0, blankEnd t⟩

theorem enter_done {w w1 w' : World} {B g g' cap n : Nat} {sl : Value} {vs : List SV} {v : SV} {o : Obj} (hB : Below w.heap.size w w1) (hS : Src w1 B g sl vs n)
    (r1 : w'.ownsRow B 47 4 (.slice (some ⟨g', 0, none⟩) (vs.length + 1) cap) (vs.length + 1) (vs.flatMap SV.cells ++ v.cells))
    (r2 : ((w1.alloc o).drew).grownBy w' sl.ownBlock) (hb : Blk w' g 45 #[sl, .int .i64 n]) :
    Keeps B [45, 47] w (w'.setCell ⟨g, 0, none⟩ (.slice (some ⟨g', 0, none⟩) (vs.length + 1) cap)) ∧
      ∃ sl', Src (w'.setCell ⟨g, 0, none⟩ (.slice (some ⟨g', 0, none⟩) (vs.length + 1) cap)) B g sl' (vs ++ [v]) n := by
  have k1 : Keeps B [45, 47] w w' := by
    refine (((Keeps.of_below hB).alloc o).drew).grown r2 fun k hk => .inr ?_
    have ho := (hS.own.alloc o)
    rcases own_form ho with ⟨h1, _⟩ | ⟨b, c, h1, h2, _, _, _, cur, h3⟩
    · rw [h1] at hk; cases hk
    · rw [h1] at hk
      simp only [Value.ownBlock, Option.some.injEq] at hk
      subst hk
      exact ⟨h2, _, _, _, h3, by simp⟩
  refine ⟨k1.setBlk hb hS.base (by simp) 0 _, _, hb.set_ 0 _, hS.base, ?_⟩
  have hne : (Value.slice (some ⟨g', 0, none⟩) (vs.length + 1) cap).ownBlock ≠ some g := own_blk_ne r1 hb (by decide)
  have := own_far r1 (p := ⟨g, 0, none⟩) hne (.slice (some ⟨g', 0, none⟩) (vs.length + 1) cap)
  simpa using this

set_option maxHeartbeats 400000 in
theorem enter_yes {w : World} {B g : Nat} {sl : Value} {vs : List SV} {n : Nat} (h : Src w B g sl vs n) (s t : ByteArray) (hyes : mayEnter vs s t = true) :
    Calls Try.prog 8 #[.pointer (some ⟨g, 0, none⟩), .string s, .string t] w fun e w' => e = .returned (.bool true) ∧ Keeps B [45, 47] w w' ∧ ∃ sl', Src w' B g sl' (vs ++ [entered s t]) n := by
  have hx := active_any h s
  have hn := h.max
  have h0 := h.blk.cell 0
  simp only [List.getElem?_toArray, List.getElem?_cons_zero] at h0
  obtain ⟨ha, hlen, ht⟩ := mayEnter_yes hyes
  clear hyes
  rw [ha] at hx
  have HX := hide hx
  clear hx ha
  obtain ⟨i0, hi, hz0, hz1, hz2⟩ := info_parts Try.info47
  have hg := h.blk.lt
  obtain ⟨a, c, rfl⟩ := h.slice
  have H := hide h
  clear h
  have hcat : ¬ (9223372036854775807 < t.size + 1) := by omega
  have hm : Hid (t.size ≤ maxLen) := by unfold Hid maxLen; omega
  have h40 : decide ((40 : Int) ≤ (vs.length : Int)) = false := by simp; omega
  have h200 : decide ((200 : Int) < (t.size : Int)) = false := by simp; omega
  go_enter Try.func8, Try.ntmps8
  go_wp2_with fail
  refine HX.out.mono ?_
  rintro e w1 ⟨rfl, hb⟩
  have h1 := (hb.cell (p := ⟨g, 0, none⟩) hg).trans h0
  have f1 := (hb.frozen (p := ⟨g, 0, none⟩) hg).trans (H.out.blk.frozen 0)
  have HB := hide hb
  clear hb
  go_wp2
  have hS := H.out.keeps (Keeps.of_below HB.out (B := 0) (T := [])) (by simp) (by simp)
  have hBw : B ≤ w1.heap.size := Nat.le_trans hS.base (Nat.le_of_lt hS.blk.lt)
  have hgw : g < w1.heap.size := hS.blk.lt
  have HS := hide hS
  clear hS
  go_region_law (first
    | (go_simp; go_at_call 23; refine (blank_any t hm.out _).mono ?_; rintro e w' ⟨rfl, rfl⟩)
    | (refine step_append_lies _ ?_ (.tmp 31) (.tmp 38) 43 ?_ B 47 i0 _ 4 48 Try.underlying43 hi hz0 hz1 hz2 ?_ ?_ (.slice a vs.length c) vs.length (vs.flatMap SV.cells) ?_ ?_ ⟨w1.heap.size, 0, none⟩ 1 1 [.string s, .string (t ++ ⟨#[32]⟩), .int .i64 0, .bool (blankEnd t)] ?_ ?_ ?_ ?_ ?_ ?_ ?_ ?_ (w1.heap.size + 1) ?_ ?_
       · rfl
       · rfl
       · rfl
       · decide
       · rfl
       · exact (HS.out.own).alloc _
       · rfl
       · rfl
       · exact news_blk (Blk.new _ 47 _)
       · simp [Value.oneCell']
       · decide
       · unfold maxLen; omega
       · omega
       · simp; omega
       · simp
       intro g' cap w' r1 r2 r3 r4
       have hb1 : Blk w' g 45 #[.slice a vs.length c, .int .i64 n] := ((HS.out.blk.alloc _).drew).grown r2 (fun e => own_blk_ne HS.out.own HS.out.blk (by decide) e.symm)
       have k0 := hb1.cell 0
       have k1 := hb1.frozen 0
       simp only [List.getElem?_toArray, List.getElem?_cons_zero] at k0
       have HR1 := hide r1
       have HR2 := hide r2
       have HR3 := hide r3
       have HB1 := hide hb1
       clear r1 r2 r3 hb1))
  all_goals go_wp2
  all_goals go_ret
  all_goals exact ⟨rfl, enter_done HB.out HS.out HR1.out HR2.out HB1.out⟩
end Go.Proofs.Ytmjgleopmnplbaa
