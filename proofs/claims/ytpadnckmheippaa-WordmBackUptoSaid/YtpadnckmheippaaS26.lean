/- Two word machines beside each other; commands that close. -/
import Derived.Test.YtpadnckmheippaaS25
import Derived.Test.YtpadnckmheippaaP5
namespace Go.Proofs.Ytpadnckmheippaa
open Go.RowKit
set_option linter.unusedVariables false
section
variable {w w0 w1 w' : World} {B : Bs} {g n : Nat} {nx : Value} {x : MR} {m : MS}
theorem MRep.foot_in (h : MRep w B g nx x) : ∀ b ∈ x.foot g, B.n ≤ b ∧ b < w.heap.size := by
  intro b hb
  simp only [MR.foot, List.mem_cons] at hb
  rcases hb with rfl | hb
  · exact ⟨h.base, h.blk.lt⟩
  · obtain ⟨r, hr, hrb⟩ := mem_blocks.1 hb
    exact (h.rows.each r hr).lt _ hrb
theorem own_same {base base' : Nat} {e : TypeId} {size k : Nat} {v : Value} {xs : List Value} (h : w.ownsRow base e size v k xs) (hb : base' ≤ base) (hs : ∀ b, v.ownBlock = some b → w'.heap[b]? = w.heap[b]?) : w'.ownsRow base' e size v k xs := by
  refine ⟨h.1, ?_⟩
  rcases h.2 with hn | ⟨g, cap, cur, rfl, h1, h2, rest⟩
  · exact .inl hn
  · exact .inr ⟨g, cap, cur, rfl, by omega, (hs g rfl).trans h2, rest⟩
/-- The other one's step leaves this one, and what it has turns with it. -/
theorem MRep.other {F F' : List Nat} {n' : Nat} (h : MRep w ⟨n', F⟩ g nx x) (hn : n ≤ n') (s : Step F w F' w') (hlt : ∀ b ∈ F', b < w'.heap.size) : MRep w' ⟨n, F'⟩ g nx x := by
  have hin := h.foot_in
  have hsep := h.sep
  have hx : ∀ b ∈ x.foot g, w'.heap[b]? = w.heap[b]? := fun b hb => s.keep.block b (hin b hb).2 (fun hf => (hsep b hf).2 hb)
  refine ⟨(hx g (by simp [MR.foot])).trans h.blk, Nat.le_trans hn h.base, ⟨fun r hr => ?_, h.rows.apart⟩, fun l hl p hp => ?_, fun b hb => ?_⟩
  · exact own_same (h.rows.each r hr) hn (fun b hb => hx b (by simp only [MR.foot, List.mem_cons]; exact .inr (mem_blocks.2 ⟨r, hr, hb⟩)))
  · refine (h.dead l hl p hp).keep (fun b hb hf => s.keep.block b hb (fun hm => hf (List.mem_append_right _ hm))) (fun b hb => ?_)
    rcases List.mem_append.1 hb with hb | hb
    · exact .inl (List.mem_append_left _ hb)
    · rcases s.foot b hb with h1 | h1
      · exact .inl (List.mem_append_right _ h1)
      · exact .inr h1
  · refine ⟨hlt b hb, fun hm => ?_⟩
    rcases s.foot b hb with h1 | h1
    · exact (hsep b h1).2 hm
    · have := (hin b hm).2
      omega
def Alive (w : World) (B : Bs) (g : Nat) (m : MS) : Prop := ∃ x : MR, MRep w B g (nextVal x.kind g) x ∧ x.ms = m
theorem Made.alive (h : Made w0 B g m w) : Alive w B g m := by obtain ⟨x, a, b, _⟩ := h; exact ⟨x, a, b⟩
theorem alive_rest {k : Nat} (h : Alive w B g m) (hm : Good k m) (hn : k ≤ 800000) (hk : m.kind ≤ 15) :
    Calls Try.prog 16 #[.pointer (some ⟨g, 0, none⟩)] w fun e w' => e = .returned (.string ⟨m.rest.toArray⟩) ∧ Below w.heap.size w w' := by
  obtain ⟨x, a, rfl⟩ := h
  exact rest_any a hk (by have := hm.sz; omega)
theorem alive_rest_over (h : Alive w B g m) (hk : m.kind = 16 ∨ m.kind = 17) :
    Calls Try.prog 16 #[.pointer (some ⟨g, 0, none⟩)] w fun e w' => e = .returned (.string ⟨#[]⟩) ∧ Below w.heap.size w w' := by
  obtain ⟨x, a, rfl⟩ := h
  exact (rest_over a hk).mono fun e w' ⟨h1, h2⟩ => ⟨h1, h2 ▸ Below.refl _ _⟩
/-- Whatever it is in. -/
theorem alive_rest_all {k : Nat} (h : Alive w B g m) (hm : Good k m) (hn : k ≤ 800000) :
    Calls Try.prog 16 #[.pointer (some ⟨g, 0, none⟩)] w fun e w' => e = .returned (.string ⟨m.rest.toArray⟩) ∧ Below w.heap.size w w' := by
  by_cases hk : m.kind ≤ 15
  · exact alive_rest h hm hn hk
  · have h2 := hm.kind
    have hk2 : m.kind = 16 ∨ m.kind = 17 := by omega
    have : m.rest = [] := by unfold MS.rest; rw [if_pos hk2]
    rw [this]
    exact alive_rest_over h hk2
theorem alive_raw (h : Alive w B g m) (hk : m.kind ≤ 17) : Calls Try.prog 17 #[.pointer (some ⟨g, 0, none⟩)] w fun e w' => e = .returned (.bool m.raw) ∧ w = w' := by
  obtain ⟨x, a, rfl⟩ := h
  exact raw_any a hk
theorem alive_deep {k : Nat} (h : Alive w B g m) (hm : Good k m) (hn : k ≤ 800000) : Calls Try.prog 20 #[.pointer (some ⟨g, 0, none⟩)] w fun e w' => e = .returned (.int .i64 m.lower.length) ∧ w = w' := by
  obtain ⟨x, a, rfl⟩ := h
  have := (x.sizes (N := 800000) (by have := hm.sz; omega)).1
  exact deep_any a (by omega)
theorem alive_word (h : Alive w B g m) (hk : m.kind = 16) (hl : m.lower = []) :
    Calls Try.prog 14 #[.pointer (some ⟨g, 0, none⟩)] w fun e w' => ∃ A c, e = .returned (.tuple #[.agg #[.slice A m.top.parts.length c], .bool true]) ∧ Dead w' [] (.slice A m.top.parts.length c) m.top.parts ∧ Below w.heap.size w w' := by
  obtain ⟨x, a, rfl⟩ := h
  have hl2 : x.lower = [] := by simpa [MR.ms] using hl
  obtain ⟨A, c, hv⟩ := own_val a.partsOwn
  have hn : x.ms.top.parts.length = x.top.parts.length := by simp [MR.ms, RL.lv]
  refine (word_any a hk hl2).mono ?_
  rintro e w' ⟨rfl, h2⟩
  rw [hn]
  refine ⟨A, c, by rw [hv], ?_, h2⟩
  rw [← hv]
  exact (a.grown h2).1.topTree.weak (fun b hb => by cases hb)
theorem alive_word_no (h : Alive w B g m) (hk : m.kind ≠ 16) :
    Calls Try.prog 14 #[.pointer (some ⟨g, 0, none⟩)] w fun e w' => e = .returned (.tuple #[.agg #[.slice none 0 0], .bool false]) ∧ Below w.heap.size w w' := by
  obtain ⟨x, a, rfl⟩ := h
  exact word_no a hk
theorem close_no (h : Alive w B g m) (hk : m.kind ≠ 15) (v : Value) :
    Calls Try.prog 19 #[.pointer (some ⟨g, 0, none⟩), v] w fun e w' => e = .returned (.bool false) ∧ w = w' := by
  obtain ⟨x, a, rfl⟩ := h
  have h2 := a.blk.cell 2
  simp only [MR.cells, List.getElem?_toArray, List.getElem?_cons_zero, List.getElem?_cons_succ] at h2
  have hne : ((x.kind : Int) != 15) = true := by
    have : x.kind ≠ 15 := hk
    simp; omega
  clear a hk
  generalize x.kind = k at *
  go_enter Try.func19, Try.ntmps19
  go_wp2
  go_ret
  exact ⟨rfl, rfl⟩
set_option maxHeartbeats 800000 in
theorem close_any {k : Nat} (h : MRep w B g nx x) (hk : x.kind = 15) (hm : Good k x.ms) (hn : k ≤ 800000) (CA : Option Addr) (Cn Cc : Nat) :
    Calls Try.prog 19 #[.pointer (some ⟨g, 0, none⟩), .slice CA Cn Cc] w fun e w' => e = .returned (.bool true) ∧ Now w B g x ((x.ms.add (.mk 6 [] [] [] (.slice CA Cn Cc))).turn 0) w' := by
  have hz := x.sizes (N := 800000) (by have := hm.sz; omega)
  have h2 := h.blk.cell 2
  simp only [MR.cells, List.getElem?_toArray, List.getElem?_cons_zero, List.getElem?_cons_succ, hk] at h2
  have HADD := Lib.hid (add_any h (by omega) (by omega) (by omega) (.mk 6 [] [] [] (.slice CA Cn Cc)) none 0 0 CA Cn Cc rfl .nil)
  clear h hk hm hz
  go_enter Try.func19, Try.ntmps19
  go_wp2_with fail
  refine HADD.out.mono ?_
  rintro e w2 ⟨rfl, y, hy, ey, sy⟩
  have HY := Lib.hid hy
  have HE := Lib.hid ey
  have HS := Lib.hid sy
  clear hy ey sy HADD
  go_wp2_with fail
  refine (turn_any HY.out 0 (by omega)).mono ?_
  rintro e w3 ⟨rfl, h3, s3⟩
  have HF : Hid (Now w B g x ((x.ms.add (.mk 6 [] [] [] (.slice CA Cn Cc))).turn 0) w3) := Lib.hid ⟨{ y with kind := 0 }, h3, by rw [← HE.out]; rfl, HS.out.trans s3⟩
  clear h3 s3
  go_wp2
  go_ret
  exact ⟨rfl, HF.out⟩
theorem made_close {k : Nat} (h : Made w0 B g m w) (hk : m.kind = 15) (hm : Good k m) (hn : k ≤ 800000) (CA : Option Addr) (Cn Cc : Nat) :
    Calls Try.prog 19 #[.pointer (some ⟨g, 0, none⟩), .slice CA Cn Cc] w fun e w' => e = .returned (.bool true) ∧ Made w0 B g ((m.add (.mk 6 [] [] [] (.slice CA Cn Cc))).turn 0) w' := by
  obtain ⟨x, a, b, d, f⟩ := h
  subst b
  exact (close_any a hk hm hn CA Cn Cc).mono fun e w' ⟨h1, h2⟩ => ⟨h1, Made.now a d f h2⟩
end
/-- Two machines, neither of which has anything of the other's. -/
def Pair (w : World) (n gm gx : Nat) (m x : MS) : Prop := ∃ a b : MR, MRep w ⟨n, b.foot gx⟩ gm (nextVal a.kind gm) a ∧ MRep w ⟨n, a.foot gm⟩ gx (nextVal b.kind gx) b ∧ a.ms = m ∧ b.ms = x
section
variable {w w' : World} {n gm gx k : Nat} {m x : MS}
theorem Pair.symm (h : Pair w n gm gx m x) : Pair w n gx gm x m := by obtain ⟨a, b, h1, h2, h3, h4⟩ := h; exact ⟨b, a, h2, h1, h4, h3⟩
theorem Pair.left (h : Pair w n gm gx m x) : ∃ B, Alive w B gm m := by obtain ⟨a, b, h1, h2, h3, h4⟩ := h; exact ⟨_, a, h1, h3⟩
theorem Pair.base (h : Pair w n gm gx m x) : n ≤ w.heap.size := by obtain ⟨a, b, h1, h2, h3, h4⟩ := h; exact h1.base_le
theorem Pair.below (h : Pair w n gm gx m x) (hb : Below w.heap.size w w') : Pair w' n gm gx m x := by
  obtain ⟨a, b, h1, h2, h3, h4⟩ := h
  exact ⟨a, b, (h1.grown hb).1, (h2.grown hb).1, h3, h4⟩
theorem pair_feed (h : Pair w n gm gx m x) (hm : Good k m) (hk : k ≤ 800000) (c : UInt8) :
    Calls Try.prog 18 #[.pointer (some ⟨gm, 0, none⟩), .int .u8 c.toNat] w fun e w' => e = .returned (.int .i64 (m.feed c).2) ∧ Pair w' n gm gx (m.feed c).1 x ∧ Below n w w' := by
  obtain ⟨a, b, h1, h2, rfl, rfl⟩ := h
  refine (feed_any h1 (by have := hm.sz; omega) hm.ok hm.kind c).mono ?_
  rintro e w' ⟨rfl, y, hy, ey, sy⟩
  refine ⟨rfl, ⟨y, b, hy, h2.other (Nat.le_refl _) sy (fun q hq => (hy.foot_in q hq).2), ey, rfl⟩, sy.keep.below (fun q hq => (h1.foot_in q hq).1) h1.base_le⟩
theorem pair_fed (s : ByteArray) (hs : s.size ≤ 70000) {w0 : World} (h : Made w0 ⟨w0.heap.size, []⟩ gm m w) :
    Calls Try.prog 13 #[.string s] w fun e w' => e = .returned (.tuple #[.pointer (some ⟨w.heap.size + 1, 0, none⟩), .int .i64 (({} : MS).fed s.data.toList).2.1, .int .i64 (({} : MS).fed s.data.toList).2.2]) ∧
      Pair w' w0.heap.size gm (w.heap.size + 1) m (({} : MS).fed s.data.toList).1 ∧ Below w0.heap.size w w' := by
  obtain ⟨a, h1, rfl, hb, hf⟩ := h
  refine (fed_any s hs w ⟨w.heap.size, a.foot gm⟩ (Nat.le_refl _) (fun b hb => (h1.foot_in b hb).2)).mono ?_
  rintro e w' ⟨rfl, b, h2, e2, hb2, hf2⟩
  have hs1 : Step [] w (b.foot (w.heap.size + 1)) w' := ⟨KeepsL.of_below hb2, fun q hq => .inr (hf2 q hq)⟩
  refine ⟨rfl, ⟨a, b, h1.other (Nat.le_refl _) hs1 (fun q hq => (h2.foot_in q hq).2), ?_, rfl, e2⟩, hb2.mono hb.size⟩
  exact h2.other hb.size (Step.refl _ _) (fun q hq => Nat.lt_of_lt_of_le (h1.foot_in q hq).2 hb2.size)
end
end Go.Proofs.Ytpadnckmheippaa
