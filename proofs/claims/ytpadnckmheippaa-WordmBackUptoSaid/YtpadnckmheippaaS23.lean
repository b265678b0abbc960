/- The word machine's Word; parts that lie as they are; a machine that was made here. -/
import Derived.Test.YtpadnckmheippaaP3
namespace Go.Proofs.Ytpadnckmheippaa
open Go.RowKit
set_option linter.unusedVariables false
theorem Dead.weak {w : World} {F F' : List Nat} {v : Value} {ps : List PT} (h : Dead w F v ps) (hf : ∀ b ∈ F', b ∈ F) : Dead w F' v ps := h.keep (fun _ _ _ => rfl) (fun b hb => .inl (hf b hb))
/-- What is to be read of parts. -/
theorem Dead.read {w : World} {F : List Nat} {v : Value} {ps : List PT} (h : Dead w F v ps) : (v = .slice none 0 0 ∧ ps = []) ∨
    ∃ b c, ∃ l : List (PT × Value), v = .slice (some ⟨b, 0, none⟩) ps.length c ∧ l.map (·.1) = ps ∧ ps.length ≤ c ∧ c ≤ maxLen ∧ b < w.heap.size ∧ (∀ i j, ∀ hi : i < l.length, j < 5 → w.cell? ⟨b, i * 5 + j, none⟩ = (partCells l[i])[j]?) ∧ ∀ x ∈ l, Dead w F x.2 x.1.kids := by
  cases h with
  | nil => exact .inl ⟨rfl, rfl⟩
  | row b c cur l hF hb hc hl hm hk =>
    refine .inr ⟨b, c, l, by simp, rfl, by simpa using hl, hm, (Array.getElem?_eq_some_iff.1 hb).1, fun i j hi hj => ?_, hk⟩
    rw [cell_of_row w b _ cur _ (0, 0) hb]
    have h1 := fm_get partCells 5 partCells_len l i j hi hj
    rw [← h1, ← hc, ← Array.getElem?_toList]
    have : i * 5 + j < l.length * 5 := by
      have := Nat.mul_le_mul_right 5 (show i + 1 ≤ l.length by omega)
      omega
    rw [List.getElem?_take_of_lt this]
section
variable {w w1 : World} {B : Bs} {g : Nat} {nx : Value} {x : MR}
/-- The last level's parts, as they lie. -/
theorem MRep.topTree (h : MRep w B g nx x) : Dead w B.av x.top.vparts x.ms.top.parts := by
  have hp : w.ownsRow B 48 5 x.top.vparts x.top.parts.length (x.top.parts.flatMap partCells) := h.rows.each x.top.partRow (by simp [MR.rows])
  have hd : ∀ p ∈ x.top.parts, Dead w B.av p.2 p.1.kids := fun p hp => (h.dead x.top (by simp [MR.levels]) p hp).weak (fun b hb => List.mem_append_right _ hb)
  show Dead w B.av x.top.vparts (x.top.parts.map (·.1))
  rcases hp.2 with ⟨h1, h2⟩ | ⟨pb, cap, cur, h1, h2, h3, h4, h5, h6, h7⟩
  · have hnil : x.top.parts = [] := List.eq_nil_of_length_eq_zero h2
    rw [h1, hnil]
    exact .nil
  · have hpb : x.top.vparts.ownBlock = some pb := by rw [h1]; rfl
    rw [h1]
    exact .row pb cap cur x.top.parts (fun hm => (h.sep pb hm).2 (List.mem_cons_of_mem _ (mem_blocks.2 ⟨x.top.partRow, by simp [MR.rows], hpb⟩))) h3 h7 h4 h5 hd
theorem word_any (h : MRep w B g nx x) (hk : x.kind = 16) (hl : x.lower = []) : Calls Try.prog 14 #[.pointer (some ⟨g, 0, none⟩)] w fun e w' => e = .returned (.tuple #[.agg #[x.top.vparts], .bool true]) ∧ Below w.heap.size w w' := by
  obtain ⟨b, c, hlv, hbg, hblt, hcap, -⟩ := h.lvl
  have h1 := (h.topCell hlv 1 (by omega)).1
  have h0 := h.blk.cell 0
  have h2 := h.blk.cell 2
  simp only [MR.cells, List.getElem?_toArray, List.getElem?_cons_zero, List.getElem?_cons_succ, hlv, hk, hl, List.length_nil] at h0 h2
  simp only [RL.cells, hl, List.length_nil, List.getElem?_cons_zero, List.getElem?_cons_succ, Nat.zero_mul, Nat.zero_add] at h1
  obtain ⟨PA, Pc, hPv⟩ := own_val h.partsOwn
  rw [hPv] at h1 ⊢
  have hg := h.blk.lt
  rw [hl] at hcap
  have hc1 : 1 ≤ c := by simpa using hcap
  clear h hlv hk hl hPv hcap
  generalize x.top.parts.length = n at *
  go_enter Try.func14, Try.ntmps14
  go_wp2
  exact bodyPost_ret (v := .tuple #[.agg #[.slice PA n Pc], .bool true]) (by simp [results, Try.results14, go_sem]) rfl ⟨rfl, (Below.refl _ _).alloc (Nat.le_refl _) _⟩
theorem word_no (h : MRep w B g nx x) (hk : x.kind ≠ 16) : Calls Try.prog 14 #[.pointer (some ⟨g, 0, none⟩)] w fun e w' => e = .returned (.tuple #[.agg #[.slice none 0 0], .bool false]) ∧ Below w.heap.size w w' := by
  have h2 := h.blk.cell 2
  simp only [MR.cells, List.getElem?_toArray, List.getElem?_cons_zero, List.getElem?_cons_succ] at h2
  have hg := h.blk.lt
  have hne : ((x.kind : Int) != 16) = true := by simp; omega
  clear h hk
  generalize x.kind = k at *
  go_enter Try.func14, Try.ntmps14
  go_wp2
  exact bodyPost_ret (v := .tuple #[.agg #[.slice none 0 0], .bool false]) (by simp [results, Try.results14, go_sem]) rfl ⟨rfl, (Below.refl _ _).alloc (Nat.le_refl _) _⟩
/-- A machine that was made since w, its state m. -/
def Made (w : World) (B : Bs) (g : Nat) (m : MS) (w' : World) : Prop := ∃ x : MR, MRep w' B g (nextVal x.kind g) x ∧ x.ms = m ∧ Below w.heap.size w w' ∧ ∀ b ∈ x.foot g, w.heap.size ≤ b
theorem Made.now {m' : MS} {w2 : World} (h1 : MRep w1 B g (nextVal x.kind g) x) (hb : Below w.heap.size w w1) (hf : ∀ b ∈ x.foot g, w.heap.size ≤ b) (h2 : Now w1 B g x m' w2) : Made w B g m' w2 := by
  obtain ⟨y, a, b, s⟩ := h2
  refine ⟨y, a, b, hb.trans (s.keep.below hf hb.size), fun k hk => ?_⟩
  rcases s.foot k hk with h3 | h3
  · exact hf k h3
  · exact Nat.le_trans hb.size h3
theorem Made.below {m : MS} {w2 : World} (h : Made w B g m w1) (hb : Below w1.heap.size w1 w2) : Made w B g m w2 := by
  obtain ⟨x, a, b, c, d⟩ := h
  have h2 := (a.grown hb).1
  exact ⟨x, h2, b, c.trans (hb.mono c.size), d⟩
theorem Made.frame {m : MS} (h : Made w B g m w1) : Below w.heap.size w w1 := by obtain ⟨x, a, b, c, d⟩ := h; exact c
theorem made_new (w : World) (B : Bs) (hB : B.n ≤ w.heap.size) (hav : ∀ b ∈ B.av, b < w.heap.size) :
    Calls Try.prog 25 #[] w fun e w' => e = .returned (.pointer (some ⟨w.heap.size + 1, 0, none⟩)) ∧ Made w B (w.heap.size + 1) {} w' :=
  (new_any w B hB hav).mono fun e w' ⟨a, b, c⟩ => ⟨a, newMR w.heap.size, b, rfl, c, fun k hk => by
    rw [newMR_foot] at hk
    simp at hk
    omega⟩
theorem made_feed {m : MS} {n : Nat} (h : Made w B g m w1) (hm : Good n m) (hn : n ≤ 800000) (c : UInt8) :
    Calls Try.prog 18 #[.pointer (some ⟨g, 0, none⟩), .int .u8 c.toNat] w1 fun e w' => e = .returned (.int .i64 (m.feed c).2) ∧ Made w B g (m.feed c).1 w' := by
  obtain ⟨x, a, b, d, f⟩ := h
  subst b
  refine (feed_any a (by have := hm.sz; omega) hm.ok hm.kind c).mono ?_
  rintro e w' ⟨rfl, h2⟩
  exact ⟨rfl, Made.now a d f h2⟩
theorem made_rest {m : MS} {n : Nat} (h : Made w B g m w1) (hm : Good n m) (hn : n ≤ 800000) (hk : m.kind ≤ 15) :
    Calls Try.prog 16 #[.pointer (some ⟨g, 0, none⟩)] w1 fun e w' => e = .returned (.string ⟨m.rest.toArray⟩) ∧ Made w B g m w' := by
  have h0 := h
  obtain ⟨x, a, b, d, f⟩ := h
  subst b
  refine (rest_any a hk (by have := hm.sz; omega)).mono ?_
  rintro e w' ⟨rfl, h2⟩
  exact ⟨rfl, h0.below h2⟩
/-- A word that ended. -/
theorem made_word {m : MS} {n : Nat} (h : Made w B g m w1) (hk : m.kind = 16) (hl : m.lower = []) :
    Calls Try.prog 14 #[.pointer (some ⟨g, 0, none⟩)] w1 fun e w' => ∃ A c, e = .returned (.tuple #[.agg #[.slice A m.top.parts.length c], .bool true]) ∧ Dead w' B.av (.slice A m.top.parts.length c) m.top.parts ∧ Made w B g m w' := by
  have h0 := h
  obtain ⟨x, a, b, d, f⟩ := h
  subst b
  have hl2 : x.lower = [] := by simpa [MR.ms] using hl
  obtain ⟨A, c, hv⟩ := own_val a.partsOwn
  have hn : x.ms.top.parts.length = x.top.parts.length := by simp [MR.ms, RL.lv]
  refine (word_any a hk hl2).mono ?_
  rintro e w' ⟨rfl, h2⟩
  rw [hn]
  refine ⟨A, c, by rw [hv], ?_, h0.below h2⟩
  rw [← hv]
  exact (a.grown h2).1.topTree
end
end Go.Proofs.Ytpadnckmheippaa
