/- The word machine, plain: how it grows, what is open in it, how it goes on over bytes. -/
import Derived.Test.YtpadnckmheippaaS17
namespace Go.Proofs.Ytpadnckmheippaa
open Go
set_option linter.unusedVariables false

/-- What is open, from without. -/
def MS.places (m : MS) : List Nat := m.lower.map LV.place ++ [m.top.place]
def MS.ok (m : MS) : Prop := ∃ ps, m.places = 0 :: ps ∧ ∀ p ∈ ps, p = 1 ∨ p = 2
theorem turn_places (m : MS) (k : Nat) : (m.turn k).places = m.places := rfl
theorem lits_places (m : MS) (l : List UInt8) : (m.lits l).places = m.places := rfl
theorem add_places (m : MS) (p : PT) : (m.add p).places = m.places := by simp [MS.places, MS.add, flush_place]
theorem push_places (m : MS) (l : LV) : (m.push l).places = m.places ++ [l.place] := by simp [MS.places, MS.push]
theorem pop_places (m : MS) (qs : List Nat) (p : Nat) (h : m.places = qs ++ [p]) (hq : qs ≠ []) : m.pop.places = qs := by
  unfold MS.places at h
  obtain ⟨h1, h2⟩ := List.append_inj' h rfl
  unfold MS.pop
  rw [turn_places, add_places]
  unfold MS.places
  rcases List.eq_nil_or_concat m.lower with h0 | ⟨ls, t, h0⟩
  · rw [h0] at h1
    exact absurd h1.symm hq
  · rw [List.concat_eq_append] at h0
    rw [h0] at h1 ⊢
    simp only [List.dropLast_concat, List.getLastD_concat]
    rw [← h1]
    simp
theorem MS.ok.wf {m : MS} (h : m.ok) : m.wf := by
  obtain ⟨ps, h, _⟩ := h
  unfold MS.wf
  unfold MS.places at h
  have : (m.lower ++ [m.top]).map LV.place = 0 :: ps := by rw [← h]; simp
  cases hh : m.lower ++ [m.top] with
  | nil => rw [hh] at this; simp at this
  | cons a l => rw [hh] at this; simp at this ⊢; exact this.1
theorem pop_sz (m : MS) : m.pop.sz ≤ m.sz + 2 := by
  unfold MS.pop
  have h := add_sz ({ m with lower := m.lower.dropLast, top := m.lower.getLastD {} } : MS) (MS.closed m.top.flush)
  have h2 : ({ m with lower := m.lower.dropLast, top := m.lower.getLastD {} } : MS).sz ≤ m.sz := by
    rcases List.eq_nil_or_concat m.lower with h0 | ⟨ls, t, h0⟩
    · simp only [MS.sz, h0, LV.sz]; simp
    · rw [List.concat_eq_append] at h0
      simp only [MS.sz, h0, List.dropLast_concat, List.getLastD_concat, List.map_append, List.sum_append, List.map_cons, List.map_nil, List.sum_cons, List.sum_nil, List.length_append, List.length_cons, List.length_nil]
      omega
  have h3 : ∀ (y : MS) (k : Nat), (y.turn k).sz = y.sz := fun _ _ => rfl
  rw [h3]
  omega
theorem turn_sz (y : MS) (k : Nat) : (y.turn k).sz = y.sz := rfl

/-- What a step does to what is open. -/
inductive Opens : List Nat → List Nat → Prop where
  | same (l : List Nat) : Opens l l
  | push (l qs : List Nat) (h : ∀ p ∈ qs, p = 1 ∨ p = 2) : Opens l (l ++ qs)
  | pop (l : List Nat) (p : Nat) (h : p = 1 ∨ p = 2) : Opens (l ++ [p]) l
theorem ok_of {m m' : MS} (h : m.ok) (o : Opens m.places m'.places) : m'.ok := by
  obtain ⟨ps, h1, h2⟩ := h
  generalize hm : m.places = a at *
  generalize hm' : m'.places = b at *
  cases o with
  | same _ => exact ⟨ps, by rw [hm', h1], h2⟩
  | push _ qs hp => exact ⟨ps ++ qs, by rw [hm', h1]; rfl, fun q hq => by
      rcases List.mem_append.1 hq with hq | hq
      · exact h2 q hq
      · exact hp q hq⟩
  | pop _ p hp =>
    rcases List.eq_nil_or_concat ps with h0 | ⟨qs, t, h0⟩
    · rw [h0] at h1
      have := congrArg List.getLast? h1
      simp at this
      omega
    · rw [List.concat_eq_append] at h0
      rw [h0, ← List.cons_append] at h1
      obtain ⟨h3, h4⟩ := List.append_inj' h1 rfl
      exact ⟨qs, by rw [hm', h3], fun q hq => h2 q (by rw [h0]; simp [hq])⟩
/-- The last of what is open. -/
theorem places_last {m : MS} (h : m.ok) (hp : m.top.place ≠ 0) : ∃ qs p, m.places = qs ++ [p] ∧ qs ≠ [] ∧ p = m.top.place ∧ (p = 1 ∨ p = 2) := by
  obtain ⟨ps, h1, h2⟩ := h
  rcases List.eq_nil_or_concat ps with h0 | ⟨qs, t, h0⟩
  · exfalso
    rw [h0] at h1
    unfold MS.places at h1
    have h3 := congrArg List.getLast? h1
    simp at h3
    exact hp h3
  · rw [List.concat_eq_append] at h0
    subst h0
    rw [← List.cons_append] at h1
    refine ⟨0 :: qs, t, h1, by simp, ?_, h2 t (by simp)⟩
    unfold MS.places at h1
    have := (List.append_inj' h1 rfl).2
    simpa using this.symm

/-- What a step of a state is good for: it grows by little, what is open turns by one at most, it lives as long as it goes. -/
structure Fine (m : MS) (r : MS × Nat) : Prop where
  sz : r.1.sz ≤ m.sz + 9
  opens : Opens m.places r.1.places
  live : r.2 = 0 → r.1.kind ≤ 14
  plain : r.1.plain = m.plain
  sig : r.2 ≤ 3
  ends : r.2 = 1 → r.1.kind = 16
  waits : r.2 = 2 → r.1.kind = 15
  k17 : r.1.kind ≤ 17
  cutk : r.1.kind = 11 → r.1.cut = 37 ∨ r.1.cut = 35

theorem Fine.turn {m m' : MS} (k s : Nat) (hs : m'.sz ≤ m.sz + 9) (ho : Opens m.places m'.places) (hp : m'.plain = m.plain) (h0 : s = 0 → k ≤ 14) (h1 : s = 1 → k = 16) (h2 : s = 2 → k = 15) (h3 : s ≤ 3) (h4 : k ≤ 17 := by decide) (h5 : k ≠ 11 := by decide) : Fine m (m'.turn k, s) :=
  ⟨by rw [turn_sz]; exact hs, ho, h0, hp, h3, h1, h2, h4, fun h => absurd h h5⟩
theorem Fine.stay {m m' : MS} (hs : m'.sz ≤ m.sz + 9) (ho : Opens m.places m'.places) (hk : m'.kind ≤ 14) (hp : m'.plain = m.plain) (hc : m'.kind ≠ 11) : Fine m (m', 0) :=
  ⟨hs, ho, fun _ => hk, hp, Nat.zero_le 3, (fun h => by cases h), (fun h => by cases h), Nat.le_trans hk (by decide), fun h => absurd h hc⟩
theorem Fine.dead (m : MS) : Fine m (m.turn 17, 3) := .turn 17 3 (by omega) (.same _) rfl (by decide) (by decide) (by decide) (by decide)

theorem opens_push (m : MS) (l : LV) (h : l.place = 1 ∨ l.place = 2) : Opens m.places (m.push l).places := by
  rw [push_places]; exact .push _ [l.place] (fun p hp => by rw [List.mem_singleton.1 hp]; exact h)
theorem opens_pop {m : MS} (h : m.ok) (hp : m.top.place = 1 ∨ m.top.place = 2) : Opens m.places m.pop.places := by
  obtain ⟨qs, p, h1, h2, h3, h4⟩ := places_last h (by omega)
  rw [pop_places m qs p h1 h2, h1]
  exact .pop _ _ h4

/-- A step of the text behind little. -/
theorem n011 : (0 : Nat) ≠ 11 := by decide
theorem text_fine (m : MS) (h : m.ok) (hk : m.kind = 0) (c : UInt8) : (m.text c).1.sz ≤ m.sz + 4 ∧ Fine m (m.text c) := by
  have hpl := pop_sz m
  have hfs := flush_sz m.top
  have hfp : m.top.flush.place = m.top.place := flush_place _
  unfold MS.text
  by_cases c1 : c = 0 ∨ c = 96
  · rw [if_pos c1]; exact ⟨by rw [turn_sz]; omega, .dead m⟩
  rw [if_neg c1]
  by_cases c2 : m.top.place = 0 ∧ (classOf c = 1 ∨ classOf c = 2 ∨ classOf c = 5)
  · rw [if_pos c2]
    have hs : ({ m with top := m.top.flush } : MS).sz ≤ m.sz + 1 := by simp only [MS.sz]; omega
    have hp : Opens m.places ({ m with top := m.top.flush } : MS).places := by
      have : ({ m with top := m.top.flush } : MS).places = m.places := by simp [MS.places, hfp]
      rw [this]; exact .same _
    exact ⟨by rw [turn_sz]; omega, .turn 16 1 (by omega) hp rfl (by decide) (by decide) (by decide) (by decide)⟩
  rw [if_neg c2]
  by_cases c3 : (m.top.place = 1 ∧ c = 34) ∨ (m.top.place = 2 ∧ c = 125)
  · rw [if_pos c3]
    refine ⟨(by omega : m.pop.sz ≤ m.sz + 4), .stay (by omega) (opens_pop h (by rcases c3 with ⟨a, _⟩ | ⟨a, _⟩ <;> simp [a])) (Nat.zero_le 14) rfl n011⟩
  rw [if_neg c3]
  by_cases c4 : c = 92
  · rw [if_pos c4]
    have hs : ({ m with quoted := true } : MS).sz = m.sz := rfl
    exact ⟨by rw [turn_sz]; omega, .turn 1 0 (by omega) (.same _) rfl (by decide) (by decide) (by decide) (by decide)⟩
  rw [if_neg c4]
  by_cases c5 : c = 39 ∧ m.top.place ≠ 1
  · rw [if_pos c5]
    have hs : ({ m with quoted := true, buf := [] } : MS).sz ≤ m.sz := by simp [MS.sz]
    exact ⟨by rw [turn_sz]; omega, .turn 12 0 (by omega) (.same _) rfl (by decide) (by decide) (by decide) (by decide)⟩
  rw [if_neg c5]
  by_cases c6 : c = 34
  · rw [if_pos c6]
    have hs := push_sz ({ m with quoted := true } : MS) 1 [] []
    have hs2 : ({ m with quoted := true } : MS).sz = m.sz := rfl
    have ho := opens_push ({ m with quoted := true } : MS) { place := 1 } (.inl rfl)
    refine ⟨?_, .stay ?_ ho (Nat.zero_le 14) rfl n011⟩
    · show (({ m with quoted := true } : MS).push ⟨1, [], [], [], []⟩).sz ≤ _; omega
    · show (({ m with quoted := true } : MS).push ⟨1, [], [], [], []⟩).sz ≤ _; omega
  rw [if_neg c6]
  by_cases c7 : c = 36
  · rw [if_pos c7]
    exact ⟨by rw [turn_sz]; omega, .turn 2 0 (by omega) (.same _) rfl (by decide) (by decide) (by decide) (by decide)⟩
  rw [if_neg c7]
  have hs := lits_sz m [c]
  simp only [List.length_cons, List.length_nil] at hs
  exact ⟨by show (m.lits [c]).sz ≤ _; omega, .stay (by omega) (.same _) (by show m.kind ≤ 14; omega) rfl (by show m.kind ≠ 11; omega)⟩

theorem Fine.text {m m' : MS} (c : UInt8) (h : m'.ok) (hk : m'.kind = 0) (hs : m'.sz ≤ m.sz + 5) (hp : m'.places = m.places) (hpl : m'.plain = m.plain) : Fine m (m'.text c) := by
  obtain ⟨a, b⟩ := text_fine m' h hk c
  exact ⟨by omega, hp ▸ b.opens, b.live, b.plain.trans hpl, b.sig, b.ends, b.waits, b.k17, b.cutk⟩
theorem ok_same {m m' : MS} (h : m.ok) (hp : m'.places = m.places) : m'.ok := by obtain ⟨ps, h1, h2⟩ := h; exact ⟨ps, hp.trans h1, h2⟩

theorem add_plain (m : MS) (p : PT) : (m.add p).plain = m.plain := rfl
theorem fine_add {m m' : MS} (p : PT) (hs : m'.sz ≤ m.sz + 7) (ho : m'.places = m.places) (hp : m'.plain = m.plain) : Fine m ((m'.add p).turn 0, 0) :=
  .turn 0 0 (by have := add_sz m' p; omega) (by rw [add_places, ho]; exact .same _) (by rw [add_plain, hp]) (by decide) (by decide) (by decide) (by decide)
theorem fine_goes {m m' : MS} (k : Nat) (hk : k ≤ 14) (hs : m'.sz ≤ m.sz + 9) (ho : m'.places = m.places) (hp : m'.plain = m.plain) (hc : k ≠ 11 := by decide) : Fine m (m'.turn k, 0) :=
  .turn k 0 hs (by rw [ho]; exact .same _) hp (fun _ => hk) (fun h => by cases h) (fun h => by cases h) (by decide) (by omega) hc
theorem fine_dead {m m' : MS} (hs : m'.sz ≤ m.sz + 9) (ho : m'.places = m.places) (hp : m'.plain = m.plain) : Fine m (m'.turn 17, 3) :=
  .turn 17 3 hs (by rw [ho]; exact .same _) hp (by decide) (by decide) (by decide) (by decide)
theorem fine_oper {m m' : MS} (op : List UInt8) (hs : m'.sz ≤ m.sz + 7) (ho : m'.places = m.places) (hp : m'.plain = m.plain) : Fine m (m'.operator op, 0) := by
  have h1 := push_sz m' 2 m'.buf op
  have h2 := opens_push m' { place := 2, name := m'.buf, op := op } (.inr rfl)
  refine .stay ?_ (ho ▸ h2) (Nat.zero_le 14) hp n011
  show (m'.push ⟨2, [], [], m'.buf, op⟩).sz ≤ _
  omega
theorem param_fine {m m' : MS} (c : UInt8) (hs : m'.sz ≤ m.sz) (ho : m'.places = m.places) (hp : m'.plain = m.plain) : Fine m (m'.parameter c) := by
  have h1 : ({ m' with buf := [c] } : MS).sz ≤ m.sz + 1 := by
    have : m'.sz = ({ m' with buf := [] } : MS).sz + m'.buf.length := by simp only [MS.sz, List.length_nil]; omega
    have h2 : ({ m' with buf := [c] } : MS).sz = ({ m' with buf := [] } : MS).sz + 1 := by simp only [MS.sz, List.length_nil, List.length_cons]; omega
    omega
  unfold MS.parameter
  simp only
  split
  · exact fine_goes 7 (by decide) (by omega) ho hp
  split
  · exact fine_goes 8 (by decide) (by omega) ho hp
  split
  · exact fine_goes 9 (by decide) (by omega) ho hp
  · exact fine_dead (by omega) ho hp
theorem behind_fine {m m' : MS} (c : UInt8) (hs : m'.sz ≤ m.sz) (ho : m'.places = m.places) (hp : m'.plain = m.plain) : Fine m (m'.behind c) := by
  unfold MS.behind
  split
  · exact fine_add _ (by omega) ho hp
  split
  · exact fine_dead (by omega) ho hp
  split
  · exact fine_goes 10 (by decide) (by omega) ho hp
  split
  · rename_i hcc
    exact ⟨(by show m'.sz ≤ m.sz + 9; omega), (by show Opens m.places m'.places; rw [ho]; exact .same _), fun _ => (by show 11 ≤ 14; decide), hp, (by decide : 0 ≤ 3), (fun h => by cases h), (fun h => by cases h), (by show 11 ≤ 17; decide), fun _ => hcc⟩
  split
  · exact fine_oper _ (by omega) ho hp
  · exact fine_dead (by omega) ho hp

theorem text_behind (m : MS) (l : List Nat) (hp : m.places = l ++ [2]) (ht : m.top.place = 2) (hl : l ≠ []) (c : UInt8) : Opens l (m.text c).1.places := by
  have hpush : Opens l m.places := by rw [hp]; exact .push _ [2] (by simp)
  unfold MS.text
  by_cases c1 : c = 0 ∨ c = 96
  · rw [if_pos c1]; exact hpush
  rw [if_neg c1]
  by_cases c2 : m.top.place = 0 ∧ (classOf c = 1 ∨ classOf c = 2 ∨ classOf c = 5)
  · omega
  rw [if_neg c2]
  by_cases c3 : (m.top.place = 1 ∧ c = 34) ∨ (m.top.place = 2 ∧ c = 125)
  · rw [if_pos c3]
    show Opens l m.pop.places
    rw [pop_places m l 2 hp hl]
    exact .same _
  rw [if_neg c3]
  by_cases c4 : c = 92
  · rw [if_pos c4]; exact hpush
  rw [if_neg c4]
  by_cases c5 : c = 39 ∧ m.top.place ≠ 1
  · rw [if_pos c5]; exact hpush
  rw [if_neg c5]
  by_cases c6 : c = 34
  · rw [if_pos c6]
    show Opens l (({ m with quoted := true } : MS).push { place := 1 }).places
    rw [push_places]
    show Opens l (m.places ++ [1])
    rw [hp, List.append_assoc]
    exact .push _ _ (by simp)
  rw [if_neg c6]
  by_cases c7 : c = 36
  · rw [if_pos c7]; exact hpush
  rw [if_neg c7]
  exact hpush
theorem next_fine (m : MS) (h : m.ok) (hk : m.kind ≤ 17) (c : UInt8) : Fine m (m.next c) := by
  have hb : ∀ l : List UInt8, ({ m with buf := l } : MS).sz + m.buf.length = m.sz + l.length := fun l => by simp only [MS.sz]; omega
  unfold MS.next
  split
  · rename_i e; exact (text_fine m h e c).2
  · -- escaped
    rename_i e
    unfold MS.escaped
    split
    · exact .dead m
    split
    · have := lits_sz m [92, c]
      exact fine_goes 0 (by decide) (by simp at this; omega) rfl rfl
    · exact fine_add _ (by have : ({ m with took := m.took ++ [c] } : MS).sz = m.sz + 1 := by simp only [MS.sz, List.length_append, List.length_cons, List.length_nil]; omega
                           omega) rfl rfl
  · -- dollar
    unfold MS.dollar
    simp only
    split
    · exact fine_goes 5 (by decide) (by show m.sz ≤ _; omega) rfl rfl
    split
    · exact fine_goes 3 (by decide) (by show m.sz ≤ _; omega) rfl rfl
    split
    · exact fine_goes 4 (by decide) (by have := hb [c]; have e : ({ m with exp := true, buf := [c] } : MS).sz = ({ m with buf := [c] } : MS).sz := rfl; simp at this; omega) rfl rfl
    split
    · exact fine_add _ (by show m.sz ≤ _; omega) rfl rfl
    · refine Fine.text c (ok_same h rfl) rfl ?_ rfl rfl
      have := lits_sz m [36]
      rw [turn_sz]; simp at this; omega
  · -- opened
    unfold MS.opened
    split
    · exact fine_goes 13 (by decide) (by simp only [MS.sz, List.length_nil]; omega) rfl rfl
    · exact .turn 15 2 (by omega) (.same _) rfl (by decide) (by decide) (by decide) (by decide)
  · -- bare
    unfold MS.bare
    simp only
    split
    · exact .stay (by have := hb (m.buf ++ [c]); simp at this ⊢; omega) (.same _) (by show m.kind ≤ 14; omega) rfl (by show m.kind ≠ 11; omega)
    · refine Fine.text c (ok_same h (by rw [turn_places, add_places])) rfl ?_ (by rw [turn_places, add_places]) rfl
      have := add_sz m (.leaf 5 m.buf)
      rw [turn_sz]; omega
  · -- head
    unfold MS.head
    split
    · exact fine_goes 6 (by decide) (by show m.sz ≤ _; omega) rfl rfl
    · exact param_fine c (Nat.le_refl m.sz) rfl rfl
  · -- hash
    unfold MS.hash
    split
    · exact fine_add _ (by omega) rfl rfl
    · exact param_fine c (Nat.le_refl m.sz) rfl rfl
  · unfold MS.named
    simp only
    split
    · exact .stay (by have := hb (m.buf ++ [c]); simp at this ⊢; omega) (.same _) (by show m.kind ≤ 14; omega) rfl (by show m.kind ≠ 11; omega)
    · exact behind_fine c (Nat.le_refl m.sz) rfl rfl
  · unfold MS.named
    simp only
    split
    · exact .stay (by have := hb (m.buf ++ [c]); simp at this ⊢; omega) (.same _) (by show m.kind ≤ 14; omega) rfl (by show m.kind ≠ 11; omega)
    · exact behind_fine c (Nat.le_refl m.sz) rfl rfl
  · exact behind_fine c (Nat.le_refl m.sz) rfl rfl
  · unfold MS.colon
    split
    · exact .dead m
    · exact fine_oper _ (by omega) rfl rfl
  · -- double
    unfold MS.double
    split
    · exact fine_oper _ (by omega) rfl rfl
    · have ho := opens_push m { place := 2, name := m.buf, op := [m.cut] } (.inr rfl)
      have hs := push_sz m 2 m.buf [m.cut]
      obtain ⟨a, b⟩ := text_fine (m.operator [m.cut]) (ok_of h ho) rfl c
      have hs2 : (m.operator [m.cut]).sz = m.sz + 1 := hs
      have hs3 : ((m.operator [m.cut]).text c).1.sz ≤ m.sz + 9 := by omega
      exact ⟨hs3, text_behind _ m.places (push_places _ _) rfl (by unfold MS.places; simp) c, b.live, b.plain, b.sig, b.ends, b.waits, b.k17, b.cutk⟩
  · -- single
    unfold MS.single
    split
    · exact .dead m
    split
    · exact fine_add _ (by omega) rfl rfl
    · exact .stay (by simp only [MS.sz, List.length_append, List.length_cons, List.length_nil]; omega) (.same _) (by show m.kind ≤ 14; omega) rfl (by show m.kind ≠ 11; omega)
  · -- arith
    unfold MS.arith
    split
    · exact .dead m
    split
    · exact fine_goes 14 (by decide) (by omega) rfl rfl
    split
    · exact .stay (by simp only [MS.sz, List.length_append, List.length_cons, List.length_nil]; omega) (.same _) (by show m.kind ≤ 14; omega) rfl (by show m.kind ≠ 11; omega)
    split
    · exact .stay (by simp only [MS.sz, List.length_append, List.length_cons, List.length_nil]; omega) (.same _) (by show m.kind ≤ 14; omega) rfl (by show m.kind ≠ 11; omega)
    · exact .stay (by simp only [MS.sz, List.length_append, List.length_cons, List.length_nil]; omega) (.same _) (by show m.kind ≤ 14; omega) rfl (by show m.kind ≠ 11; omega)
  · unfold MS.arithEnd
    split
    · exact .dead m
    · exact fine_add _ (by omega) rfl rfl
  · rename_i e
    exact ⟨Nat.le_add_right _ _, .same _, (fun h => by cases h), rfl, (by decide : 1 ≤ 3), fun _ => e, (fun h => by cases h), hk, fun h => by rw [e] at h; cases h⟩
  · exact ⟨Nat.le_add_right _ _, .same _, (fun h => by cases h), rfl, Nat.le_refl 3, (fun h => by cases h), (fun h => by cases h), hk, fun h => by simp_all⟩
end Go.Proofs.Ytpadnckmheippaa
