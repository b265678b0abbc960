/- What is missing closes all that is open, and a blank then ends the word: the machine, plain. -/
import Derived.Test.YtpadnckmheippaaP2
import Derived.Test.YtpadnckmheippaaS22
namespace Go.Proofs.Ytpadnckmheippaa
open Go
set_option linter.unusedVariables false
theorem next_0 (m : MS) (c : UInt8) (h : m.kind = 0) : m.next c = m.text c := by unfold MS.next; split <;> first | rfl | omega | (exfalso; simp_all)
theorem next_1 (m : MS) (c : UInt8) (h : m.kind = 1) : m.next c = m.escaped c := by unfold MS.next; split <;> first | rfl | omega | (exfalso; simp_all)
theorem next_2 (m : MS) (c : UInt8) (h : m.kind = 2) : m.next c = m.dollar c := by unfold MS.next; split <;> first | rfl | omega | (exfalso; simp_all)
theorem next_3 (m : MS) (c : UInt8) (h : m.kind = 3) : m.next c = m.opened c := by unfold MS.next; split <;> first | rfl | omega | (exfalso; simp_all)
theorem next_4 (m : MS) (c : UInt8) (h : m.kind = 4) : m.next c = m.bare c := by unfold MS.next; split <;> first | rfl | omega | (exfalso; simp_all)
theorem next_5 (m : MS) (c : UInt8) (h : m.kind = 5) : m.next c = m.head c := by unfold MS.next; split <;> first | rfl | omega | (exfalso; simp_all)
theorem next_6 (m : MS) (c : UInt8) (h : m.kind = 6) : m.next c = m.hash c := by unfold MS.next; split <;> first | rfl | omega | (exfalso; simp_all)
theorem next_7 (m : MS) (c : UInt8) (h : m.kind = 7) : m.next c = m.named c := by unfold MS.next; split <;> first | rfl | omega | (exfalso; simp_all)
theorem next_8 (m : MS) (c : UInt8) (h : m.kind = 8) : m.next c = m.named c := by unfold MS.next; split <;> first | rfl | omega | (exfalso; simp_all)
theorem next_9 (m : MS) (c : UInt8) (h : m.kind = 9) : m.next c = m.behind c := by unfold MS.next; split <;> first | rfl | omega | (exfalso; simp_all)
theorem next_10 (m : MS) (c : UInt8) (h : m.kind = 10) : m.next c = m.colon c := by unfold MS.next; split <;> first | rfl | omega | (exfalso; simp_all)
theorem next_11 (m : MS) (c : UInt8) (h : m.kind = 11) : m.next c = m.double c := by unfold MS.next; split <;> first | rfl | omega | (exfalso; simp_all)
theorem next_12 (m : MS) (c : UInt8) (h : m.kind = 12) : m.next c = m.single c := by unfold MS.next; split <;> first | rfl | omega | (exfalso; simp_all)
theorem next_13 (m : MS) (c : UInt8) (h : m.kind = 13) : m.next c = m.arith c := by unfold MS.next; split <;> first | rfl | omega | (exfalso; simp_all)
theorem next_14 (m : MS) (c : UInt8) (h : m.kind = 14) : m.next c = m.arithEnd c := by unfold MS.next; split <;> first | rfl | omega | (exfalso; simp_all)
theorem fed_one {m : MS} {c : UInt8} {m1 : MS} (h : m.next c = (m1, 0)) : ∃ y : MS, m.feed c = (y, 0) ∧ y.kind = m1.kind ∧ y.deep = m1.deep ∧ y.places = m1.places := by
  refine ⟨{ m1 with plain := m1.plain ++ [c] }, ?_, rfl, rfl, rfl⟩
  unfold MS.feed
  simp only [h, if_true]
theorem goes_after {m y : MS} {c : UInt8} {l : List UInt8} (e : m.feed c = (y, 0)) (p : y.places = m.places) (h : y.goes l ∧ (y.run l).kind = 0 ∧ (y.run l).places = y.places) : m.goes (c :: l) ∧ (m.run (c :: l)).kind = 0 ∧ (m.run (c :: l)).places = m.places := by
  obtain ⟨a, b, d⟩ := h
  have e2 : m.run (c :: l) = y.run l := by simp only [MS.run, e]
  rw [e2]
  exact ⟨by simp only [MS.goes, e, true_and]; exact a, b, d.trans p⟩
/-- What came so far is read as text. -/
def MS.textlike (m : MS) : Prop := m.kind = 0 ∨ m.kind = 2 ∨ m.kind = 4
theorem textlike_next (m : MS) (c : UInt8) (hc : c = 34 ∨ c = 125 ∨ c = 32) (hk : m.textlike) : ∃ m1 : MS, m.next c = m1.text c ∧ m1.places = m.places ∧ m1.top.place = m.top.place := by
  have h1 : classOf c ≠ 3 ∧ classOf c ≠ 4 ∧ special c = false ∧ c ≠ 123 ∧ c ≠ 40 := by rcases hc with rfl | rfl | rfl <;> decide
  obtain ⟨a3, a4, a5, a123, a40⟩ := h1
  rcases hk with hk | hk | hk
  · exact ⟨m, next_0 m c hk, rfl, rfl⟩
  · refine ⟨(m.lits [36]).turn 0, ?_, rfl, rfl⟩
    rw [next_2 m c hk]
    unfold MS.dollar
    simp only [a123, a40, a3, a4, a5, if_false]
    simp
  · refine ⟨(m.add (.leaf 5 m.buf)).turn 0, ?_, by rw [turn_places, add_places], ?_⟩
    · rw [next_4 m c hk]
      unfold MS.bare
      simp only [a3, a4, or_self, if_false]
    · show (m.add (.leaf 5 m.buf)).top.place = _
      simp [MS.add, flush_place]
theorem text_pop (m : MS) (c : UInt8) (h : (m.top.place = 1 ∧ c = 34) ∨ (m.top.place = 2 ∧ c = 125)) : m.text c = (m.pop, 0) := by
  unfold MS.text
  have h0 : ¬ (c = 0 ∨ c = 96) := by rcases h with ⟨_, rfl⟩ | ⟨_, rfl⟩ <;> decide
  have h1 : ¬ (m.top.place = 0 ∧ (classOf c = 1 ∨ classOf c = 2 ∨ classOf c = 5)) := by omega
  simp only [h0, h1, if_false, h, if_true]
theorem text_end (m : MS) (h : m.top.place = 0) : m.text 32 = (({ m with top := m.top.flush }).turn 16, 1) := by
  unfold MS.text
  rw [if_neg (by decide)]
  exact if_pos ⟨h, by decide⟩
theorem top_place {m : MS} {qs : List Nat} {p : Nat} (h : m.places = qs ++ [p]) : m.top.place = p := by
  unfold MS.places at h
  have := (List.append_inj' h rfl).2
  simpa using this
theorem plain_places (m : MS) (l : List UInt8) : ({ m with plain := l } : MS).places = m.places := rfl
theorem close_one (m : MS) (hk : m.textlike) {qs : List Nat} {p : Nat} (h : m.places = qs ++ [p]) (hq : qs ≠ []) (hp : p = 1 ∨ p = 2) : (m.feed (cl p)).2 = 0 ∧ (m.feed (cl p)).1.kind = 0 ∧ (m.feed (cl p)).1.places = qs := by
  have hc : cl p = 34 ∨ cl p = 125 ∨ cl p = 32 := by rcases hp with rfl | rfl <;> decide
  obtain ⟨m1, h1, h2, h3⟩ := textlike_next m (cl p) hc hk
  have ht : m1.top.place = p := h3.trans (top_place h)
  have hx : m1.text (cl p) = (m1.pop, 0) := text_pop m1 (cl p) (by rcases hp with rfl | rfl; exact .inl ⟨ht, rfl⟩; exact .inr ⟨ht, rfl⟩)
  rw [h1.trans hx |> fun e => (by unfold MS.feed; simp only [e, if_true] : m.feed (cl p) = ({ m1.pop with plain := m1.pop.plain ++ [cl p] }, 0))]
  exact ⟨rfl, rfl, by rw [plain_places]; exact pop_places m1 qs p (h2.trans h) hq⟩
theorem lower_nil {m : MS} (h : m.places = [0]) : m.lower = [] := by
  unfold MS.places at h
  have h2 := congrArg List.length h
  simp at h2
  exact h2
theorem close_end (m : MS) (hk : m.textlike) (h : m.places = [0]) : (m.feed 32).2 = 1 ∧ (m.feed 32).1.kind = 16 ∧ (m.feed 32).1.lower = [] := by
  obtain ⟨m1, h1, h2, h3⟩ := textlike_next m 32 (by decide) hk
  have ht : m1.top.place = 0 := h3.trans (top_place (qs := []) h)
  have hx := h1.trans (text_end m1 ht)
  have : m.feed 32 = m.next 32 := MS.feed_no m 32 (by rw [hx]; exact Nat.one_ne_zero)
  rw [this, hx]
  exact ⟨rfl, rfl, (by exact lower_nil (m := m1) (h2.trans h))⟩
/-- All levels are closed. -/
theorem close_all (qs : List Nat) (hq : ∀ p ∈ qs, p = 1 ∨ p = 2) (m : MS) (hk : m.textlike) (h : m.places = 0 :: qs) : m.goes (qs.reverse.map cl) ∧ (m.run (qs.reverse.map cl)).textlike ∧ (m.run (qs.reverse.map cl)).places = [0] := by
  induction hl : qs.length generalizing qs m with
  | zero =>
    have : qs = [] := List.eq_nil_of_length_eq_zero hl
    subst this
    exact ⟨trivial, hk, h⟩
  | succ n ih =>
    rcases List.eq_nil_or_concat qs with h0 | ⟨rs, p, h0⟩
    · rw [h0] at hl; simp at hl
    · rw [List.concat_eq_append] at h0
      subst h0
      obtain ⟨c1, c2, c3⟩ := close_one m hk (qs := 0 :: rs) (p := p) h (by simp) (hq p (by simp))
      obtain ⟨d1, d2, d3⟩ := ih rs (fun q hm => hq q (by simp [hm])) (m.feed (cl p)).1 (.inl c2) c3 (by simpa using hl)
      rw [List.reverse_append]
      exact ⟨⟨c1, d1⟩, d2, d3⟩

theorem feed_of {m : MS} {c : UInt8} {m1 : MS} (h : m.next c = (m1, 0)) : m.feed c = ({ m1 with plain := m1.plain ++ [c] }, 0) := by
  unfold MS.feed
  simp only [h, if_true]
theorem goes_one {m : MS} {c : UInt8} {m1 : MS} (h : m.next c = (m1, 0)) (hp : m1.places = m.places) : m.goes [c] ∧ (m.run [c]).kind = m1.kind ∧ (m.run [c]).places = m.places := by
  have e := feed_of h
  exact ⟨⟨by rw [e], trivial⟩, by show (m.feed c).1.kind = _; rw [e], by show (m.feed c).1.places = _; rw [e]; exact hp⟩
theorem arith_closes (m : MS) (hk : m.kind = 13) (n : Nat) (hn : m.deep = n) : m.goes (List.replicate n 41 ++ [41, 41]) ∧ (m.run (List.replicate n 41 ++ [41, 41])).kind = 0 ∧ (m.run (List.replicate n 41 ++ [41, 41])).places = m.places := by
  induction n generalizing m with
  | zero =>
    have h1 : m.next 41 = (m.turn 14, 0) := by
      rw [next_13 m 41 hk]
      unfold MS.arith
      rw [if_neg (by decide), if_pos ⟨rfl, hn⟩]
    obtain ⟨y, e1, k1, _, p1⟩ := fed_one h1
    have h2 : y.next 41 = ((y.add (.leaf 7 y.buf)).turn 0, 0) := by
      rw [next_14 y 41 k1]
      unfold MS.arithEnd
      rw [if_neg (by decide)]
    exact goes_after e1 p1 (goes_one h2 (by rw [turn_places, add_places]))
  | succ n ih =>
    have h1 : m.next 41 = ({ m with deep := m.deep - 1, buf := m.buf ++ [41] }, 0) := by
      rw [next_13 m 41 hk]
      unfold MS.arith
      rw [if_neg (by decide), if_neg (by omega), if_pos rfl]
    obtain ⟨y, e1, k1, d1, p1⟩ := fed_one h1
    rw [List.replicate_succ, List.cons_append]
    exact goes_after e1 p1 (ih y (k1.trans hk) (by rw [d1]; show m.deep - 1 = n; omega))
theorem run_two (m : MS) (c d : UInt8) : m.run [c, d] = (m.feed c).1.run [d] := rfl
/-- What is missing is taken, and leaves it as text. -/
theorem missing_goes (m : MS) (hk : m.kind ≤ 14) (hcut : m.kind = 11 → m.cut = 37 ∨ m.cut = 35) : m.goes m.missing ∧ (m.run m.missing).textlike ∧ (m.run m.missing).places = m.places := by
  have hz : ∀ l : List UInt8, (m.goes l ∧ (m.run l).kind = 0 ∧ (m.run l).places = m.places) → m.goes l ∧ (m.run l).textlike ∧ (m.run l).places = m.places := fun l ⟨a, b, c⟩ => ⟨a, .inl b, c⟩
  have hnp : m.places ≠ [] := by unfold MS.places; simp
  have hb : ∀ (y : MS), (y.behind 125).2 = 0 ∧ (y.behind 125).1.kind = 0 ∧ (y.behind 125).1.places = y.places := fun y => by
    unfold MS.behind
    rw [if_pos rfl]
    exact ⟨rfl, rfl, by show ((y.add _).turn 0).places = _; rw [turn_places, add_places]⟩
  have hbn : ∀ (c : UInt8) (y : MS), m.next c = y.behind 125 → c = 125 → y.places = m.places → m.goes [125] ∧ (m.run [125]).kind = 0 ∧ (m.run [125]).places = m.places := fun c y e hc hy => by
    subst hc
    obtain ⟨b1, b2, b3⟩ := hb y
    have e2 : m.next 125 = ((y.behind 125).1, 0) := e.trans (Prod.ext rfl b1)
    obtain ⟨c1, c2, c3⟩ := goes_one e2 (b3.trans hy)
    exact ⟨c1, c2.trans b2, c3⟩
  have hop : ∀ (c : UInt8) (op : List UInt8), m.next c = (m.operator op, 0) → m.goes [c, 125] ∧ (m.run [c, 125]).kind = 0 ∧ (m.run [c, 125]).places = m.places := fun c op e => by
    have e1 := feed_of e
    have hp : (m.feed c).1.places = m.places ++ [2] := by rw [e1]; exact push_places m _
    obtain ⟨a, b, d⟩ := close_one (m.feed c).1 (.inl (by rw [e1]; rfl)) hp hnp (.inr rfl)
    exact ⟨⟨by rw [e1], a, trivial⟩, b, d⟩
  have hc : m.kind = 0 ∨ m.kind = 1 ∨ m.kind = 2 ∨ m.kind = 3 ∨ m.kind = 4 ∨ m.kind = 5 ∨ m.kind = 6 ∨ m.kind = 7 ∨ m.kind = 8 ∨ m.kind = 9 ∨ m.kind = 10 ∨ m.kind = 11 ∨ m.kind = 12 ∨ m.kind = 13 ∨ m.kind = 14 := by omega
  rcases hc with h | h | h | h | h | h | h | h | h | h | h | h | h | h | h
  · have e : m.missing = [] := by unfold MS.missing; simp [h]
    rw [e]; exact ⟨trivial, .inl h, rfl⟩
  · have e : m.missing = [120] := by unfold MS.missing; simp [h]
    rw [e]
    refine hz _ ?_
    by_cases hp : m.top.place = 1 ∧ quotes 120 = false
    · exact goes_one (m1 := (m.lits [92, 120]).turn 0) (by rw [next_1 m 120 h]; unfold MS.escaped; rw [if_neg (by decide), if_pos hp]) rfl
    · exact goes_one (m1 := (({ m with took := m.took ++ [120] } : MS).add (.leaf 2 [120])).turn 0) (by rw [next_1 m 120 h]; unfold MS.escaped; rw [if_neg (by decide), if_neg hp]) (by rw [turn_places, add_places]; rfl)
  · have e : m.missing = [] := by unfold MS.missing; simp [h]
    rw [e]; exact ⟨trivial, .inr (.inl h), rfl⟩
  · have e : m.missing = [40] ++ ([48] ++ (List.replicate 0 41 ++ [41, 41])) := by unfold MS.missing; simp [h]
    have n1 : m.next 40 = (({ m with buf := [], deep := 0 } : MS).turn 13, 0) := by
      rw [next_3 m 40 h]
      unfold MS.opened
      exact if_pos rfl
    obtain ⟨y, e1, k1, d1, p1⟩ := fed_one n1
    have n2 : y.next 48 = ({ y with buf := y.buf ++ [48] }, 0) := by
      rw [next_13 y 48 k1]
      unfold MS.arith
      rw [if_neg (by decide), if_neg (by rintro ⟨e, _⟩; revert e; decide), if_neg (by decide), if_neg (by decide)]
    obtain ⟨z, e2, k2, d2, p2⟩ := fed_one n2
    rw [e]
    exact hz _ (goes_after e1 p1 (goes_after e2 p2 (arith_closes z (k2.trans k1) 0 (d2.trans d1))))
  · have e : m.missing = [] := by unfold MS.missing; simp [h]
    rw [e]; exact ⟨trivial, .inr (.inr h), rfl⟩
  · have e : m.missing = [120, 125] := by unfold MS.missing; simp [h]
    have n1 : m.next 120 = (({ ({ m with length := false } : MS) with buf := [120] } : MS).turn 7, 0) := by
      rw [next_5 m 120 h]
      unfold MS.head
      rw [if_neg (by decide)]
      unfold MS.parameter
      exact if_pos (by decide)
    obtain ⟨y, e1, k1, _, p1⟩ := fed_one n1
    have n2 : y.next 125 = (y.turn 9).behind 125 := by
      rw [next_7 y 125 k1]
      unfold MS.named
      exact if_neg (by rintro (e | ⟨e, _⟩) <;> revert e <;> decide)
    obtain ⟨b1, b2, b3⟩ := hb (y.turn 9)
    obtain ⟨c1, c2, c3⟩ := goes_one (n2.trans (Prod.ext rfl b1)) b3
    rw [e]
    exact hz _ (goes_after e1 p1 ⟨c1, c2.trans b2, c3⟩)
  · have e : m.missing = [125] := by unfold MS.missing; simp [h]
    rw [e]
    exact hz _ (goes_one (m1 := (m.add (.leaf 5 [35])).turn 0) (by rw [next_6 m 125 h]; unfold MS.hash; rw [if_pos rfl]) (by rw [turn_places, add_places]))
  · have e : m.missing = [125] := by unfold MS.missing; simp [h]
    rw [e]
    refine hz _ (hbn 125 (m.turn 9) ?_ rfl rfl)
    rw [next_7 m 125 h]
    unfold MS.named
    exact if_neg (by rintro (e | ⟨e, _⟩) <;> revert e <;> decide)
  · have e : m.missing = [125] := by unfold MS.missing; simp [h]
    rw [e]
    refine hz _ (hbn 125 (m.turn 9) ?_ rfl rfl)
    rw [next_8 m 125 h]
    unfold MS.named
    exact if_neg (by rintro (e | ⟨e, _⟩) <;> revert e <;> decide)
  · have e : m.missing = [125] := by unfold MS.missing; simp [h]
    rw [e]
    exact hz _ (hbn 125 m (next_9 m 125 h) rfl rfl)
  · have e : m.missing = [45, 125] := by unfold MS.missing; simp [h]
    rw [e]
    exact hz _ (hop 45 [58, 45] (by rw [next_10 m 45 h]; unfold MS.colon; exact if_neg (by decide)))
  · have e : m.missing = [125] := by unfold MS.missing; simp [h]
    rw [e]
    have hc2 : ¬ (125 : UInt8) = m.cut := by rcases hcut h with hc | hc <;> rw [hc] <;> decide
    have ht : (m.operator [m.cut]).text 125 = ((m.operator [m.cut]).pop, 0) := text_pop _ _ (.inr ⟨rfl, rfl⟩)
    exact hz _ (goes_one (m1 := (m.operator [m.cut]).pop) (by rw [next_11 m 125 h]; unfold MS.double; rw [if_neg hc2, ht]) (pop_places _ m.places 2 (push_places _ _) hnp))
  · have e : m.missing = [39] := by unfold MS.missing; simp [h]
    rw [e]
    exact hz _ (goes_one (m1 := (m.add (.leaf 3 m.buf)).turn 0) (by rw [next_12 m 39 h]; unfold MS.single; rw [if_neg (by decide), if_pos rfl]) (by rw [turn_places, add_places]))
  · have e : m.missing = List.replicate m.deep 41 ++ [41, 41] := by unfold MS.missing; simp [h]
    rw [e]
    exact hz _ (arith_closes m h m.deep rfl)
  · have e : m.missing = [41] := by unfold MS.missing; simp [h]
    rw [e]
    exact hz _ (goes_one (m1 := (m.add (.leaf 7 m.buf)).turn 0) (by rw [next_14 m 41 h]; unfold MS.arithEnd; rw [if_neg (by decide)]) (by rw [turn_places, add_places]))
/-- The rest ends it. -/
theorem rest_goes (m : MS) (h : m.ok) (hk : m.kind ≤ 14) (hcut : m.kind = 11 → m.cut = 37 ∨ m.cut = 35) : m.goes m.rest ∧ ((m.run m.rest).feed 32).2 = 1 ∧ ((m.run m.rest).feed 32).1.kind = 16 ∧ ((m.run m.rest).feed 32).1.lower = [] := by
  obtain ⟨ps, hp, hq⟩ := h
  obtain ⟨a, b, c⟩ := missing_goes m hk hcut
  have hr : m.rest = m.missing ++ ps.reverse.map cl := by
    unfold MS.rest
    rw [if_neg (by omega), hp]
    rfl
  obtain ⟨d, e, f⟩ := close_all ps hq (m.run m.missing) b (c.trans hp)
  rw [hr, goes_app, mrun_app]
  exact ⟨⟨a, d⟩, close_end _ e f⟩
theorem rest_len (m : MS) : m.rest.length ≤ m.sz + 10 := by
  have h1 : m.missing.length ≤ m.deep + 4 := by
    unfold MS.missing
    repeat' split
    all_goals simp only [List.length_append, List.length_replicate, List.length_cons, List.length_nil]
    all_goals omega
  unfold MS.rest
  split
  · simp
  · simp only [List.length_append, List.length_map, List.length_reverse, List.length_drop, MS.places, MS.sz, List.length_cons, List.length_nil] at *
    omega
/-- Bytes that can come, with what is missing, and a blank: it all goes, and ends. -/
theorem rest_ends (l : List UInt8) (h : ({} : MS).goes l) : ∃ m : MS, ({} : MS).fed (l ++ (({} : MS).run l).rest ++ [32]) = (m, (l ++ (({} : MS).run l).rest).length, 1) ∧ m.kind = 16 ∧ m.lower = [] := by
  have g := Good.run Good.new l
  have hk : (({} : MS).run l).kind ≤ 14 := goes_live Good.new.ok (by decide) l h
  obtain ⟨a, b, c, d⟩ := rest_goes (({} : MS).run l) g.ok hk (run_cut Good.new.ok (by decide) (by decide) l)
  refine ⟨_, ?_, c, d⟩
  rw [fed_goes _ _ _ ((goes_app _ _ _).2 ⟨h, a⟩), fed_stop _ _ _ (by rw [mrun_app, b]; decide), mrun_app, b]
  rfl
end Go.Proofs.Ytpadnckmheippaa
