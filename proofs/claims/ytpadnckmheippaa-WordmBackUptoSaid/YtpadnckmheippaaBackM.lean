/- A word's text, read by the word machine: its parts come back. Plain. A word's text, read by the word machine: parameters, levels that close, literals, and all of it. Plain. A word's text, read by the word machine, is that word: plain. What is small: much says it. Plain. A word that came in, read. WordmBack: a right word without commands, as text with a blank behind it, is that word; where what comes in is of bulk at most 1048576. -/
import Derived.Test.YtpadnckmheippaaTc
import Derived.Test.YtpadnckmheippaaVa
import Derived.Test.YtpadnckmheippaaLaw
import Derived.Deep.Slices
import Derived.Deep.Fields
import Derived.JoinedCond
namespace Go.Proofs.Ytpadnckmheippaa
open Go
set_option linter.unusedVariables false
set_option linter.unusedSimpArgs false
def Goes (m : MS) (s : List UInt8) (m' : MS) : Prop := m.goes s ∧ m.run s = m'
theorem Goes.nil (m : MS) : Goes m [] m := ⟨trivial, rfl⟩
theorem Goes.trans {m m1 m2 : MS} {s t : List UInt8} (h : Goes m s m1) (k : Goes m1 t m2) : Goes m (s ++ t) m2 := by
  obtain ⟨h1, rfl⟩ := h
  obtain ⟨k1, rfl⟩ := k
  exact ⟨(goes_app _ _ _).2 ⟨h1, k1⟩, mrun_app _ _ _⟩
theorem goes_byte {m m1 : MS} {c : UInt8} (h : m.next c = (m1, 0)) : Goes m [c] { m1 with plain := m1.plain ++ [c] } := by
  have := feed_of h
  refine ⟨⟨by rw [this], trivial⟩, ?_⟩
  show (m.feed c).1 = _
  rw [this]
/-- A machine within a state. -/
structure In (m : MS) (k : Nat) (ls : List LV) (V : LV) (b : List UInt8) : Prop where
  kind : m.kind = k
  lower : m.lower = ls
  top : m.top = V
  buf : m.buf = b
/-- What a machine that stands ahead of a byte of its level is like. -/
def MS.norm (m : MS) : MS := if m.kind = 2 then (m.lits [36]).turn 0 else if m.kind = 11 then m.operator [m.cut] else m
structure At (m : MS) (ls : List LV) (V : LV) : Prop where
  lower : m.norm.lower = ls
  top : m.norm.top = V
  kind : m.kind = 0 ∨ (m.kind = 2 ∧ V.lit.getLast? = some 36) ∨ (m.kind = 11 ∧ V.place = 2 ∧ V.parts = [] ∧ V.lit = [] ∧ V.op = [m.cut] ∧ (m.cut = 37 ∨ m.cut = 35))
theorem At.of_in {m : MS} {ls : List LV} {V : LV} {b : List UInt8} (h : In m 0 ls V b) : At m ls V := by
  have hn : m.norm = m := by unfold MS.norm; rw [if_neg (by rw [h.kind]; decide), if_neg (by rw [h.kind]; decide)]
  exact ⟨by rw [hn]; exact h.lower, by rw [hn]; exact h.top, .inl h.kind⟩
/-- May this byte come next, as a byte of the level? -/
def Okc (V : LV) (c : UInt8) : Prop := (V.lit.getLast? = some 36 → okAfter c = true) ∧ (V.place = 2 → V.parts = [] → V.lit = [] → V.op = [c] → c ≠ 37 ∧ c ≠ 35)
theorem okc_easy {V : LV} {c : UInt8} (h : okAfter c = true) (h1 : c ≠ 37) (h2 : c ≠ 35) : Okc V c := ⟨fun _ => h, fun _ _ _ _ => ⟨h1, h2⟩⟩
theorem At.next {m : MS} {ls : List LV} {V : LV} (h : At m ls V) {c : UInt8} (hc : Okc V c) : m.next c = m.norm.text c ∧ m.norm.kind = 0 := by
  rcases h.kind with hk | ⟨hk, hl⟩ | ⟨hk, hp, hps, hl, ho, hcut⟩
  · have hn : m.norm = m := by unfold MS.norm; rw [if_neg (by rw [hk]; decide), if_neg (by rw [hk]; decide)]
    rw [hn]
    exact ⟨next_0 m c hk, hk⟩
  · have hn : m.norm = (m.lits [36]).turn 0 := by unfold MS.norm; rw [if_pos hk]
    rw [hn, next_2 m c hk]
    refine ⟨?_, rfl⟩
    have ha := hc.1 hl
    unfold okAfter at ha
    simp only [Bool.and_eq_true, bne_iff_ne, ne_eq, Bool.not_eq_true'] at ha
    obtain ⟨⟨⟨⟨a1, a2⟩, a3⟩, a4⟩, a5⟩ := ha
    unfold MS.dollar
    simp only
    rw [if_neg a4, if_neg a5, if_neg a1, if_neg (by rintro (e | e); exact a2 e; rw [a3] at e; cases e)]
  · have hn : m.norm = m.operator [m.cut] := by unfold MS.norm; rw [if_neg (by rw [hk]; decide), if_pos hk]
    rw [hn, next_11 m c hk]
    refine ⟨?_, rfl⟩
    unfold MS.double
    rw [if_neg]
    rintro rfl
    have := hc.2 hp hps hl ho
    rcases hcut with e | e
    · exact this.1 e
    · exact this.2 e
/-- A byte that leads into a state. -/
theorem At.into {m : MS} {ls : List LV} {V : LV} (h : At m ls V) {c : UInt8} (hc : Okc V c) {m1 : MS} (ht : m.norm.text c = (m1, 0)) : ∃ m', Goes m [c] m' ∧ m' = { m1 with plain := m1.plain ++ [c] } :=
  ⟨_, goes_byte ((h.next hc).1.trans ht), rfl⟩
theorem At.esc {m : MS} {ls : List LV} {V : LV} (h : At m ls V) : ∃ m', Goes m [92] m' ∧ In m' 1 ls V m'.buf := by
  have ht : m.norm.text 92 = (({ m.norm with quoted := true } : MS).turn 1, 0) := by
    unfold MS.text
    simp only
    rw [if_neg (by decide), if_neg (by rintro ⟨_, e⟩; revert e; decide), if_neg (by rintro (⟨_, e⟩ | ⟨_, e⟩) <;> revert e <;> decide), if_pos trivial]
  obtain ⟨m', g, rfl⟩ := h.into (okc_easy (by decide) (by decide) (by decide)) ht
  exact ⟨_, g, rfl, h.lower, h.top, rfl⟩
theorem At.single {m : MS} {ls : List LV} {V : LV} (h : At m ls V) (hp : V.place ≠ 1) : ∃ m', Goes m [39] m' ∧ In m' 12 ls V [] := by
  have ht : m.norm.text 39 = (({ m.norm with quoted := true, buf := [] } : MS).turn 12, 0) := by
    unfold MS.text
    simp only
    rw [if_neg (by decide), if_neg (by rintro ⟨_, e⟩; revert e; decide), if_neg (by rintro (⟨_, e⟩ | ⟨_, e⟩) <;> revert e <;> decide), if_neg (by decide), if_pos ⟨trivial, by rw [h.top]; exact hp⟩]
  obtain ⟨m', g, rfl⟩ := h.into (okc_easy (by decide) (by decide) (by decide)) ht
  exact ⟨_, g, rfl, h.lower, h.top, rfl⟩
theorem At.quote {m : MS} {ls : List LV} {V : LV} (h : At m ls V) (hp : V.place ≠ 1) : ∃ m', Goes m [34] m' ∧ At m' (ls ++ [V]) { place := 1 } := by
  have ht : m.norm.text 34 = (({ m.norm with quoted := true } : MS).push { place := 1 }, 0) := by
    unfold MS.text
    simp only
    rw [if_neg (by decide), if_neg (by rintro ⟨_, e⟩; revert e; decide), if_neg (by rintro (⟨e, _⟩ | ⟨_, e⟩); exact hp (by rw [← h.top]; exact e); revert e; decide), if_neg (by decide), if_neg (by rintro ⟨e, _⟩; revert e; decide), if_pos trivial]
  obtain ⟨m', g, rfl⟩ := h.into (okc_easy (by decide) (by decide) (by decide)) ht
  refine ⟨_, g, At.of_in (b := m.norm.buf) ⟨rfl, ?_, rfl, rfl⟩⟩
  show m.norm.lower ++ [m.norm.top] = _
  rw [h.lower, h.top]
theorem At.dollar {m : MS} {ls : List LV} {V : LV} (h : At m ls V) (hl : V.lit.getLast? ≠ some 36) : ∃ m', Goes m [36] m' ∧ In m' 2 ls V m'.buf := by
  have ht : m.norm.text 36 = (m.norm.turn 2, 0) := by
    unfold MS.text
    simp only
    rw [if_neg (by decide), if_neg (by rintro ⟨_, e⟩; revert e; decide), if_neg (by rintro (⟨_, e⟩ | ⟨_, e⟩) <;> revert e <;> decide), if_neg (by decide), if_neg (by rintro ⟨e, _⟩; revert e; decide), if_neg (by decide), if_pos trivial]
  obtain ⟨m', g, rfl⟩ := h.into ⟨fun e => absurd e hl, fun _ _ _ _ => by decide⟩ ht
  exact ⟨_, g, rfl, h.lower, h.top, rfl⟩
/-- What a level's parts are, with the literal at its end. -/
theorem flush_top {m : MS} {ls : List LV} {V : LV} {b : List UInt8} {k : Nat} (h : In m k ls V b) (p : PT) (m' : MS) (hm : m'.lower = m.lower) (ht : m'.top = m.top) : In ((m'.add p).turn 0) 0 ls { V.flush with parts := V.flush.parts ++ [p] } m'.buf :=
  ⟨rfl, by show m'.lower = ls; rw [hm]; exact h.lower, by show ({ m'.top.flush with parts := m'.top.flush.parts ++ [p] } : LV) = _; rw [ht, h.top], rfl⟩
/-- A byte behind a \. -/
theorem In.escaped {m : MS} {ls : List LV} {V : LV} {b : List UInt8} (h : In m 1 ls V b) {c : UInt8} (h0 : c ≠ 0) (h10 : c ≠ 10) (hq : V.place ≠ 1 ∨ quotes c = true) :
    ∃ m', Goes m [c] m' ∧ At m' ls { V.flush with parts := V.flush.parts ++ [.leaf 2 [c]] } := by
  have ht : m.next c = ((({ m with took := m.took ++ [c] } : MS).add (.leaf 2 [c])).turn 0, 0) := by
    rw [next_1 m c h.kind]
    unfold MS.escaped
    rw [if_neg (by rintro (e | e); exact h0 e; exact h10 e), if_neg]
    rintro ⟨e1, e2⟩
    rcases hq with hq | hq
    · exact hq (by rw [← h.top]; exact e1)
    · rw [hq] at e2; cases e2
  refine ⟨_, goes_byte ht, At.of_in (b := m.buf) ?_⟩
  have := flush_top h (.leaf 2 [c]) ({ m with took := m.took ++ [c] } : MS) rfl rfl
  exact ⟨this.kind, this.lower, this.top, rfl⟩
theorem In.escLit {m : MS} {ls : List LV} {V : LV} {b : List UInt8} (h : In m 1 ls V b) {c : UInt8} (h0 : c ≠ 0) (h10 : c ≠ 10) (hp : V.place = 1) (hq : quotes c = false) :
    ∃ m', Goes m [c] m' ∧ At m' ls { V with lit := V.lit ++ [92, c] } := by
  have ht : m.next c = ((m.lits [92, c]).turn 0, 0) := by
    rw [next_1 m c h.kind]
    unfold MS.escaped
    rw [if_neg (by rintro (e | e); exact h0 e; exact h10 e), if_pos ⟨by rw [h.top]; exact hp, hq⟩]
  refine ⟨_, goes_byte ht, At.of_in (b := m.buf) ⟨rfl, h.lower, ?_, rfl⟩⟩
  show ({ m.top with lit := m.top.lit ++ [92, c] } : LV) = _
  rw [h.top]
/-- The bytes of a single quote. -/
theorem In.singles {ls : List LV} {V : LV} (t : List UInt8) : ∀ {m : MS} {b : List UInt8}, In m 12 ls V b → clearB t 39 = true → ∃ m', Goes m t m' ∧ In m' 12 ls V (b ++ t) := by
  induction t with
  | nil => intro m b h _; exact ⟨m, Goes.nil m, by rw [List.append_nil]; exact h⟩
  | cons c t ih =>
    intro m b h hc
    simp only [clearB, List.all_cons, Bool.and_eq_true, bne_iff_ne, ne_eq] at hc
    obtain ⟨⟨c0, c39⟩, hr⟩ := hc
    have ht : m.next c = ({ m with buf := m.buf ++ [c], took := m.took ++ [c] }, 0) := by
      rw [next_12 m c h.kind]
      unfold MS.single
      rw [if_neg c0, if_neg c39]
    obtain ⟨m', g, h'⟩ := ih (m := { m with buf := m.buf ++ [c], took := m.took ++ [c], plain := m.plain ++ [c] }) (b := b ++ [c]) ⟨h.kind, h.lower, h.top, by show m.buf ++ [c] = _; rw [h.buf]⟩ (by unfold clearB; simpa using hr)
    exact ⟨m', (goes_byte ht).trans g, by rw [show b ++ c :: t = b ++ [c] ++ t by simp]; exact h'⟩
theorem In.singleEnd {m : MS} {ls : List LV} {V : LV} {b : List UInt8} (h : In m 12 ls V b) : ∃ m', Goes m [39] m' ∧ At m' ls { V.flush with parts := V.flush.parts ++ [.leaf 3 b] } := by
  have ht : m.next 39 = ((m.add (.leaf 3 m.buf)).turn 0, 0) := by
    rw [next_12 m 39 h.kind]
    unfold MS.single
    rw [if_neg (by decide), if_pos rfl]
  refine ⟨_, goes_byte ht, At.of_in (b := m.buf) ?_⟩
  have := flush_top h (.leaf 3 m.buf) m rfl rfl
  rw [h.buf] at this ⊢
  exact ⟨this.kind, this.lower, this.top, h.buf⟩
/-- Arithmetic. -/
theorem In.ariths {ls : List LV} {V : LV} (t : List UInt8) : ∀ {m : MS} {b : List UInt8} {n : Nat}, In m 13 ls V b → arithRun m.deep t = some n → ∃ m', Goes m t m' ∧ In m' 13 ls V (b ++ t) ∧ m'.deep = n := by
  induction t with
  | nil => intro m b n h hc; simp only [arithRun, Option.some.injEq] at hc; exact ⟨m, Goes.nil m, by rw [List.append_nil]; exact h, hc⟩
  | cons c t ih =>
    intro m b n h hc
    rw [arithRun] at hc
    by_cases c0 : c = 0
    · rw [if_pos c0] at hc; cases hc
    rw [if_neg c0] at hc
    have fin : ∀ d, m.next c = ({ m with deep := d, buf := m.buf ++ [c] }, 0) → arithRun d t = some n → ∃ m', Goes m (c :: t) m' ∧ In m' 13 ls V (b ++ c :: t) ∧ m'.deep = n := fun d ht hd => by
      obtain ⟨m', g, h', hn⟩ := ih (m := { m with deep := d, buf := m.buf ++ [c], plain := m.plain ++ [c] }) (b := b ++ [c]) ⟨h.kind, h.lower, h.top, by show m.buf ++ [c] = _; rw [h.buf]⟩ hd
      exact ⟨m', (goes_byte ht).trans g, by rw [show b ++ c :: t = b ++ [c] ++ t by simp]; exact h', hn⟩
    have hnx : m.next c = m.arith c := next_13 m c h.kind
    unfold MS.arith at hnx
    rw [if_neg c0] at hnx
    by_cases c40 : c = 40
    · rw [if_pos c40] at hc
      rw [if_neg (by rintro ⟨e, _⟩; rw [c40] at e; revert e; decide), if_neg (by rw [c40]; decide), if_pos c40] at hnx
      exact fin _ hnx hc
    rw [if_neg c40] at hc
    by_cases c41 : c = 41
    · rw [if_pos c41] at hc
      by_cases d0 : m.deep = 0
      · rw [if_pos d0] at hc; cases hc
      · rw [if_neg d0] at hc
        rw [if_neg (by rintro ⟨_, e⟩; exact d0 e), if_pos c41] at hnx
        exact fin _ hnx hc
    · rw [if_neg c41] at hc
      rw [if_neg (by rintro ⟨e, _⟩; exact c41 e), if_neg c41, if_neg c40] at hnx
      exact fin m.deep hnx hc
end Go.Proofs.Ytpadnckmheippaa

namespace Go.Proofs.Ytpadnckmheippaa
open Go
set_option linter.unusedVariables false
set_option linter.unusedSimpArgs false
theorem In.arithOpen {m : MS} {ls : List LV} {V : LV} {b : List UInt8} (h : In m 2 ls V b) : ∃ m', Goes m [40, 40] m' ∧ In m' 13 ls V [] ∧ m'.deep = 0 := by
  have h1 : m.next 40 = (({ m with exp := true } : MS).turn 3, 0) := by
    rw [next_2 m 40 h.kind]
    unfold MS.dollar
    simp only
    rw [if_neg (by decide), if_pos trivial]
  have g1 := goes_byte h1
  generalize hm1 : ({ (({ m with exp := true } : MS).turn 3) with plain := (({ m with exp := true } : MS).turn 3).plain ++ [40] } : MS) = m1 at g1
  have k1 : In m1 3 ls V b := by subst hm1; exact ⟨rfl, h.lower, h.top, h.buf⟩
  have h2 : m1.next 40 = (({ m1 with buf := [], deep := 0 } : MS).turn 13, 0) := by
    rw [next_3 m1 40 k1.kind]
    unfold MS.opened
    rw [if_pos rfl]
  exact ⟨_, g1.trans (goes_byte h2), ⟨rfl, k1.lower, k1.top, rfl⟩, rfl⟩
theorem In.arithClose {m : MS} {ls : List LV} {V : LV} {b : List UInt8} (h : In m 13 ls V b) (hd : m.deep = 0) : ∃ m', Goes m [41, 41] m' ∧ At m' ls { V.flush with parts := V.flush.parts ++ [.leaf 7 b] } := by
  have h1 : m.next 41 = (m.turn 14, 0) := by
    rw [next_13 m 41 h.kind]
    unfold MS.arith
    rw [if_neg (by decide), if_pos ⟨rfl, hd⟩]
  have g1 := goes_byte h1
  generalize hm1 : ({ (m.turn 14) with plain := (m.turn 14).plain ++ [41] } : MS) = m1 at g1
  have k1 : In m1 14 ls V b := by subst hm1; exact ⟨rfl, h.lower, h.top, h.buf⟩
  have h2 : m1.next 41 = ((m1.add (.leaf 7 m1.buf)).turn 0, 0) := by
    rw [next_14 m1 41 k1.kind]
    unfold MS.arithEnd
    rw [if_neg (by decide)]
  refine ⟨_, g1.trans (goes_byte h2), At.of_in (b := m1.buf) ?_⟩
  have := flush_top k1 (.leaf 7 m1.buf) m1 rfl rfl
  rw [k1.buf] at this ⊢
  exact ⟨this.kind, this.lower, this.top, k1.buf⟩
theorem In.brace {m : MS} {ls : List LV} {V : LV} {b : List UInt8} (h : In m 2 ls V b) : ∃ m', Goes m [123] m' ∧ In m' 5 ls V b := by
  have h1 : m.next 123 = (({ m with exp := true } : MS).turn 5, 0) := by
    rw [next_2 m 123 h.kind]
    unfold MS.dollar
    simp only
    rw [if_pos trivial]
  exact ⟨_, goes_byte h1, rfl, h.lower, h.top, h.buf⟩
theorem In.hash {m : MS} {ls : List LV} {V : LV} {b : List UInt8} (h : In m 5 ls V b) : ∃ m', Goes m [35] m' ∧ In m' 6 ls V b ∧ m'.length = true := by
  have h1 : m.next 35 = (({ m with length := true } : MS).turn 6, 0) := by
    rw [next_5 m 35 h.kind]
    unfold MS.head
    rw [if_pos rfl]
  exact ⟨_, goes_byte h1, ⟨rfl, h.lower, h.top, h.buf⟩, rfl⟩
theorem In.hashEnd {m : MS} {ls : List LV} {V : LV} {b : List UInt8} (h : In m 6 ls V b) : ∃ m', Goes m [125] m' ∧ At m' ls { V.flush with parts := V.flush.parts ++ [.leaf 5 [35]] } := by
  have h1 : m.next 125 = ((m.add (.leaf 5 [35])).turn 0, 0) := by
    rw [next_6 m 125 h.kind]
    unfold MS.hash
    rw [if_pos rfl]
  refine ⟨_, goes_byte h1, At.of_in (b := m.buf) ?_⟩
  have := flush_top h (.leaf 5 [35]) m rfl rfl
  exact ⟨this.kind, this.lower, this.top, rfl⟩
/-- A parameter's name is read. -/
structure Named7 (m : MS) (ls : List LV) (V : LV) (t : List UInt8) (L : Bool) : Prop where
  kind : m.kind = 7 ∨ m.kind = 8 ∨ m.kind = 9
  lower : m.lower = ls
  top : m.top = V
  buf : m.buf = t
  len : m.length = L
theorem name_run {ls : List LV} {V : LV} {L : Bool} (r : List UInt8) : ∀ {m : MS} {b : List UInt8}, (m.kind = 7 ∧ (∀ d ∈ r, classOf d = 4 ∨ classOf d = 3)) ∨ (m.kind = 8 ∧ (∀ d ∈ r, classOf d = 3)) → m.lower = ls → m.top = V → m.buf = b → m.length = L → ∃ m', Goes m r m' ∧ Named7 m' ls V (b ++ r) L := by
  induction r with
  | nil => intro m b hk h1 h2 h3 h4; exact ⟨m, Goes.nil m, by rcases hk with ⟨h, _⟩ | ⟨h, _⟩; exact .inl h; exact .inr (.inl h), h1, h2, by rw [List.append_nil]; exact h3, h4⟩
  | cons c r ih =>
    intro m b hk h1 h2 h3 h4
    have hn : m.next c = ({ m with buf := m.buf ++ [c] }, 0) := by
      rcases hk with ⟨h, hr⟩ | ⟨h, hr⟩
      · rw [next_7 m c h]
        unfold MS.named
        simp only
        have := hr c (by simp)
        rw [if_pos (by rcases this with e | e; exact .inr ⟨e, h⟩; exact .inl e)]
      · rw [next_8 m c h]
        unfold MS.named
        simp only
        rw [if_pos (.inl (hr c (by simp)))]
    obtain ⟨m', g, h'⟩ := ih (m := { m with buf := m.buf ++ [c], plain := m.plain ++ [c] }) (b := b ++ [c]) (by
      rcases hk with ⟨h, hr⟩ | ⟨h, hr⟩
      · exact .inl ⟨h, fun d hd => hr d (List.mem_cons_of_mem _ hd)⟩
      · exact .inr ⟨h, fun d hd => hr d (List.mem_cons_of_mem _ hd)⟩) h1 h2 (by show m.buf ++ [c] = _; rw [h3]) h4
    exact ⟨m', (goes_byte hn).trans g, by rw [show b ++ c :: r = b ++ [c] ++ r by simp]; exact h'⟩
theorem param_run {x m : MS} {ls : List LV} {V : LV} {L : Bool} {c : UInt8} {r : List UInt8} (ht : paramText (c :: r) = true) (hn : m.next c = x.parameter c) (h1 : x.lower = ls) (h2 : x.top = V) (h4 : x.length = L) : ∃ m', Goes m (c :: r) m' ∧ Named7 m' ls V (c :: r) L := by
  unfold paramText at ht
  simp only [Bool.or_eq_true] at ht
  have step : ∀ k, x.parameter c = (({ x with buf := [c] } : MS).turn k, 0) → ((k = 7 ∧ (∀ d ∈ r, classOf d = 4 ∨ classOf d = 3)) ∨ (k = 8 ∧ (∀ d ∈ r, classOf d = 3))) → ∃ m', Goes m (c :: r) m' ∧ Named7 m' ls V (c :: r) L := fun k hp hk => by
    rw [hp] at hn
    obtain ⟨m', g, h'⟩ := name_run (ls := ls) (V := V) (L := L) r (m := { (({ x with buf := [c] } : MS).turn k) with plain := (({ x with buf := [c] } : MS).turn k).plain ++ [c] }) (b := [c]) hk h1 h2 rfl h4
    exact ⟨m', (goes_byte hn).trans g, h'⟩
  rcases ht with (ht | ht) | ht
  · simp only [nameB, Bool.and_eq_true, beq_iff_eq, List.all_eq_true, Bool.or_eq_true] at ht
    refine step 7 ?_ (.inl ⟨rfl, ht.2⟩)
    unfold MS.parameter
    simp only
    rw [if_pos ht.1]
  · simp only [digitsB, Bool.and_eq_true, List.all_cons, beq_iff_eq, List.all_eq_true] at ht
    refine step 8 ?_ (.inr ⟨rfl, ht.2.2⟩)
    unfold MS.parameter
    simp only
    rw [if_neg (by rw [ht.2.1]; decide), if_pos ht.2.1]
  · simp only [Bool.and_eq_true, beq_iff_eq, List.length_cons, List.headD_cons] at ht
    have hr : r = [] := List.eq_nil_of_length_eq_zero (by omega)
    subst hr
    have hc : classOf c ≠ 4 ∧ classOf c ≠ 3 := by
      have h0 := List.all_eq_true.1 (show allBytes.all (fun c => !special c || (classOf c != 4 && classOf c != 3)) = true by kernel_rfl) c (mem_bytes c)
      rw [ht.2] at h0
      simpa using h0
    have hp : x.parameter c = (({ x with buf := [c] } : MS).turn 9, 0) := by
      unfold MS.parameter
      simp only
      rw [if_neg hc.1, if_neg hc.2, if_pos ht.2]
    rw [hp] at hn
    exact ⟨_, goes_byte hn, .inr (.inr rfl), h1, h2, rfl, h4⟩
theorem In.headName {m : MS} {ls : List LV} {V : LV} {b : List UInt8} (h : In m 5 ls V b) {t : List UInt8} (ht : paramText t = true) (h35 : t.head? ≠ some 35) : ∃ m', Goes m t m' ∧ Named7 m' ls V t false := by
  cases t with
  | nil => simp [paramText, nameB, digitsB] at ht
  | cons c r =>
    refine param_run (x := { m with length := false }) ht ?_ h.lower h.top rfl
    rw [next_5 m c h.kind]
    unfold MS.head
    rw [if_neg (by simpa using h35)]
theorem In.hashName {m : MS} {ls : List LV} {V : LV} {b : List UInt8} (h : In m 6 ls V b) (hl : m.length = true) {t : List UInt8} (ht : paramText t = true) : ∃ m', Goes m t m' ∧ Named7 m' ls V t true := by
  cases t with
  | nil => simp [paramText, nameB, digitsB] at ht
  | cons c r =>
    refine param_run (x := m) ht ?_ h.lower h.top hl
    rw [next_6 m c h.kind]
    unfold MS.hash
    rw [if_neg]
    rintro rfl
    revert ht
    unfold paramText nameB digitsB
    simp only [List.all_cons, List.headD_cons]
    rw [show classOf 125 = 8 by decide, show special 125 = false by decide]
    simp
/-- Behind a name. -/
theorem Named7.next {m : MS} {ls : List LV} {V : LV} {t : List UInt8} {L : Bool} (h : Named7 m ls V t L) {c : UInt8} (h3 : classOf c ≠ 3) (h4 : classOf c ≠ 4) : m.next c = (m.turn 9).behind c := by
  rcases h.kind with hk | hk | hk
  · rw [next_7 m c hk]
    unfold MS.named
    simp only
    rw [if_neg (by rintro (e | ⟨e, _⟩); exact h3 e; exact h4 e)]
  · rw [next_8 m c hk]
    unfold MS.named
    simp only
    rw [if_neg (by rintro (e | ⟨e, _⟩); exact h3 e; exact h4 e)]
  · rw [next_9 m c hk]
    have : m.turn 9 = m := by cases m; simp only at hk; subst hk; rfl
    rw [this]
theorem Named7.close {m : MS} {ls : List LV} {V : LV} {t : List UInt8} {L : Bool} (h : Named7 m ls V t L) : ∃ m', Goes m [125] m' ∧ At m' ls { V.flush with parts := V.flush.parts ++ [.mk 5 t (if L then [108, 101, 110] else []) [] noCmds] } := by
  have h1 : m.next 125 = (((m.turn 9).add (.mk 5 m.buf (if m.length then [108, 101, 110] else []) [] noCmds)).turn 0, 0) := by
    rw [h.next (by decide) (by decide)]
    unfold MS.behind
    rw [if_pos rfl]
    rfl
  refine ⟨_, goes_byte h1, At.of_in (b := m.buf) ?_⟩
  have := flush_top (m := m) (k := m.kind) (b := m.buf) ⟨rfl, h.lower, h.top, rfl⟩ (.mk 5 m.buf (if m.length then [108, 101, 110] else []) [] noCmds) (m.turn 9) rfl rfl
  rw [h.buf, h.len] at this ⊢
  exact ⟨this.kind, this.lower, this.top, h.buf⟩
theorem oper_at {x : MS} {ls : List LV} {V : LV} {t op : List UInt8} (h1 : x.lower = ls) (h2 : x.top = V) (h3 : x.buf = t) (l : List UInt8) : At { x.operator op with plain := l } (ls ++ [V]) { place := 2, name := t, op := op } := by
  refine At.of_in (b := x.buf) ⟨rfl, ?_, ?_, rfl⟩
  · show x.lower ++ [x.top] = _; rw [h1, h2]
  · show ({ place := 2, name := x.buf, op := op } : LV) = _; rw [h3]
theorem Named7.oper {m : MS} {ls : List LV} {V : LV} {t : List UInt8} (h : Named7 m ls V t false) {op : List UInt8} (ho : opB op = true) : ∃ m', Goes m op m' ∧ At m' (ls ++ [V]) { place := 2, name := t, op := op } := by
  have one : ∀ c, single1 c = true → c ≠ 125 → c ≠ 58 → c ≠ 37 → c ≠ 35 → classOf c ≠ 3 → classOf c ≠ 4 → ∃ m', Goes m [c] m' ∧ At m' (ls ++ [V]) { place := 2, name := t, op := [c] } := fun c hs a1 a2 a3 a4 a5 a6 => by
    have h1 : m.next c = ((m.turn 9).operator [c], 0) := by
      rw [h.next a5 a6]
      unfold MS.behind
      rw [if_neg a1, if_neg (by show ¬ m.length = true; rw [h.len]; decide), if_neg a2, if_neg (by rintro (e | e); exact a3 e; exact a4 e), if_pos hs]
    exact ⟨_, goes_byte h1, oper_at (x := m.turn 9) h.lower h.top h.buf _⟩
  have colon : ∀ c, single1 c = true → ∃ m', Goes m [58, c] m' ∧ At m' (ls ++ [V]) { place := 2, name := t, op := [58, c] } := fun c hs => by
    have h1 : m.next 58 = ((m.turn 9).turn 10, 0) := by
      rw [h.next (by decide) (by decide)]
      unfold MS.behind
      rw [if_neg (by decide), if_neg (by show ¬ m.length = true; rw [h.len]; decide), if_pos rfl]
    have g1 := goes_byte h1
    generalize hm1 : ({ ((m.turn 9).turn 10) with plain := ((m.turn 9).turn 10).plain ++ [58] } : MS) = m1 at g1
    have k1 : In m1 10 ls V t := by subst hm1; exact ⟨rfl, h.lower, h.top, h.buf⟩
    have h2 : m1.next c = (m1.operator [58, c], 0) := by
      rw [next_10 m1 c k1.kind]
      unfold MS.colon
      rw [if_neg (by rw [hs]; decide)]
    exact ⟨_, g1.trans (goes_byte h2), oper_at (x := m1) k1.lower k1.top k1.buf _⟩
  have cut : ∀ c, c = 37 ∨ c = 35 → classOf c ≠ 3 → classOf c ≠ 4 → ∃ m', Goes m [c] m' ∧ In m' 11 ls V t ∧ m'.cut = c := fun c hc a5 a6 => by
    have h1 : m.next c = (({ (m.turn 9) with cut := c } : MS).turn 11, 0) := by
      rw [h.next a5 a6]
      unfold MS.behind
      rw [if_neg (by rcases hc with e | e <;> rw [e] <;> decide), if_neg (by show ¬ m.length = true; rw [h.len]; decide), if_neg (by rcases hc with e | e <;> rw [e] <;> decide), if_pos hc]
    exact ⟨_, goes_byte h1, ⟨rfl, h.lower, h.top, h.buf⟩, rfl⟩
  have cut1 : ∀ c, c = 37 ∨ c = 35 → classOf c ≠ 3 → classOf c ≠ 4 → ∃ m', Goes m [c] m' ∧ At m' (ls ++ [V]) { place := 2, name := t, op := [c] } := fun c hc a5 a6 => by
    obtain ⟨m1, g1, k1, hcut⟩ := cut c hc a5 a6
    have hn : m1.norm = m1.operator [m1.cut] := by unfold MS.norm; rw [if_neg (by rw [k1.kind]; decide), if_pos k1.kind]
    refine ⟨m1, g1, ?_, ?_, .inr (.inr ⟨k1.kind, rfl, rfl, rfl, by rw [hcut], by rw [hcut]; exact hc⟩)⟩
    · rw [hn]; show m1.lower ++ [m1.top] = _; rw [k1.lower, k1.top]
    · rw [hn, hcut]; show ({ place := 2, name := m1.buf, op := [c] } : LV) = _; rw [k1.buf]
  have cut2 : ∀ c, c = 37 ∨ c = 35 → classOf c ≠ 3 → classOf c ≠ 4 → ∃ m', Goes m [c, c] m' ∧ At m' (ls ++ [V]) { place := 2, name := t, op := [c, c] } := fun c hc a5 a6 => by
    obtain ⟨m1, g1, k1, hcut⟩ := cut c hc a5 a6
    have h2 : m1.next c = (m1.operator [c, c], 0) := by
      rw [next_11 m1 c k1.kind]
      unfold MS.double
      rw [if_pos hcut.symm]
    exact ⟨_, g1.trans (goes_byte h2), oper_at (x := m1) k1.lower k1.top k1.buf _⟩
  unfold opB at ho
  simp only [List.contains_cons, List.contains_nil, Bool.or_false, Bool.or_eq_true, beq_iff_eq] at ho
  rcases ho with e | e | e | e | e | e | e | e | e | e | e | e <;> subst e
  · exact colon 45 (by decide)
  · exact one 45 (by decide) (by decide) (by decide) (by decide) (by decide) (by decide) (by decide)
  · exact colon 61 (by decide)
  · exact one 61 (by decide) (by decide) (by decide) (by decide) (by decide) (by decide) (by decide)
  · exact colon 63 (by decide)
  · exact one 63 (by decide) (by decide) (by decide) (by decide) (by decide) (by decide) (by decide)
  · exact colon 43 (by decide)
  · exact one 43 (by decide) (by decide) (by decide) (by decide) (by decide) (by decide) (by decide)
  · exact cut1 37 (.inl rfl) (by decide) (by decide)
  · exact cut2 37 (.inl rfl) (by decide) (by decide)
  · exact cut1 35 (.inr rfl) (by decide) (by decide)
  · exact cut2 35 (.inr rfl) (by decide) (by decide)
/-- A level closes. -/
theorem At.close {m : MS} {ls : List LV} {V U : LV} (h : At m (ls ++ [V]) U) {c : UInt8} (hc : (U.place = 1 ∧ c = 34) ∨ (U.place = 2 ∧ c = 125)) : ∃ m', Goes m [c] m' ∧ At m' ls { V.flush with parts := V.flush.parts ++ [MS.closed U.flush] } := by
  have hok : Okc U c := by rcases hc with ⟨_, rfl⟩ | ⟨_, rfl⟩ <;> exact okc_easy (by decide) (by decide) (by decide)
  have ht : m.norm.text c = (m.norm.pop, 0) := by
    unfold MS.text
    simp only
    rw [if_neg (by rcases hc with ⟨_, rfl⟩ | ⟨_, rfl⟩ <;> decide), if_neg (by rw [h.top]; rintro ⟨e, _⟩; rcases hc with ⟨e2, _⟩ | ⟨e2, _⟩ <;> omega), if_pos (by rw [h.top]; exact hc)]
  obtain ⟨m', g, rfl⟩ := h.into hok ht
  refine ⟨_, g, At.of_in (b := m.norm.buf) ⟨rfl, ?_, ?_, rfl⟩⟩
  · show m.norm.lower.dropLast = ls
    rw [h.lower, List.dropLast_concat]
  · show ({ (m.norm.lower.getLastD {}).flush with parts := (m.norm.lower.getLastD {}).flush.parts ++ [MS.closed m.norm.top.flush] } : LV) = _
    rw [h.lower, h.top, List.getLastD_concat]
end Go.Proofs.Ytpadnckmheippaa

namespace Go.Proofs.Ytpadnckmheippaa
open Go
set_option linter.unusedVariables false
set_option linter.unusedSimpArgs false
theorem At.lits {m : MS} {ls : List LV} {V : LV} (h : At m ls V) {c : UInt8} (hc : Okc V c) (h0 : c ≠ 0) (h96 : c ≠ 96) (h36 : c ≠ 36) (h34 : c ≠ 34) (h92 : c ≠ 92) (hb : V.place = 0 → classOf c ≠ 1 ∧ classOf c ≠ 2 ∧ classOf c ≠ 5) (h125 : V.place = 2 → c ≠ 125) (h39 : V.place ≠ 1 → c ≠ 39) :
    ∃ m', Goes m [c] m' ∧ At m' ls { V with lit := V.lit ++ [c] } := by
  have ht : m.norm.text c = (m.norm.lits [c], 0) := by
    unfold MS.text
    simp only
    rw [if_neg (by rintro (e | e); exact h0 e; exact h96 e), if_neg (by rw [h.top]; rintro ⟨e, e2⟩; have := hb e; omega), if_neg (by rw [h.top]; rintro (⟨_, e⟩ | ⟨e, e2⟩); exact h34 e; exact h125 e e2), if_neg h92, if_neg (by rw [h.top]; rintro ⟨e, e2⟩; exact h39 e2 e), if_neg h34, if_neg h36]
  obtain ⟨m', g, rfl⟩ := h.into hc ht
  refine ⟨_, g, At.of_in (b := m.norm.buf) ⟨(h.next hc).2, h.lower, ?_, rfl⟩⟩
  show ({ m.norm.top with lit := m.norm.top.lit ++ [c] } : LV) = _
  rw [h.top]
theorem class_of0 {c : UInt8} (h : classOf c ≠ 0) : c ≠ 0 := by rintro rfl; exact h rfl
theorem class_of6 {c : UInt8} (h : classOf c ≠ 6) : c ≠ 39 ∧ c ≠ 34 ∧ c ≠ 92 ∧ c ≠ 96 := by
  refine ⟨?_, ?_, ?_, ?_⟩ <;> rintro rfl <;> revert h <;> decide
theorem class_36 : classOf 36 = 7 := by decide
/-- A literal is read. -/
theorem lit_read (n : Nat) : ∀ (r : List UInt8), r.length ≤ n → ∀ {m : MS} {ls : List LV} {V : LV}, At m ls V → litGo V.place r = true → V.place ≤ 2 → (∀ c, r.head? = some c → Okc V c) → ∃ m', Goes m r m' ∧ At m' ls { V with lit := V.lit ++ r } := by
  induction n with
  | zero =>
    intro r hr m ls V h _ _ _
    have : r = [] := List.eq_nil_of_length_eq_zero (by omega)
    subst this
    exact ⟨m, Goes.nil m, by rw [List.append_nil]; exact h⟩
  | succ n ih =>
    intro r hr m ls V h hg hpl hok
    cases r with
    | nil => exact ⟨m, Goes.nil m, by rw [List.append_nil]; exact h⟩
    | cons c r =>
      have hokc := hok c rfl
      simp only [litGo, Bool.and_eq_true] at hg
      obtain ⟨h1, hg2⟩ := hg
      have h1' := h1
      unfold litOne at h1
      simp only [Bool.and_eq_true, Bool.or_eq_true, bne_iff_ne, ne_eq, beq_iff_eq] at h1
      obtain ⟨⟨⟨⟨a1, a2⟩, a3⟩, a4⟩, a5⟩ := h1
      have c0 := class_of0 a1
      by_cases h36 : c = 36
      · subst h36
        have hl : V.lit.getLast? ≠ some 36 := fun e => by have := hokc.1 e; revert this; decide
        obtain ⟨m1, g1, k1⟩ := h.dollar hl
        have hn : m1.norm = (m1.lits [36]).turn 0 := by unfold MS.norm; rw [if_pos k1.kind]
        have hat : At m1 ls { V with lit := V.lit ++ [36] } := by
          refine ⟨?_, ?_, .inr (.inl ⟨k1.kind, by simp⟩)⟩
          · rw [hn]; exact k1.lower
          · rw [hn]
            show ({ m1.top with lit := m1.top.lit ++ [36] } : LV) = _
            rw [k1.top]
        obtain ⟨m2, g2, h2⟩ := ih r (by simpa using hr) hat hg2 hpl (fun d hd => by
          refine ⟨fun _ => ?_, fun _ _ e => by simp at e⟩
          cases r with
          | nil => cases hd
          | cons x y =>
            simp only [List.head?_cons, Option.some.injEq] at hd
            subst hd
            rcases a2 with a2 | a2
            · exact absurd rfl a2
            · exact a2)
        exact ⟨m2, g1.trans g2, by simpa using h2⟩
      by_cases h92 : c = 92
      · subst h92
        have hp1 : V.place = 1 := by
          have b3 : ¬ V.place = 0 := fun e => by
            rcases a3 with a3 | a3
            · exact a3 e
            · revert a3; decide
          have b4 : ¬ V.place = 2 := fun e => by
            rcases a4 with a4 | a4
            · exact a4 e
            · exact a4.2 (by decide)
          omega
        cases r with
        | nil =>
          exfalso
          rcases a5 with a5 | a5
          · exact a5 hp1
          · rcases a5.2 with e | e
            · exact e rfl
            · cases e
        | cons d r =>
          have hd : quotes d = false ∧ d ≠ 10 := by
            rcases a5 with a5 | a5
            · exact absurd hp1 a5
            · rcases a5.2 with e | e
              · exact absurd rfl e
              · simpa using e
          simp only [litGo, Bool.and_eq_true] at hg2
          have hd0 : d ≠ 0 := by
            have := hg2.1
            unfold litOne at this
            simp only [Bool.and_eq_true, bne_iff_ne, ne_eq] at this
            exact class_of0 this.1.1.1.1
          obtain ⟨m1, g1, k1⟩ := h.esc
          obtain ⟨m2, g2, h2⟩ := k1.escLit hd0 hd.2 hp1 hd.1
          have hd36 : d ≠ 36 := by rintro rfl; have := hd.1; revert this; decide
          obtain ⟨m3, g3, h3⟩ := ih r (by simp only [List.length_cons] at hr; omega) h2 hg2.2 hpl (fun e he => by
            refine ⟨fun e2 => ?_, fun _ _ e => by simp at e⟩
            rw [show V.lit ++ [92, d] = V.lit ++ [92] ++ [d] by simp, List.getLast?_concat] at e2
            exact absurd (Option.some.inj e2) hd36)
          refine ⟨m3, ?_, by simpa using h3⟩
          have := (g1.trans g2).trans g3
          simpa using this
      · have b6 : V.place ≠ 1 → classOf c ≠ 6 := fun hp => by
          intro e
          by_cases h0 : V.place = 0
          · rcases a3 with a3 | a3
            · exact a3 h0
            · omega
          · have h2 : V.place = 2 := by omega
            rcases a4 with a4 | a4
            · exact a4 h2
            · exact a4.2 e
        have e34 : c ≠ 34 := by
          by_cases hp : V.place = 1
          · rcases a5 with a5 | a5
            · exact absurd hp a5
            · exact a5.1.1
          · exact (class_of6 (b6 hp)).2.1
        have e96 : c ≠ 96 := by
          by_cases hp : V.place = 1
          · rcases a5 with a5 | a5
            · exact absurd hp a5
            · exact a5.1.2
          · exact (class_of6 (b6 hp)).2.2.2
        obtain ⟨m1, g1, k1⟩ := h.lits hokc c0 e96 h36 e34 h92 (fun e => by
          rcases a3 with a3 | a3
          · exact absurd e a3
          · omega) (fun e => by
          rcases a4 with a4 | a4
          · exact absurd e a4
          · exact a4.1) (fun e => (class_of6 (b6 e)).1)
        obtain ⟨m2, g2, h2⟩ := ih r (by simpa using hr) k1 hg2 hpl (fun d hd => by
          refine ⟨fun e2 => ?_, fun _ _ e => by simp at e⟩
          rw [List.getLast?_concat] at e2
          exact absurd (Option.some.inj e2) h36)
        exact ⟨m2, g1.trans g2, by simpa using h2⟩
/-- The level behind a part. -/
def LV.past (V : LV) (p : PT) : LV := if p.k = 1 then { V with lit := p.text } else { V.flush with parts := V.flush.parts ++ [p.bare] }
theorem past_place (V : LV) (p : PT) : (V.past p).place = V.place ∧ (V.past p).name = V.name ∧ (V.past p).op = V.op := by
  have h1 : V.flush.place = V.place ∧ V.flush.name = V.name ∧ V.flush.op = V.op := by unfold LV.flush; split <;> exact ⟨rfl, rfl, rfl⟩
  unfold LV.past
  split
  · exact ⟨rfl, rfl, rfl⟩
  · exact h1
theorem flush_some {V : LV} (h : V.lit ≠ []) : V.flush.parts = V.parts ++ [.leaf 1 V.lit] := by unfold LV.flush; rw [if_neg h]
theorem flush_nil {V : LV} (h : V.lit = []) : V.flush = V := by unfold LV.flush; rw [if_pos h]
theorem one_1 {t o : List UInt8} {kids : List PT} {c : Value} {pl : Nat} (h : oneB (.mk 1 t o kids c) pl = true) : litB pl t = true ∧ o = [] ∧ kids = [] := by
  unfold oneB at h
  simp at h
  exact ⟨h.2, h.1.1.1, h.1.1.2⟩
/-- The same of the first part alone. -/
structure First (V : LV) (p : PT) : Prop where
  lit : p.k = 1 → V.lit = []
  d36 : V.lit.getLast? = some 36 → p.k ≠ 5 ∧ p.k ≠ 7
  front : p.k = 1 → V.place = 2 → V.parts = [] → ∀ c, V.op = [c] → c = 37 ∨ c = 35 → p.text.headD 0 ≠ c
theorem one_5 {t o : List UInt8} {kids : List PT} {c : Value} {pl : Nat} (h : oneB (.mk 5 t o kids c) pl = true) : paramText t = true ∧ (if o = [] ∨ o = [108, 101, 110] then kids.isEmpty else opB o && t != [35] && allB kids 2 && frontB o kids) = true := by
  unfold oneB at h
  simp only [Bool.and_eq_true] at h
  have h2 := h.2
  simp only [show ¬ (5 : Int) = 1 by decide, show ¬ (5 : Int) = 2 by decide, show ¬ (5 : Int) = 3 by decide, show ¬ (5 : Int) = 4 by decide, if_false, if_true, Bool.and_eq_true] at h2
  exact h2
theorem one_4 {t o : List UInt8} {kids : List PT} {c : Value} {pl : Nat} (h : oneB (.mk 4 t o kids c) pl = true) : pl ≠ 1 ∧ t = [] ∧ o = [] ∧ allB kids 1 = true := by
  unfold oneB at h
  simp at h
  obtain ⟨⟨h1, h2⟩, ⟨h3, h4⟩, h5⟩ := h
  exact ⟨h3, h4, h1, h5⟩
theorem one_2 {t o : List UInt8} {kids : List PT} {c : Value} {pl : Nat} (h : oneB (.mk 2 t o kids c) pl = true) : o = [] ∧ kids = [] ∧ ∃ x, t = [x] ∧ x ≠ 0 ∧ x ≠ 10 ∧ (pl ≠ 1 ∨ quotes x = true) := by
  unfold oneB at h
  simp at h
  obtain ⟨⟨⟨h1, h2⟩, _⟩, ⟨⟨h3, h4⟩, h5⟩, h6⟩ := h
  refine ⟨h1, h2, ?_⟩
  match t, h3 with
  | [x], _ => exact ⟨x, rfl, by simpa using h4, by simpa using h5, by simpa using h6⟩
theorem one_3 {t o : List UInt8} {kids : List PT} {c : Value} {pl : Nat} (h : oneB (.mk 3 t o kids c) pl = true) : o = [] ∧ kids = [] ∧ pl ≠ 1 ∧ clearB t 39 = true := by
  unfold oneB at h
  simp at h
  exact ⟨h.1.1.1, h.1.1.2, h.2.1, h.2.2⟩
theorem one_7 {t o : List UInt8} {kids : List PT} {c : Value} {pl : Nat} (h : oneB (.mk 7 t o kids c) pl = true) : o = [] ∧ kids = [] ∧ arithRun 0 t = some 0 := by
  unfold oneB at h
  simp at h
  exact ⟨h.1.1.1, h.1.1.2, by simpa [arithB] using h.2⟩
theorem closed_2 {U : LV} {ps : List PT} (hp : U.place = 2) (hf : U.flush.parts = ps) : MS.closed U.flush = .mk 5 U.name U.op ps noCmds := by
  have h1 : U.flush.place = U.place ∧ U.flush.name = U.name ∧ U.flush.op = U.op := by unfold LV.flush; split <;> exact ⟨rfl, rfl, rfl⟩
  unfold MS.closed
  rw [if_pos (by rw [h1.1, hp]), h1.2.1, h1.2.2, hf]
theorem closed_1 {U : LV} {ps : List PT} (hp : U.place = 1) (hf : U.flush.parts = ps) : MS.closed U.flush = .mk 4 [] [] ps noCmds := by
  have h1 : U.flush.place = U.place := flush_place U
  unfold MS.closed
  rw [if_neg (by rw [h1, hp]; decide), hf]
mutual
theorem one_back : (p : PT) → ∀ (m : MS) (ls : List LV) (V : LV), At m ls V → V.place ≤ 2 → oneB p V.place = true → p.cmdsOf = [] → First V p → ∃ m', Goes m (showP p) m' ∧ At m' ls (V.past p)
  | .mk k t o kids c => by
    intro m ls V h hpl h1 hcm hf
    by_cases k1 : k = 1
    · subst k1
      obtain ⟨hl, rfl, rfl⟩ := one_1 h1
      have hV : V.lit = [] := hf.lit rfl
      have hg : litGo V.place t = true := by
        unfold litB at hl
        simp only [Bool.and_eq_true] at hl
        exact hl.2
      obtain ⟨m', g, h'⟩ := lit_read t.length t (Nat.le_refl _) h hg hpl (fun d hd => by
        refine ⟨(fun e => by rw [hV] at e; cases e), fun a1 a2 a3 a4 => ?_⟩
        have hh : t.headD 0 = d := by
          cases t with
          | nil => cases hd
          | cons x y => simpa using hd
        have hne := fun hc => hf.front rfl a1 a2 d a4 hc hh
        exact ⟨fun e => hne (.inl e), fun e => hne (.inr e)⟩)
      refine ⟨m', by simpa [showP] using g, ?_⟩
      rw [hV, List.nil_append] at h'
      exact h'
    have hpast : ∀ q : PT, q.k ≠ 1 → V.past q = { V.flush with parts := V.flush.parts ++ [q.bare] } := fun q hq => by unfold LV.past; rw [if_neg hq]
    by_cases k2 : k = 2
    · subst k2
      obtain ⟨rfl, rfl, x, rfl, x0, x10, hq⟩ := one_2 h1
      obtain ⟨m1, g1, h2⟩ := h.esc
      obtain ⟨m2, g2, h3⟩ := h2.escaped x0 x10 hq
      refine ⟨m2, by simpa [showP] using g1.trans g2, ?_⟩
      rw [hpast (.mk 2 _ _ _ _) (show (2 : Int) ≠ 1 by decide)]
      exact h3
    by_cases k3 : k = 3
    · subst k3
      obtain ⟨rfl, rfl, hp, hc⟩ := one_3 h1
      obtain ⟨m1, g1, h2⟩ := h.single hp
      obtain ⟨m2, g2, h3⟩ := In.singles t h2 hc
      obtain ⟨m3, g3, h4⟩ := h3.singleEnd
      refine ⟨m3, by simpa [showP] using (g1.trans g2).trans g3, ?_⟩
      rw [hpast (.mk 3 _ _ _ _) (show (3 : Int) ≠ 1 by decide)]
      exact h4
    by_cases k7 : k = 7
    · subst k7
      obtain ⟨rfl, rfl, ha⟩ := one_7 h1
      obtain ⟨m1, g1, h2⟩ := h.dollar (fun e => (hf.d36 e).2 rfl)
      obtain ⟨m2, g2, h3, hd⟩ := h2.arithOpen
      obtain ⟨m3, g3, h4, hd2⟩ := In.ariths t h3 (by rw [hd]; exact ha)
      obtain ⟨m4, g4, h5⟩ := h4.arithClose hd2
      refine ⟨m4, by simpa [showP] using ((g1.trans g2).trans g3).trans g4, ?_⟩
      rw [hpast (.mk 7 _ _ _ _) (show (7 : Int) ≠ 1 by decide)]
      exact h5
    by_cases k6 : k = 6
    · subst k6
      simp [PT.cmdsOf] at hcm
    have hkc : cmdsOfL kids = [] := by
      rw [PT.cmdsOf, if_neg k6, List.nil_append] at hcm
      exact hcm
    by_cases k4 : k = 4
    · subst k4
      obtain ⟨hp, rfl, rfl, hall⟩ := one_4 h1
      obtain ⟨m1, g1, h2⟩ := h.quote hp
      obtain ⟨m2, U, g2, h3, hU, hUp, _, _⟩ := all_back kids _ _ _ h2 (by show 1 ≤ 2; decide) hall hkc (fun q r hq => ⟨fun _ => rfl, (fun e => by cases e), (fun _ e => by cases e)⟩)
      obtain ⟨m3, g3, h4⟩ := h3.close (c := 34) (.inl ⟨hUp, rfl⟩)
      refine ⟨m3, by simpa [showP] using (g1.trans g2).trans g3, ?_⟩
      rw [hpast (.mk 4 _ _ _ _) (show (4 : Int) ≠ 1 by decide)]
      rw [closed_1 hUp hU] at h4
      exact h4
    by_cases k5 : k = 5
    · subst k5
      obtain ⟨hpt, hrest⟩ := one_5 h1
      obtain ⟨m1, g1, h2⟩ := h.dollar (fun e => (hf.d36 e).1 rfl)
      obtain ⟨m2, g2, h3⟩ := h2.brace
      rw [hpast (.mk 5 _ _ _ _) (show (5 : Int) ≠ 1 by decide)]
      by_cases hsh : o = [] ∨ o = [108, 101, 110]
      · rw [if_pos hsh] at hrest
        have hk0 : kids = [] := by simpa using hrest
        subst hk0
        rcases hsh with rfl | rfl
        · by_cases h35 : t = [35]
          · subst h35
            obtain ⟨m3, g3, h4, _⟩ := h3.hash
            obtain ⟨m4, g4, h5⟩ := h4.hashEnd
            refine ⟨m4, ?_, h5⟩
            have g := ((g1.trans g2).trans g3).trans g4
            simpa [showP, showL] using g
          · obtain ⟨m3, g3, h4⟩ := h3.headName hpt (fun e => by
              cases t with
              | nil => cases e
              | cons x y =>
                simp only [List.head?_cons, Option.some.injEq] at e
                subst e
                revert hpt
                unfold paramText nameB digitsB
                simp only [List.all_cons, List.headD_cons]
                rw [show classOf 35 = 8 by decide, show special 35 = true by decide]
                intro hpt
                simp at hpt
                exact h35 (by rw [hpt]))
            obtain ⟨m4, g4, h5⟩ := h4.close
            refine ⟨m4, ?_, h5⟩
            have g := ((g1.trans g2).trans g3).trans g4
            simpa [showP, showL] using g
        · obtain ⟨m3, g3, h4, hlen⟩ := h3.hash
          obtain ⟨m4, g4, h5⟩ := h4.hashName hlen hpt
          obtain ⟨m5, g5, h6⟩ := h5.close
          refine ⟨m5, ?_, h6⟩
          have g := (((g1.trans g2).trans g3).trans g4).trans g5
          simpa [showP, showL] using g
      · rw [if_neg hsh] at hrest
        simp only [Bool.and_eq_true, bne_iff_ne, ne_eq] at hrest
        obtain ⟨⟨⟨hop, h35⟩, hall⟩, hfr⟩ := hrest
        obtain ⟨m3, g3, h4⟩ := h3.headName hpt (fun e => by
          cases t with
          | nil => cases e
          | cons x y =>
            simp only [List.head?_cons, Option.some.injEq] at e
            subst e
            revert hpt
            unfold paramText nameB digitsB
            simp only [List.all_cons, List.headD_cons]
            rw [show classOf 35 = 8 by decide, show special 35 = true by decide]
            intro hpt
            simp at hpt
            exact h35 (by rw [hpt]))
        obtain ⟨m4, g4, h5⟩ := h4.oper hop
        obtain ⟨m5, U, g5, h6, hU, hUp, hUn, hUo⟩ := all_back kids _ _ _ h5 (by show 2 ≤ 2; decide) hall hkc (fun q r hq => ⟨fun _ => rfl, (fun e => by cases e), fun hq1 _ _ d hd hc hh => by
          have hd2 : o = [d] := hd
          subst hq hd2
          unfold frontB at hfr
          have e1 : ((([d] : List UInt8) == [37]) || (([d] : List UInt8) == [35])) = true := by rcases hc with rfl | rfl <;> rfl
          rw [e1] at hfr
          simp only [Bool.not_true, Bool.false_or, Bool.or_eq_true, bne_iff_ne, ne_eq, List.headD_cons] at hfr
          rcases hfr with hfr | hfr
          · exact hfr hq1
          · exact hfr hh⟩)
        obtain ⟨m6, g6, h7⟩ := h6.close (c := 125) (.inr ⟨hUp, rfl⟩)
        refine ⟨m6, ?_, ?_⟩
        · have hlen : ¬ o = [108, 101, 110] := fun e => hsh (.inr e)
          have g := ((((g1.trans g2).trans g3).trans g4).trans g5).trans g6
          simpa [showP, hlen] using g
        · rw [closed_2 hUp hU, hUn, hUo] at h7
          exact h7
    · exfalso
      unfold oneB at h1
      simp [k1, k2, k3, k4, k5, k6, k7] at h1
theorem all_back : (l : List PT) → ∀ (m : MS) (ls : List LV) (V : LV), At m ls V → V.place ≤ 2 → allB l V.place = true → cmdsOfL l = [] → (∀ p r, l = p :: r → First V p) → ∃ m' V', Goes m (showL l) m' ∧ At m' ls V' ∧ V'.flush.parts = V.flush.parts ++ bareL l ∧ V'.place = V.place ∧ V'.name = V.name ∧ V'.op = V.op
  | [] => by
    intro m ls V h _ _ _ _
    exact ⟨m, V, Goes.nil m, h, by simp [bareL], rfl, rfl, rfl⟩
  | p :: r => by
    intro m ls V h hpl ha hc hf
    have hF := hf p r rfl
    simp only [allB, Bool.and_eq_true] at ha
    obtain ⟨⟨ha1, ha2⟩, ha3⟩ := ha
    simp only [cmdsOfL, List.append_eq_nil_iff] at hc
    obtain ⟨m1, g1, h1⟩ := one_back p _ _ _ h hpl ha1 hc.1 hF
    have hpp := past_place V p
    have hfl : (V.past p).flush.parts = V.flush.parts ++ [p.bare] := by
      unfold LV.past
      by_cases hk : p.k = 1
      · rw [if_pos hk, flush_nil (hF.lit hk)]
        cases p with
        | mk k t o kids c =>
          simp only [PT.k] at hk
          subst hk
          obtain ⟨hl, rfl, rfl⟩ := one_1 ha1
          have ht : t ≠ [] := by rintro rfl; simp [litB] at hl
          exact flush_some (V := { V with lit := t }) ht
      · rw [if_neg hk]
        exact congrArg LV.parts (flush_nil (V := { V.flush with parts := V.flush.parts ++ [p.bare] }) (flush_lit V))
    obtain ⟨m2, V2, g2, h2, b1, b2, b3, b4⟩ := all_back r _ _ _ h1 (by rw [hpp.1]; exact hpl) (by rw [hpp.1]; exact ha2) hc.2 (fun q s hq => by
      subst hq
      have hj : jointB p q = true := ha3
      unfold jointB at hj
      simp only [Bool.or_eq_true, Bool.and_eq_true, bne_iff_ne, ne_eq, Bool.not_eq_true'] at hj
      by_cases hk : p.k = 1
      · have hlit : V.past p = { V with lit := p.text } := by unfold LV.past; rw [if_pos hk]
        rcases hj with hj | ⟨hj1, hj2⟩
        · exact absurd hk hj
        · refine ⟨fun e => absurd e hj1, fun e => ?_, fun e => absurd e hj1⟩
          rw [hlit] at e
          have e2 : p.text.getLastD 0 = 36 := by
            rw [List.getLastD_eq_getLast?]
            have e3 : p.text.getLast? = some 36 := e
            rw [e3]; rfl
          rw [e2] at hj2
          simp at hj2
          exact ⟨hj2.1.1, hj2.2⟩
      · have hlit : V.past p = { V.flush with parts := V.flush.parts ++ [p.bare] } := by unfold LV.past; rw [if_neg hk]
        refine ⟨fun _ => by rw [hlit]; exact flush_lit V, fun e => ?_, fun _ _ e => ?_⟩
        · rw [hlit] at e
          have : V.flush.lit.getLast? = some 36 := e
          rw [flush_lit] at this
          cases this
        · rw [hlit] at e
          have : V.flush.parts ++ [p.bare] = [] := e
          simp at this)
    exact ⟨m2, V2, by simpa [showL] using g1.trans g2, h2, by rw [b1, hfl]; simp [bareL], by rw [b2, hpp.1], by rw [b3, hpp.2.1], by rw [b4, hpp.2.2]⟩
end
/-- A right word without commands, as text with a blank behind it, is that word. -/
theorem fed_back {ps : List PT} (h : rightB ps = true) (hc : cmdsOfL ps = []) : ∃ m : MS, ({} : MS).fed (showL ps ++ [32]) = (m, (showL ps).length, 1) ∧ m.kind = 16 ∧ m.lower = [] ∧ m.top.parts = bareL ps := by
  have hat : At ({} : MS) [] ({} : MS).top := At.of_in (b := []) ⟨rfl, rfl, rfl, rfl⟩
  unfold rightB at h
  simp only [Bool.and_eq_true] at h
  obtain ⟨m1, V, ⟨g1, g2⟩, h1, b1, b2, _, _⟩ := all_back ps _ _ _ hat (by decide) h.1.2 hc (fun p r hp => ⟨fun _ => rfl, (fun e => by cases e), (fun _ e => by cases e)⟩)
  have hp : V.place = 0 := b2
  obtain ⟨hn, _⟩ := h1.next (c := 32) (okc_easy (by decide) (by decide) (by decide))
  have ht : m1.next 32 = (({ m1.norm with top := m1.norm.top.flush } : MS).turn 16, 1) := by
    rw [hn]
    exact text_end m1.norm (by rw [h1.top]; exact hp)
  have hf : m1.feed 32 = (({ m1.norm with top := m1.norm.top.flush } : MS).turn 16, 1) := by
    unfold MS.feed
    simp only [ht]
    rfl
  refine ⟨({ m1.norm with top := m1.norm.top.flush } : MS).turn 16, ?_, rfl, h1.lower, ?_⟩
  · rw [fed_goes _ _ _ g1, g2, fed_stop _ _ _ (by rw [hf]; show 1 ≠ 0; decide), hf]
    rfl
  · show m1.norm.top.flush.parts = _
    rw [h1.top, b1]
    rfl
end Go.Proofs.Ytpadnckmheippaa

namespace Go.Proofs.Ytpadnckmheippaa
open Go
set_option linter.unusedVariables false
theorem muchGo_small (l : List PT) (n : Nat) (h : muchGo n l ≤ 300) : muchGo n l = n + sumMuch l := by
  induction l generalizing n with
  | nil => simp [muchGo, sumMuch]
  | cons p r ih =>
    simp only [muchGo] at h ⊢
    split
    · rename_i hn
      rw [if_pos hn] at h
      rw [ih _ h]
      simp only [sumMuch, List.map_cons, List.sum_cons]; omega
    · rename_i hn
      rw [if_neg hn] at h
      omega
theorem div10 (n : Nat) : n ≤ 10 * (n / 10) + 9 := by omega
mutual
theorem small_one : (p : PT) → p.much ≤ 300 → (showP p).length ≤ 24 * (p.much + 1) ∧ p.cmdsOf.length ≤ p.much + 1
  | .mk k t o kids c => by
    intro h
    simp only [PT.much] at h ⊢
    have e := muchGo_small kids kids.length (by omega)
    have h1 := small_sum kids (by omega)
    have h2 := div10 t.length
    have h3 := div10 o.length
    constructor
    · simp only [showP]
      repeat' split
      all_goals (try simp only [List.length_append, List.length_cons, List.length_nil])
      all_goals omega
    · simp only [PT.cmdsOf, List.length_append]
      split <;> simp only [List.length_cons, List.length_nil] <;> omega
theorem small_sum : (l : List PT) → sumMuch l ≤ 300 → (showL l).length ≤ 24 * (l.length + sumMuch l) ∧ (cmdsOfL l).length ≤ l.length + sumMuch l
  | [] => by intro _; simp [showL, cmdsOfL]
  | p :: r => by
    intro h
    simp only [sumMuch, List.map_cons, List.sum_cons] at h
    have h1 := small_one p (by omega)
    have h2 := small_sum r (by unfold sumMuch; omega)
    simp only [showL, cmdsOfL, sumMuch, List.map_cons, List.sum_cons, List.length_append, List.length_cons] at *
    constructor <;> omega
end
theorem small_all (l : List PT) (h : muchL l ≤ 300) : (showL l).length ≤ 24 * muchL l ∧ (cmdsOfL l).length ≤ muchL l := by
  have h1 := muchGo_small l l.length h
  have h2 := small_sum l (by unfold muchL at h; omega)
  unfold muchL at h ⊢
  rw [h1]
  exact h2
end Go.Proofs.Ytpadnckmheippaa

namespace Go.Proofs.Ytpadnckmheippaa
open Go.ChangeShapes Go.WideShapes Go.ChangeAt Go.RowKit Go.Deep
set_option linter.unusedVariables false
theorem Try.cellsPart : Try.prog.cellsOf 48 = 5 := by kernel_rfl
theorem Try.cellsInt : Try.prog.cellsOf 3 = 1 := by kernel_rfl
theorem Try.cellsStr : Try.prog.cellsOf 9 = 1 := by kernel_rfl
theorem Try.cellsParts : Try.prog.cellsOf 22 = 1 := by kernel_rfl
theorem Try.cellsNodes : Try.prog.cellsOf 41 = 1 := by kernel_rfl
theorem cell_spot {w : World} {p : Addr} {v : Value} (h : w.cell? p = some v) : p.spot = none := by
  unfold World.cell? at h
  split at h
  · split at h
    · cases h
    · rename_i hs; cases hh : p.spot with
      | none => rfl
      | some x => rw [hh] at hs; exact absurd rfl hs
  · cases h
theorem add_zero' (a : Addr) : a.add 0 = a := by unfold Addr.add; rw [if_pos rfl]
theorem add_none {a : Addr} (h : a.spot = none) (i : Nat) : a.add i = ⟨a.block, a.off + i, none⟩ := by
  obtain ⟨b, o, s⟩ := a
  dsimp only at h
  subst h
  unfold Addr.add
  split
  · rename_i h0; simp_all
  · rfl
section
variable {H : Type}
theorem bulk_one (d : DataW H) : 1 ≤ Rows.uptoBulk d := by
  cases d with
  | lit l => cases l <;> simp [Rows.uptoBulk]
  | nil => simp [Rows.uptoBulk]
  | ptr d => simp [Rows.uptoBulk]
  | slice elems spare => simp [Rows.uptoBulk]
  | agg parts => simp [Rows.uptoBulk]
  | iface t d => simp [Rows.uptoBulk]
  | map entries => simp [Rows.uptoBulk]
  | held h => simp [Rows.uptoBulk]
theorem bulk_len (l : List (DataW H)) : l.length ≤ Rows.uptoBulkAll l := by
  induction l with
  | nil => simp [Rows.uptoBulkAll]
  | cons x r ih => have := bulk_one x; simp only [Rows.uptoBulkAll, List.length_cons]; omega
theorem bulk_range (f : Nat → PT × Value) (D : Nat → DataW H) (L : List Nat) (h : ∀ i ∈ L, (f i).1.bulk ≤ Rows.uptoBulk (D i)) : bulkL ((L.map f).map (·.1)) ≤ Rows.uptoBulkAll (L.map D) := by
  induction L with
  | nil => simp [bulkL, Rows.uptoBulkAll]
  | cons i L ih =>
    have h1 := h i (by simp)
    have h2 := ih (fun j hj => h j (List.mem_cons_of_mem _ hj))
    simp only [List.map_cons, bulkL, Rows.uptoBulkAll]
    omega
theorem bulk_at (D : Nat → DataW H) (n i : Nat) (h : i < n) : Rows.uptoBulk (D i) ≤ Rows.uptoBulkAll ((List.range n).map D) := by
  have : ∀ L : List Nat, i ∈ L → Rows.uptoBulk (D i) ≤ Rows.uptoBulkAll (L.map D) := by
    intro L
    induction L with
    | nil => intro h; cases h
    | cons j L ih =>
      intro hm
      simp only [List.map_cons, Rows.uptoBulkAll]
      rcases List.mem_cons.1 hm with rfl | hm
      · omega
      · have := ih hm; omega
  exact this _ (List.mem_range.2 h)
/-- What is to be known of one part of a slice. -/
def PartAt (w : World) (b off : Nat) (n : Nat) (i : Nat) (x : PT × Value) : Prop :=
  b < w.heap.size ∧ (∀ j, j < 5 → w.cell? ⟨b, off + i * 5 + j, none⟩ = (partCells x)[j]?) ∧ Fit x.1 ∧ Lies w x.2 x.1.kids ∧ x.1.bulk ≤ n
set_option maxRecDepth 100000 in
theorem read_parts {enc : TypeId × Value → H} {w : World} (N : Nat) : ∀ (fuel : Nat) (cs : List Value) (x : DataW H × List MemPlace), Rows.uptoBulk x.1 ≤ N → N ≤ 1048576 →
    DataW.trod enc Try.prog w 0 (fun _ => true) true fuel 22 cs = some x → ∃ s ps, cs = [s] ∧ Lies w s ps ∧ bulkL ps ≤ Rows.uptoBulk x.1 := by
  induction N with
  | zero => intro fuel cs x h _ _; have := bulk_one x.1; omega
  | succ N ih =>
    intro fuel cs x hx hN h
    rcases open_slice Try.underlying22 h with ⟨rfl, rfl⟩ | ⟨a, len, cap, m, n, D, Pl, rfl, hb, hl, hm, hmm, rfl, hi⟩
    · exact ⟨_, [], rfl, .empty _ _, by simp [bulkL]⟩
    · have hmm2 : m = cap := by rw [hmm]; simp
      simp only [Rows.uptoBulk] at hx ⊢
      by_cases hlen : len = 0
      · subst hlen
        exact ⟨_, [], rfl, .empty _ _, by simp [bulkL]⟩
      have hsp : a.spot = none := by
        obtain ⟨cs0, hc0, _⟩ := hi 0 (by omega)
        rw [Try.cellsPart, Nat.zero_mul] at hc0
        obtain ⟨_, hl0, hcell0⟩ := World.cells?_some hc0
        have h0 := hcell0 0 (by omega)
        rw [add_zero', add_zero', List.getElem?_eq_getElem (by omega)] at h0
        exact cell_spot h0
      have hex : ∀ i, i < len → ∃ y, PartAt w a.block a.off (Rows.uptoBulk (D i)) i y := by
        intro i hil
        have hbi := bulk_at D len i hil
        obtain ⟨cs', hc, ht⟩ := hi i (by omega)
        rw [Try.cellsPart] at hc
        obtain ⟨_, hlen', hcell⟩ := World.cells?_some hc
        obtain ⟨xs, n', _, hD, _, hxl, hfl⟩ := DataW.trod_struct Try.underlying48 ht
        match cs', hlen' with
        | [v0, v1, v2, v3, v4], _ =>
          have q0 := hcell 0 (by omega)
          have q1 := hcell 1 (by omega)
          have q2 := hcell 2 (by omega)
          have q3 := hcell 3 (by omega)
          have q4 := hcell 4 (by omega)
          simp only [List.getElem?_cons_zero, List.getElem?_cons_succ] at q0 q1 q2 q3 q4
          have z0 := hfl 0 _ rfl
          have z1 := hfl 1 _ rfl
          have z2 := hfl 2 _ rfl
          have z3 := hfl 3 _ rfl
          have z4 := hfl 4 _ rfl
          obtain ⟨y0, y1, y2, y3, y4, rfl⟩ : ∃ y0 y1 y2 y3 y4, xs = [y0, y1, y2, y3, y4] := by
            match xs, hxl with
            | [y0, y1, y2, y3, y4], _ => exact ⟨_, _, _, _, _, rfl⟩
          simp only [List.getElem_toArray, List.getElem_cons_zero, List.getElem_cons_succ, Try.cellsInt, Try.cellsStr, Try.cellsParts, Try.cellsNodes, List.drop_zero, List.take_succ_cons, List.take_zero, List.drop_succ_cons, List.getElem?_cons_zero, List.getElem?_cons_succ] at z0 z1 z2 z3 z4
          obtain ⟨K, hK, hy0, _⟩ := DataW.trod_int Try.underlying3 z0
          obtain ⟨tx, htx, hy1, _⟩ := DataW.trod_string Try.underlying9 z1
          obtain ⟨op, hop, hy2, _⟩ := DataW.trod_string Try.underlying9 z2
          have hDi : D i = .agg [y0.1, y1.1, y2.1, y3.1, y4.1] := by have := congrArg Prod.fst hD; simpa using this
          rw [hDi] at hbi ⊢
          rw [hy0, hy1, hy2] at hbi ⊢
          simp only [Rows.uptoBulk, Rows.uptoBulkAll, Array.length_toList] at hbi ⊢
          obtain ⟨s, ps, hs, hlies, hbl⟩ := ih n' [v3] y3 (by omega) (by omega) z3
          have hcm : ∃ A cn cc, v4 = .slice A cn cc ∧ cn ≤ Rows.uptoBulk y4.1 := by
            rcases open_slice Try.underlying41 z4 with ⟨h1, h2⟩ | ⟨a2, len2, cap2, m2, n2, D2, Pl2, h1, _, _, _, _, h2, _⟩
            · simp only [List.cons.injEq, and_true] at h1
              exact ⟨_, _, _, h1, Nat.zero_le _⟩
            · simp only [List.cons.injEq, and_true] at h1
              refine ⟨_, _, _, h1, ?_⟩
              rw [h2]
              have := bulk_len ((List.range len2).map D2)
              simp only [List.length_map, List.length_range] at this
              simp only [Rows.uptoBulk]
              omega
          obtain ⟨A4, cn, cc, rfl, hcn⟩ := hcm
          simp only [List.cons.injEq, and_true] at hK htx hop hs
          subst hK htx hop hs
          have hblk := World.block_lt_of_cell? w _ q0
          have hs2 : (a.add (i * 5)).spot = none := by rw [add_none hsp]
          rw [add_none hs2, add_none hsp] at q0 q1 q2 q3 q4 hblk
          have hts : tx.data.toList.length = tx.data.size := by simp
          have hos : op.data.toList.length = op.data.size := by simp
          refine ⟨(.mk K tx.data.toList op.data.toList ps (.slice A4 cn cc), v3), hblk, fun j hj => ?_, ⟨?_, ?_, _, _, _, rfl⟩, hlies, ?_⟩
          · have : j = 0 ∨ j = 1 ∨ j = 2 ∨ j = 3 ∨ j = 4 := by omega
            rcases this with rfl | rfl | rfl | rfl | rfl
            · exact q0
            · exact q1
            · exact q2
            · exact q3
            · exact q4
          · simp only [PT.text]; omega
          · simp only [PT.op]; omega
          · simp only [PT.bulk, cmdsLen]; omega
      let f : Nat → PT × Value := fun i => if h : i < len then Classical.choose (hex i h) else (.mk 0 [] [] [] noCmds, noCmds)
      have hf : ∀ i, i < len → PartAt w a.block a.off (Rows.uptoBulk (D i)) i (f i) := fun i h => by
        have e : f i = Classical.choose (hex i h) := dif_pos h
        rw [e]
        exact Classical.choose_spec (hex i h)
      have hsum := bulk_range f D (List.range len) (fun i hi => (hf i (List.mem_range.1 hi)).2.2.2.2)
      have hll : ((List.range len).map f).length = len := by simp
      have hlies : Lies w (.slice (some ⟨a.block, a.off, none⟩) ((List.range len).map f).length cap) (((List.range len).map f).map (·.1)) := by
        refine .row a.block a.off cap ((List.range len).map f) (hf 0 (by omega)).1 (fun i j hi hj => ?_) ?_ (fun x hx => ?_) (fun x hx => ?_)
        · have hi2 : i < len := by simpa using hi
          have : ((List.range len).map f)[i] = f i := by simp
          rw [this]
          exact (hf i hi2).2.1 j hj
        · rw [hll]; unfold maxLen at hm; omega
        · obtain ⟨i, hi, rfl⟩ := List.mem_map.1 hx
          exact (hf i (List.mem_range.1 hi)).2.2.1
        · obtain ⟨i, hi, rfl⟩ := List.mem_map.1 hx
          exact (hf i (List.mem_range.1 hi)).2.2.2.1
      rw [hll] at hlies
      refine ⟨_, ((List.range len).map f).map (·.1), rfl, ?_, by omega⟩
      have ha : a = ⟨a.block, a.off, none⟩ := by rw [← hsp]
      rw [ha]
      exact hlies
end
end Go.Proofs.Ytpadnckmheippaa

namespace Go.Proofs.Ytpadnckmheippaa
open Go.ChangeShapes Go.WideShapes Go.ChangeAt Go.RowKit
set_option linter.unusedVariables false
def Ended (w : World) (e : Ending) (w' : World) : Prop := e = .returned (.bool true) ∧ Below w.heap.size w w'
theorem showw_any {w0 w : World} {s : Value} {ps : List PT} (h : Lies w0 s ps) (hb : bulkL ps ≤ 4000000) (hw : Below w0.heap.size w0 w) : Calls Try.prog 12 #[.agg #[s], .slice none 0 0] w fun e w' => e = .returned (.string (bytesV (showL ps))) ∧ Below w.heap.size w w' := by
  have H := Lib.hid (fun y (hy : Below w.heap.size w y) => show_any h hb y (hw.trans (hy.mono hw.size)))
  clear h
  go_enter Try.func12, Try.ntmps12
  go_wp2_with fail
  refine (H.out _ (below_box _ _)).mono ?_
  rintro e w' ⟨rfl, hb2⟩
  have HB := Lib.hid (below_boxed hb2)
  clear hb2
  go_wp2
  go_ret
  exact ⟨rfl, HB.out⟩
mutual
theorem bare_one : (p : PT) → p.bare.bare = p.bare
  | .mk k t o kids c => by simp only [PT.bare]; rw [bare_all kids]
theorem bare_all : (l : List PT) → bareL (bareL l) = bareL l
  | [] => rfl
  | p :: r => by simp only [bareL]; rw [bare_one p, bare_all r]
end
section
variable {w0 w : World} {s : Value} {ps : List PT}
/-- What is to be known of the word. -/
structure Word0 (w : World) (s : Value) (ps : List PT) : Prop where
  lies : Lies w s ps
  bulk : bulkL ps ≤ 2000000
theorem Word0.much (h : Word0 w s ps) (y : World) (hy : Below w.heap.size w y) : Calls Try.prog 8 #[s] y (Counts y (muchL ps)) := much_any h.lies (by have := h.bulk; omega) y hy
theorem Word0.right (h : Word0 w s ps) (y : World) (hy : Below w.heap.size w y) : Calls Try.prog 9 #[.agg #[s]] y (Says y (rightB ps)) := right_any h.lies hy
theorem box_drawn {w : World} {a : Value} {t : TypeId} (d : Nat) : ((w.alloc (.cells #[a] t)).drewN d).cell? ⟨w.heap.size, 0, none⟩ = some a := (Blk.new w t _).cell 0
theorem below_drawn (w : World) (o : Obj) (d : Nat) : Below w.heap.size w ((w.alloc o).drewN d) := below_draws (below_box w o) d
theorem back_much (h : Word0 w s ps) (hm : 300 < muchL ps) : Calls Try.prog 3 #[.agg #[s]] w (Ended w) := by
  have H := Lib.hid h.much
  clear h
  generalize muchL ps = M at *
  go_enter Try.func3, Try.ntmps3
  go_wp2_with fail
  refine (H.out _ (below_box _ _)).mono ?_
  rintro e w1 ⟨rfl, d, rfl⟩
  go_wp2_with (go_at_call 11; refine (awake_any _).mono ?_; rintro e w3 ⟨rfl, hb⟩; have HB3 := Lib.hid hb; clear hb)
  go_ret
  exact ⟨rfl, (below_drawn w _ d).trans (HB3.out.mono (below_drawn w _ d).size)⟩
theorem back_wrong (h : Word0 w s ps) (hm : muchL ps ≤ 300) (hr : rightB ps = false) : Calls Try.prog 3 #[.agg #[s]] w (Ended w) := by
  have H := Lib.hid h.much
  have h2 := h.right
  rw [hr] at h2
  have H2 := Lib.hid h2
  clear h h2 hr
  generalize muchL ps = M at *
  go_enter Try.func3, Try.ntmps3
  go_wp2_with fail
  refine (H.out _ (below_box _ _)).mono ?_
  rintro e w1 ⟨rfl, d, hd⟩
  have c1 : w1.cell? ⟨w.heap.size, 0, none⟩ = some s := by rw [hd]; exact box_drawn d
  have HB1 : Hid (Below w.heap.size w w1) := Lib.hid (by rw [hd]; exact below_drawn w _ d)
  clear hd
  go_wp2_with fail
  refine (H2.out _ HB1.out).mono ?_
  rintro e w2 ⟨rfl, hb⟩
  have HB2 := Lib.hid (HB1.out.trans (hb.mono HB1.out.size))
  clear hb
  go_wp2_with (go_at_call 11; refine (awake_any _).mono ?_; rintro e w3 ⟨rfl, hb⟩; have HB3 := Lib.hid hb; clear hb)
  go_ret
  exact ⟨rfl, HB2.out.trans (HB3.out.mono HB2.out.size)⟩
theorem Word0.cmds (h : Word0 w s ps) (hm : muchL ps ≤ 300) (y : World) (hy : Below w.heap.size w y) : Calls Try.prog 10 #[s] y (fun e w' => ∃ A c, e = .returned (.slice A (cmdsOfL ps).length c) ∧ Below y.heap.size y w') :=
  (cmdsl_any h.lies (by have := (small_all ps hm).2; omega) y hy).mono fun e w' ⟨o, he, A, c, ho, _, hb⟩ => ⟨A, c, by rw [he, ho], hb⟩
theorem back_cmds (h : Word0 w s ps) (hm : muchL ps ≤ 300) (hr : rightB ps = true) (hc : 0 < (cmdsOfL ps).length) : Calls Try.prog 3 #[.agg #[s]] w (Ended w) := by
  have H := Lib.hid h.much
  have h2 := h.right
  rw [hr] at h2
  have H2 := Lib.hid h2
  have H3 := Lib.hid (h.cmds hm)
  clear h h2 hr
  generalize muchL ps = M at *
  generalize (cmdsOfL ps).length = C at *
  go_enter Try.func3, Try.ntmps3
  go_wp2_with fail
  refine (H.out _ (below_box _ _)).mono ?_
  rintro e w1 ⟨rfl, d, hd⟩
  have c1 : w1.cell? ⟨w.heap.size, 0, none⟩ = some s := by rw [hd]; exact box_drawn d
  have HB1 : Hid (Below w.heap.size w w1) := Lib.hid (by rw [hd]; exact below_drawn w _ d)
  have hz1 : w.heap.size < w1.heap.size := by rw [hd]; simp [World.size_alloc]
  clear hd
  go_wp2_with fail
  refine (H2.out _ HB1.out).mono ?_
  rintro e w2 ⟨rfl, hb⟩
  have HB2 := Lib.hid (HB1.out.trans (hb.mono HB1.out.size))
  have c2 := (hb.cell (p := ⟨w.heap.size, 0, none⟩) hz1).trans c1
  clear hb c1
  go_wp2_with fail
  refine (H3.out _ HB2.out).mono ?_
  rintro e w3 ⟨A, c, rfl, hb⟩
  have HB3 := Lib.hid (HB2.out.trans (hb.mono HB2.out.size))
  clear hb c2
  go_wp2_with (go_at_call 11; refine (awake_any _).mono ?_; rintro e w3 ⟨rfl, hb⟩; have HB4 := Lib.hid hb; clear hb)
  go_ret
  exact ⟨rfl, HB3.out.trans (HB4.out.mono HB3.out.size)⟩
theorem back_main (h : Word0 w s ps) (hm : muchL ps ≤ 300) (hr : rightB ps = true) (hc : cmdsOfL ps = []) : Calls Try.prog 3 #[.agg #[s]] w (Ended w) := by
  obtain ⟨m, hfed, hk16, hlow, hparts⟩ := fed_back hr hc
  have hsl := (small_all ps hm).1
  have hsz : (bytesV (showL ps)).size ≤ 7200 := by rw [bytesV_size]; omega
  have hneat := fed_parts (showL ps ++ [32])
  rw [hfed] at hneat
  simp only at hneat
  rw [hparts] at hneat
  have hlen : (showL ps ++ [32]).length ≤ 7201 := by simp only [List.length_append, List.length_cons, List.length_nil]; omega
  have hF : ∀ y : World, Calls Try.prog 13 #[.string (bytesV (showL ps) ++ ⟨#[32]⟩)] y fun e w' => e = .returned (.tuple #[.pointer (some ⟨y.heap.size + 1, 0, none⟩), .int .i64 ((bytesV (showL ps)).size : Int), .int .i64 1]) ∧ Made y ⟨y.heap.size, []⟩ (y.heap.size + 1) m w' := fun y => by
    have h1 := fed_any (bytesV (showL ps) ++ ⟨#[32]⟩) (by rw [ByteArray.size_append]; show _ + 1 ≤ _; omega) y ⟨y.heap.size, []⟩ (Nat.le_refl _) (fun b hb => by cases hb)
    unfold FedEnd at h1
    rw [show (bytesV (showL ps) ++ ⟨#[32]⟩ : ByteArray).data.toList = showL ps ++ [32] by simp [bytesV]] at h1
    rw [hfed] at h1
    rw [bytesV_size]
    exact h1
  have hW : ∀ (y : World) (B : Bs) (g : Nat) (y1 : World), Made y B g m y1 → Calls Try.prog 14 #[.pointer (some ⟨g, 0, none⟩)] y1 fun e w' => ∃ A n c, e = .returned (.tuple #[.agg #[.slice A n c], .bool true]) ∧ Lies w' (.slice A n c) (bareL ps) ∧ Below y1.heap.size y1 w' := fun y B g y1 hmd => by
    refine (alive_word hmd.alive hk16 hlow).mono ?_
    rintro e w' ⟨A, c, rfl, hd, hb⟩
    rw [hparts] at hd
    refine ⟨A, _, c, rfl, ?_, hb⟩
    rw [hparts]
    exact Dead.lies (N := 10 * (showL ps ++ [32]).length) (by omega) hd hneat
  have hsame : ∀ (y : World) (u : Value), Below w.heap.size w y → Lies y u (bareL ps) → ∀ z, Below y.heap.size y z → Calls Try.prog 15 #[s, u] z (Yes z) := fun y u hy hu z hz => same_any (h.lies.later hy) u (bareL ps) hu (bare_all ps).symm z hz
  have H := Lib.hid h.much
  have h2 := h.right
  rw [hr] at h2
  have H2 := Lib.hid h2
  have h3 := h.cmds hm
  rw [hc] at h3
  have H3 := Lib.hid h3
  have H4 := Lib.hid (fun y (hy : Below w.heap.size w y) => showw_any h.lies (by have := h.bulk; omega) hy)
  have HF := Lib.hid hF
  have HW := Lib.hid hW
  have HS := Lib.hid hsame
  clear h h2 h3 hr hF hW hsame hc hfed hk16 hlow hparts hneat hlen hsl
  generalize muchL ps = M at *
  generalize bytesV (showL ps) = S at *
  generalize bareL ps = qs at *
  go_enter Try.func3, Try.ntmps3
  go_wp2_with fail
  refine (H.out _ (below_box _ _)).mono ?_
  rintro e w1 ⟨rfl, d, hd⟩
  have c1 : w1.cell? ⟨w.heap.size, 0, none⟩ = some s := by rw [hd]; exact box_drawn d
  have HB1 : Hid (Below w.heap.size w w1) := Lib.hid (by rw [hd]; exact below_drawn w _ d)
  have hz1 : w.heap.size < w1.heap.size := by rw [hd]; simp [World.size_alloc]
  clear hd
  go_wp2_with fail
  refine (H2.out _ HB1.out).mono ?_
  rintro e w2 ⟨rfl, hb⟩
  have HB2 := Lib.hid (HB1.out.trans (hb.mono HB1.out.size))
  have c2 := (hb.cell (p := ⟨w.heap.size, 0, none⟩) hz1).trans c1
  have hz2 : w.heap.size < w2.heap.size := by have := hb.size; omega
  clear hb c1
  go_wp2_with fail
  refine (H3.out _ HB2.out).mono ?_
  rintro e w3 ⟨A, c, rfl, hb⟩
  have HB3 := Lib.hid (HB2.out.trans (hb.mono HB2.out.size))
  have c3 := (hb.cell (p := ⟨w.heap.size, 0, none⟩) hz2).trans c2
  have hz3 : w.heap.size < w3.heap.size := by have := hb.size; omega
  clear hb c2
  go_wp2_with fail
  refine (H4.out _ HB3.out).mono ?_
  rintro e w4 ⟨rfl, hb⟩
  have HB4 := Lib.hid (HB3.out.trans (hb.mono HB3.out.size))
  have c4 := (hb.cell (p := ⟨w.heap.size, 0, none⟩) hz3).trans c3
  have hz4 : w.heap.size < w4.heap.size := by have := hb.size; omega
  clear hb c3
  go_wp2_with fail
  refine (HF.out w4).mono ?_
  rintro e w5 ⟨rfl, hmd⟩
  have HMD := Lib.hid hmd
  have hb := hmd.frame
  have HB5 := Lib.hid (HB4.out.trans (hb.mono HB4.out.size))
  have c5 := (hb.cell (p := ⟨w.heap.size, 0, none⟩) hz4).trans c4
  have hz5 : w.heap.size < w5.heap.size := by have := hb.size; omega
  clear hb c4 hmd
  go_wp2_with fail
  refine (HW.out _ _ _ _ HMD.out).mono ?_
  rintro e w6 ⟨A2, n2, c2, rfl, hls, hb⟩
  have HB6 := Lib.hid (HB5.out.trans (hb.mono HB5.out.size))
  have c6 := (hb.cell (p := ⟨w.heap.size, 0, none⟩) hz5).trans c5
  have hz6 : w.heap.size < w6.heap.size := by have := hb.size; omega
  have HSM := Lib.hid (HS.out w6 _ HB6.out hls)
  clear hb c5 hls HMD
  go_wp2_with fail
  refine (HSM.out _ (below_box _ _)).mono ?_
  rintro e w7 ⟨rfl, d, hd⟩
  have HB7 : Hid (Below w.heap.size w w7) := Lib.hid (by rw [hd]; exact HB6.out.trans ((below_drawn w6 _ d).mono HB6.out.size))
  clear hd
  go_wp2_with (go_at_call 11; refine (awake_any _).mono ?_; rintro e w8 ⟨rfl, hb⟩; have HB8 := Lib.hid hb; clear hb)
  go_ret
  exact ⟨rfl, HB7.out.trans (HB8.out.mono HB7.out.size)⟩
theorem wback_law (h : Word0 w s ps) : Calls Try.prog 3 #[.agg #[s]] w (Ended w) := by
  by_cases h1 : 300 < muchL ps
  · exact back_much h h1
  have h1' : muchL ps ≤ 300 := by omega
  by_cases h2 : rightB ps = true
  · by_cases h3 : cmdsOfL ps = []
    · exact back_main h h1' h2 h3
    · refine back_cmds h h1' h2 ?_
      cases hh : cmdsOfL ps with
      | nil => exact absurd hh h3
      | cons _ _ => simp
  · exact back_wrong h h1' (by simpa using h2)
end
theorem Try.cellsWord : Try.prog.cellsOf 24 = 1 := by kernel_rfl
set_option maxRecDepth 100000 in
/-- A word that came in, opened. -/
theorem open_word {H : Type} {enc : TypeId × Value → H} {w : World} {base : Nat} {v : Value} {d : DataW H} {p : List MemPlace} (hv : Value.okWide Try.prog w .any base 24 v)
    (h : DataW.Trod enc Try.prog w 0 (fun _ => true) true 24 v d p) (hk : Rows.uptoBulk d ≤ 1048576) : ∃ s ps, v = .agg #[s] ∧ Word0 w s ps := by
  obtain ⟨cs, rfl, hcs⟩ := okWide_struct Try.underlying24 hv
  rw [Try.cellsWord] at hcs
  obtain ⟨fuel, hf⟩ := h
  obtain ⟨xs, n, _, hD, _, hxl, hfl⟩ := DataW.trod_struct Try.underlying24 hf
  obtain ⟨s, rfl⟩ : ∃ s, cs = #[s] := ⟨cs[0], by apply Array.ext <;> simp_all⟩
  have z0 := hfl 0 _ rfl
  obtain ⟨y0, rfl⟩ : ∃ y0, xs = [y0] := by
    match xs, hxl with
    | [y0], _ => exact ⟨_, rfl⟩
  have hd : d = .agg [y0.1] := by have := congrArg Prod.fst hD; simpa using this
  subst hd
  simp only [Rows.uptoBulk, Rows.uptoBulkAll] at hk
  have z1 : DataW.trod enc Try.prog w 0 (fun _ => true) true n 22 [s] = some y0 := z0
  obtain ⟨s', ps, hs, hl, hb⟩ := read_parts 1048576 n [s] y0 (by omega) (Nat.le_refl _) z1
  simp only [List.cons.injEq, and_true] at hs
  subst hs
  exact ⟨s, ps, rfl, hl, by omega⟩
theorem wback_own : ownKnob Try.prog.godebug = none := by kernel_rfl
theorem wback_laid : laidOutB Try.prog = true := by kernel_rfl
set_option maxRecDepth 100000 in
theorem wback_contract (H : Type) (enc : TypeId × Value → H) (W : World) (base : Nat) (args : Array Value) (ds gs : List (DataW H)) (before : List MemPlace)
    (hval0 : ∀ (j : Nat) t v, Try.f3.params[j]? = some t → args[j]? = some v → Value.okWide Try.prog W .any base t v)
    (hW : DataW.Whole enc Try.prog Try.f3.params.toList Rows.wordmBackSpec.vars false W args.toList ds gs before) (hk : Rows.uptoSmall H (ds ++ gs) = true) :
    Calls Try.prog 3 args W fun e W' => ∃ v, e = .returned v ∧ Rows.wordmBackSpec.post enc Try.prog Try.f3 false true false false W args v W' := by
  have hval := hval0
  have hW' := hW
  obtain ⟨p, q, hA0, hV, rfl, hfz, hnd⟩ := hW
  have hA : DataW.TrodAll enc Try.prog W 0 (fun _ => true) true Try.f3.params.toList args.toList ds p := hA0
  rw [Try.params3] at hA hval
  obtain ⟨v0, vs0, d0, ds0, p0, q0, hargs, rfl, rfl, h0, r0⟩ := trodAll_cons hA
  obtain ⟨rfl, rfl, rfl⟩ := trodAll_nil r0
  obtain rfl : args = #[v0] := by cases args; simp_all
  obtain ⟨rfl, rfl⟩ := trodVars_none hV
  have hb : Rows.uptoBulkAll [d0] ≤ 1048576 := by
    have h := of_decide_eq_true hk
    simpa using h
  have hb2 : Rows.uptoBulk d0 ≤ 1048576 := by
    simp only [Rows.uptoBulkAll] at hb
    omega
  obtain ⟨s, ps, rfl, hw0⟩ := open_word (hval 0 24 v0 rfl rfl) h0 hb2
  refine (wback_law hw0).mono fun e W' ⟨he, hb⟩ => ?_
  subst he
  exact ⟨_, rfl, law_post hW' rfl rfl rfl Try.underlying4 wback_laid (by decide +kernel) hb (ok_one (by kernel_rfl) rfl (okWide_bool_mk Try.underlying4 _))⟩
set_option maxRecDepth 100000 in
theorem wback_lifted (os : Os) (started : os.Started) (H : Type) (enc : TypeId × Value → H) (F : Stop.Interp) :
    ReturnsInHanded {} Try.checked os 3 .any ((Rows.OpenSpec.upto Rows.wordmBackSpec).pre6 enc Try.prog Try.f3 Rows.wordmBackUptoRow.domain false) (((Rows.OpenSpec.upto Rows.wordmBackSpec).at F).post enc Try.prog Try.f3 false true false false) := by
  refine returnsInHanded_of_cond (C := Try.checked) (s := Rows.OpenSpec.upto Rows.wordmBackSpec) (k := Rows.uptoSmall) rfl wback_own started (by kernel_rfl) Try.func3
    (OpenSpec.witness (enc := enc) (C := Try.checked) (s := Rows.OpenSpec.upto Rows.wordmBackSpec) (k := Rows.uptoSmall) rfl false ⟨#[], #[.agg #[.slice none 0 0]], []⟩ 8 (by kernel_rfl) (by kernel_rfl) (by kernel_rfl)
      (x := ([.agg [.nil]], [], [])) (by kernel_rfl) rfl (by kernel_rfl)) ?_
  intro W base args ds gs before hval hW _ hk _
  exact wback_contract H enc W base args ds gs before hval hW hk
theorem wback_holds : Rows.WordmBackUptoSaid :=
  OpenClaim.holds_of_cond 3 Try.f3 rfl rfl rfl rfl rfl rfl rfl ⟨rfl, rfl, rfl, rfl, rfl⟩ rfl rfl rfl rfl rfl (by kernel_rfl) Try.func3 (by kernel_rfl)
    (of_decide_eq_true (by kernel_rfl)) (by unfold Func.isWrapper; first | (rw [if_pos (by decide +kernel)]; kernel_rfl) | (rw [if_neg (by decide +kernel)]; exact ⟨rfl, rfl⟩))
    (fun os started H enc _ F => wback_lifted os started H enc F)
#print axioms wback_holds
end Go.Proofs.Ytpadnckmheippaa
