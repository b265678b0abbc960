/- Two word machines whose levels have one shape go on alike, whatever their parts are. -/
import Derived.Test.YtpadnckmheippaaP3
namespace Go.Proofs.Ytpadnckmheippaa
open Go
set_option linter.unusedVariables false
def LV.shape (l : LV) : Nat × List UInt8 × Nat := (l.place, l.lit, l.parts.length)
structure Lev (m x : MS) : Prop where
  lower : x.lower.map LV.shape = m.lower.map LV.shape
  top : x.top.shape = m.top.shape
structure Twin (m x : MS) : Prop extends Lev m x where
  kind : x.kind = m.kind
  deep : m.kind = 13 → x.deep = m.deep
  len : m.kind = 6 ∨ m.kind = 7 ∨ m.kind = 8 ∨ m.kind = 9 → x.length = m.length
  cut : m.kind = 11 → x.cut = m.cut
theorem Lev.place {m x : MS} (h : Lev m x) : x.top.place = m.top.place := congrArg Prod.fst h.top
theorem flush_shape (l : LV) : l.flush.shape = if l.lit = [] then l.shape else (l.place, [], l.parts.length + 1) := by
  unfold LV.flush LV.shape
  split
  · rfl
  · simp
theorem shape_flush {l k : LV} (h : k.shape = l.shape) : k.flush.shape = l.flush.shape := by
  rw [flush_shape, flush_shape, h]
  simp only [LV.shape, Prod.mk.injEq] at h
  obtain ⟨h1, h2, h3⟩ := h
  rw [h1, h2, h3]
theorem Lev.places {m x : MS} (h : Lev m x) : x.places = m.places := by
  have h1 := congrArg (List.map Prod.fst) h.lower
  rw [List.map_map, List.map_map] at h1
  have h2 : ∀ l : List LV, l.map (Prod.fst ∘ LV.shape) = l.map LV.place := fun l => rfl
  rw [h2, h2] at h1
  unfold MS.places
  rw [h1, h.place]
theorem Lev.turn {m x : MS} (h : Lev m x) (k j : Nat) : Lev (m.turn k) (x.turn j) := ⟨h.lower, h.top⟩
theorem Lev.lits {m x : MS} (h : Lev m x) (l : List UInt8) : Lev (m.lits l) (x.lits l) := by
  refine ⟨h.lower, ?_⟩
  have h2 := h.top
  simp only [LV.shape, Prod.mk.injEq] at h2
  simp only [MS.lits, LV.shape, h2]
theorem Lev.add {m x : MS} (h : Lev m x) (p q : PT) : Lev (m.add p) (x.add q) := by
  refine ⟨h.lower, ?_⟩
  have h2 := shape_flush h.top
  simp only [LV.shape, Prod.mk.injEq] at h2
  simp only [MS.add, LV.shape, h2, List.length_append, List.length_cons, List.length_nil]
theorem Lev.push {m x : MS} (h : Lev m x) {l k : LV} (hl : k.shape = l.shape) : Lev (m.push l) (x.push k) := by
  refine ⟨?_, hl⟩
  simp only [MS.push, List.map_append, h.lower, List.map_cons, List.map_nil, h.top]
theorem Lev.flush {m x : MS} (h : Lev m x) : Lev { m with top := m.top.flush } { x with top := x.top.flush } := ⟨h.lower, shape_flush h.top⟩
theorem map_last (a b : List LV) (h : b.map LV.shape = a.map LV.shape) : b.dropLast.map LV.shape = a.dropLast.map LV.shape ∧ (b.getLastD {}).shape = (a.getLastD {}).shape := by
  rcases List.eq_nil_or_concat a with h0 | ⟨rs, t, h0⟩
  · subst h0
    have : b = [] := by simpa using h
    subst this
    exact ⟨rfl, rfl⟩
  · rw [List.concat_eq_append] at h0
    subst h0
    rcases List.eq_nil_or_concat b with h1 | ⟨bs, u, h1⟩
    · subst h1; simp at h
    · rw [List.concat_eq_append] at h1
      subst h1
      rw [List.map_append, List.map_append] at h
      obtain ⟨h2, h3⟩ := List.append_inj' h rfl
      simp only [List.dropLast_concat, List.getLastD_concat]
      exact ⟨h2, by simpa using h3⟩
theorem Lev.pop {m x : MS} (h : Lev m x) : Lev m.pop x.pop := by
  unfold MS.pop
  obtain ⟨h1, h2⟩ := map_last _ _ h.lower
  exact (Lev.add (m := { m with lower := m.lower.dropLast, top := m.lower.getLastD {} }) (x := { x with lower := x.lower.dropLast, top := x.lower.getLastD {} }) ⟨h1, h2⟩ _ _).turn 0 0
/-- Alike behind a step, with one signal. -/
def Alike (r q : MS × Nat) : Prop := q.2 = r.2 ∧ Twin r.1 q.1
def plainK (k : Nat) : Prop := k ≠ 6 ∧ k ≠ 7 ∧ k ≠ 8 ∧ k ≠ 9 ∧ k ≠ 11 ∧ k ≠ 13
theorem Twin.easy {m x : MS} (h : Lev m x) (hk : x.kind = m.kind) (hp : plainK m.kind) : Twin m x := by
  unfold plainK at hp
  exact ⟨h, hk, fun e => by omega, fun e => by omega, fun e => by omega⟩
theorem alike_turn {m x : MS} (h : Lev m x) (k s : Nat) (hp : plainK k := by unfold plainK; decide) : Alike (m.turn k, s) (x.turn k, s) := ⟨rfl, Twin.easy (h.turn k k) rfl hp⟩
theorem alike_stay {m x : MS} (h : Lev m x) (hk : x.kind = m.kind) (hp : plainK m.kind) (s : Nat) : Alike (m, s) (x, s) := ⟨rfl, Twin.easy h hk hp⟩
theorem plain0 : plainK 0 := by unfold plainK; decide
theorem text_alike {m x : MS} (h : Lev m x) (hm : m.kind = 0) (hx : x.kind = 0) (c : UInt8) : Alike (m.text c) (x.text c) := by
  have hp := h.place
  have hk : x.kind = m.kind := by rw [hm, hx]
  unfold MS.text
  rw [hp]
  by_cases c1 : c = 0 ∨ c = 96
  · rw [if_pos c1, if_pos c1]; exact alike_turn h 17 3
  rw [if_neg c1, if_neg c1]
  by_cases c2 : m.top.place = 0 ∧ (classOf c = 1 ∨ classOf c = 2 ∨ classOf c = 5)
  · rw [if_pos c2, if_pos c2]; exact alike_turn h.flush 16 1
  rw [if_neg c2, if_neg c2]
  by_cases c3 : (m.top.place = 1 ∧ c = 34) ∨ (m.top.place = 2 ∧ c = 125)
  · rw [if_pos c3, if_pos c3]; exact alike_stay h.pop rfl plain0 0
  rw [if_neg c3, if_neg c3]
  by_cases c4 : c = 92
  · rw [if_pos c4, if_pos c4]; exact alike_turn (m := { m with quoted := true }) (x := { x with quoted := true }) ⟨h.lower, h.top⟩ 1 0
  rw [if_neg c4, if_neg c4]
  by_cases c5 : c = 39 ∧ m.top.place ≠ 1
  · rw [if_pos c5, if_pos c5]; exact alike_turn (m := { m with quoted := true, buf := [] }) (x := { x with quoted := true, buf := [] }) ⟨h.lower, h.top⟩ 12 0
  rw [if_neg c5, if_neg c5]
  by_cases c6 : c = 34
  · rw [if_pos c6, if_pos c6]
    exact alike_stay (Lev.push (m := { m with quoted := true }) (x := { x with quoted := true }) ⟨h.lower, h.top⟩ rfl) rfl plain0 0
  rw [if_neg c6, if_neg c6]
  by_cases c7 : c = 36
  · rw [if_pos c7, if_pos c7]; exact alike_turn h 2 0
  rw [if_neg c7, if_neg c7]
  exact alike_stay (h.lits [c]) hk (by show plainK m.kind; rw [hm]; exact plain0) 0
theorem alike_oper {m x : MS} (h : Lev m x) (op : List UInt8) : Alike (m.operator op, 0) (x.operator op, 0) :=
  alike_stay (Lev.push h (l := { place := 2, name := m.buf, op := op }) (k := { place := 2, name := x.buf, op := op }) rfl) rfl plain0 0
theorem param_alike {m x : MS} (h : Lev m x) (hl : x.length = m.length) (c : UInt8) : Alike (m.parameter c) (x.parameter c) := by
  have hb : Lev { m with buf := [c] } { x with buf := [c] } := ⟨h.lower, h.top⟩
  unfold MS.parameter
  simp only
  by_cases c1 : classOf c = 4
  · rw [if_pos c1, if_pos c1]; exact ⟨rfl, hb.turn 7 7, rfl, (fun e => by cases e), fun _ => hl, (fun e => by cases e)⟩
  rw [if_neg c1, if_neg c1]
  by_cases c2 : classOf c = 3
  · rw [if_pos c2, if_pos c2]; exact ⟨rfl, hb.turn 8 8, rfl, (fun e => by cases e), fun _ => hl, (fun e => by cases e)⟩
  rw [if_neg c2, if_neg c2]
  by_cases c3 : special c = true
  · rw [if_pos c3, if_pos c3]; exact ⟨rfl, hb.turn 9 9, rfl, (fun e => by cases e), fun _ => hl, (fun e => by cases e)⟩
  rw [if_neg c3, if_neg c3]
  exact alike_turn hb 17 3
theorem behind_alike {m x : MS} (h : Lev m x) (hl : x.length = m.length) (c : UInt8) : Alike (m.behind c) (x.behind c) := by
  unfold MS.behind
  rw [hl]
  by_cases c1 : c = 125
  · rw [if_pos c1, if_pos c1]; exact alike_turn (h.add _ _) 0 0
  rw [if_neg c1, if_neg c1]
  by_cases c2 : m.length = true
  · rw [if_pos c2, if_pos c2]; exact alike_turn h 17 3
  rw [if_neg c2, if_neg c2]
  by_cases c3 : c = 58
  · rw [if_pos c3, if_pos c3]; exact alike_turn h 10 0
  rw [if_neg c3, if_neg c3]
  by_cases c4 : c = 37 ∨ c = 35
  · rw [if_pos c4, if_pos c4]
    exact ⟨rfl, ⟨h.lower, h.top⟩, rfl, (fun e => by cases e), (fun e => by rcases e with e | e | e | e <;> cases e), fun _ => rfl⟩
  rw [if_neg c4, if_neg c4]
  by_cases c5 : single1 c = true
  · rw [if_pos c5, if_pos c5]; exact alike_oper h [c]
  rw [if_neg c5, if_neg c5]
  exact alike_turn h 17 3
theorem next_16 (m : MS) (c : UInt8) (h : m.kind = 16) : m.next c = (m, 1) := by unfold MS.next; split <;> first | rfl | omega | (exfalso; simp_all)
theorem next_d (m : MS) (c : UInt8) (h : m.kind = 15 ∨ m.kind = 17) : m.next c = (m, 3) := by unfold MS.next; split <;> first | rfl | omega | (exfalso; simp_all)
theorem named_alike {m x : MS} (h : Twin m x) (hk : m.kind = 7 ∨ m.kind = 8) (c : UInt8) : Alike (m.named c) (x.named c) := by
  have hl := h.len (by omega)
  unfold MS.named
  rw [h.kind]
  simp only
  by_cases c1 : classOf c = 3 ∨ (classOf c = 4 ∧ m.kind = 7)
  · rw [if_pos c1, if_pos c1]
    exact ⟨rfl, ⟨h.lower, h.top⟩, rfl, h.deep, h.len, h.cut⟩
  rw [if_neg c1, if_neg c1]
  exact behind_alike (h.toLev.turn 9 9) hl c
theorem next_alike {m x : MS} (h : Twin m x) (hk : m.kind ≤ 17) (c : UInt8) : Alike (m.next c) (x.next c) := by
  have hxk := h.kind
  have L := h.toLev
  have hc : m.kind = 0 ∨ m.kind = 1 ∨ m.kind = 2 ∨ m.kind = 3 ∨ m.kind = 4 ∨ m.kind = 5 ∨ m.kind = 6 ∨ m.kind = 7 ∨ m.kind = 8 ∨ m.kind = 9 ∨ m.kind = 10 ∨ m.kind = 11 ∨ m.kind = 12 ∨ m.kind = 13 ∨ m.kind = 14 ∨ m.kind = 15 ∨ m.kind = 16 ∨ m.kind = 17 := by omega
  rcases hc with e | e | e | e | e | e | e | e | e | e | e | e | e | e | e | e | e | e
  · rw [next_0 m c e, next_0 x c (hxk.trans e)]; exact text_alike L e (hxk.trans e) c
  · rw [next_1 m c e, next_1 x c (hxk.trans e)]
    unfold MS.escaped
    rw [L.place]
    by_cases c1 : c = 0 ∨ c = 10
    · rw [if_pos c1, if_pos c1]; exact alike_turn L 17 3
    rw [if_neg c1, if_neg c1]
    by_cases c2 : m.top.place = 1 ∧ quotes c = false
    · rw [if_pos c2, if_pos c2]; exact alike_turn (L.lits _) 0 0
    rw [if_neg c2, if_neg c2]
    exact alike_turn (Lev.add (m := { m with took := m.took ++ [c] }) (x := { x with took := x.took ++ [c] }) ⟨L.lower, L.top⟩ _ _) 0 0
  · rw [next_2 m c e, next_2 x c (hxk.trans e)]
    unfold MS.dollar
    simp only
    by_cases c1 : c = 123
    · rw [if_pos c1, if_pos c1]; exact alike_turn (m := { m with exp := true }) (x := { x with exp := true }) ⟨L.lower, L.top⟩ 5 0
    rw [if_neg c1, if_neg c1]
    by_cases c2 : c = 40
    · rw [if_pos c2, if_pos c2]; exact alike_turn (m := { m with exp := true }) (x := { x with exp := true }) ⟨L.lower, L.top⟩ 3 0
    rw [if_neg c2, if_neg c2]
    by_cases c3 : classOf c = 4
    · rw [if_pos c3, if_pos c3]; exact alike_turn (m := { m with exp := true, buf := [c] }) (x := { x with exp := true, buf := [c] }) ⟨L.lower, L.top⟩ 4 0
    rw [if_neg c3, if_neg c3]
    by_cases c4 : classOf c = 3 ∨ special c = true
    · rw [if_pos c4, if_pos c4]; exact alike_turn (Lev.add (m := { m with exp := true }) (x := { x with exp := true }) ⟨L.lower, L.top⟩ _ _) 0 0
    rw [if_neg c4, if_neg c4]
    exact text_alike ((L.lits [36]).turn 0 0) rfl rfl c
  · rw [next_3 m c e, next_3 x c (hxk.trans e)]
    unfold MS.opened
    by_cases c1 : c = 40
    · rw [if_pos c1, if_pos c1]; exact ⟨rfl, ⟨L.lower, L.top⟩, rfl, fun _ => rfl, (fun e => by rcases e with e | e | e | e <;> cases e), (fun e => by cases e)⟩
    rw [if_neg c1, if_neg c1]
    exact alike_turn L 15 2
  · rw [next_4 m c e, next_4 x c (hxk.trans e)]
    unfold MS.bare
    simp only
    by_cases c1 : classOf c = 4 ∨ classOf c = 3
    · rw [if_pos c1, if_pos c1]
      exact alike_stay (m := { m with buf := m.buf ++ [c] }) (x := { x with buf := x.buf ++ [c] }) ⟨L.lower, L.top⟩ hxk (by show plainK m.kind; rw [e]; unfold plainK; decide) 0
    rw [if_neg c1, if_neg c1]
    exact text_alike ((L.add _ _).turn 0 0) rfl rfl c
  · rw [next_5 m c e, next_5 x c (hxk.trans e)]
    unfold MS.head
    by_cases c1 : c = 35
    · rw [if_pos c1, if_pos c1]; exact ⟨rfl, ⟨L.lower, L.top⟩, rfl, (fun e => by cases e), fun _ => rfl, (fun e => by cases e)⟩
    rw [if_neg c1, if_neg c1]
    exact param_alike (m := { m with length := false }) (x := { x with length := false }) ⟨L.lower, L.top⟩ rfl c
  · rw [next_6 m c e, next_6 x c (hxk.trans e)]
    unfold MS.hash
    by_cases c1 : c = 125
    · rw [if_pos c1, if_pos c1]; exact alike_turn (L.add _ _) 0 0
    rw [if_neg c1, if_neg c1]
    exact param_alike L (h.len (by omega)) c
  · rw [next_7 m c e, next_7 x c (hxk.trans e)]; exact named_alike h (by omega) c
  · rw [next_8 m c e, next_8 x c (hxk.trans e)]; exact named_alike h (by omega) c
  · rw [next_9 m c e, next_9 x c (hxk.trans e)]; exact behind_alike L (h.len (by omega)) c
  · rw [next_10 m c e, next_10 x c (hxk.trans e)]
    unfold MS.colon
    by_cases c1 : single1 c = false
    · rw [if_pos c1, if_pos c1]; exact alike_turn L 17 3
    rw [if_neg c1, if_neg c1]
    exact alike_oper L _
  · rw [next_11 m c e, next_11 x c (hxk.trans e)]
    unfold MS.double
    rw [h.cut e]
    by_cases c1 : c = m.cut
    · rw [if_pos c1, if_pos c1]; exact alike_oper L _
    rw [if_neg c1, if_neg c1]
    exact text_alike (alike_oper L [m.cut]).2.toLev rfl rfl c
  · rw [next_12 m c e, next_12 x c (hxk.trans e)]
    unfold MS.single
    by_cases c1 : c = 0
    · rw [if_pos c1, if_pos c1]; exact alike_turn L 17 3
    rw [if_neg c1, if_neg c1]
    by_cases c2 : c = 39
    · rw [if_pos c2, if_pos c2]; exact alike_turn (L.add _ _) 0 0
    rw [if_neg c2, if_neg c2]
    exact alike_stay (m := { m with buf := m.buf ++ [c], took := m.took ++ [c] }) (x := { x with buf := x.buf ++ [c], took := x.took ++ [c] }) ⟨L.lower, L.top⟩ hxk (by show plainK m.kind; rw [e]; unfold plainK; decide) 0
  · rw [next_13 m c e, next_13 x c (hxk.trans e)]
    have hd := h.deep e
    unfold MS.arith
    rw [hd]
    by_cases c1 : c = 0
    · rw [if_pos c1, if_pos c1]; exact alike_turn L 17 3
    rw [if_neg c1, if_neg c1]
    by_cases c2 : c = 41 ∧ m.deep = 0
    · rw [if_pos c2, if_pos c2]; exact alike_turn L 14 0
    rw [if_neg c2, if_neg c2]
    by_cases c3 : c = 41
    · rw [if_pos c3, if_pos c3]; exact ⟨rfl, ⟨L.lower, L.top⟩, hxk, fun _ => rfl, h.len, h.cut⟩
    rw [if_neg c3, if_neg c3]
    by_cases c4 : c = 40
    · rw [if_pos c4, if_pos c4]; exact ⟨rfl, ⟨L.lower, L.top⟩, hxk, fun _ => rfl, h.len, h.cut⟩
    rw [if_neg c4, if_neg c4]
    exact ⟨rfl, ⟨L.lower, L.top⟩, hxk, fun _ => rfl, h.len, h.cut⟩
  · rw [next_14 m c e, next_14 x c (hxk.trans e)]
    unfold MS.arithEnd
    by_cases c1 : c ≠ 41
    · rw [if_pos c1, if_pos c1]; exact alike_turn L 17 3
    rw [if_neg c1, if_neg c1]
    exact alike_turn (L.add _ _) 0 0
  · rw [next_d m c (.inl e), next_d x c (.inl (hxk.trans e))]; exact ⟨rfl, h⟩
  · rw [next_16 m c e, next_16 x c (hxk.trans e)]; exact ⟨rfl, h⟩
  · rw [next_d m c (.inr e), next_d x c (.inr (hxk.trans e))]; exact ⟨rfl, h⟩
theorem feed_alike {m x : MS} (h : Twin m x) (hk : m.kind ≤ 17) (c : UInt8) : Alike (m.feed c) (x.feed c) := by
  obtain ⟨h1, h2⟩ := next_alike h hk c
  unfold MS.feed
  simp only [h1]
  by_cases c1 : (m.next c).2 = 0
  · rw [if_pos c1, if_pos c1]
    exact ⟨rfl, ⟨h2.lower, h2.top⟩, h2.kind, h2.deep, h2.len, h2.cut⟩
  · rw [if_neg c1, if_neg c1]
    exact ⟨h1, h2⟩
theorem Twin.rest {m x : MS} (h : Twin m x) : x.rest = m.rest := by
  have hm : x.missing = m.missing := by
    unfold MS.missing
    rw [h.kind]
    by_cases e : m.kind = 13
    · rw [h.deep e]
    · simp only [e, if_false]
  unfold MS.rest
  rw [h.kind, hm, h.toLev.places]

mutual
/-- The commands in a part. -/
def PT.cmdsOf : PT → List Value
  | .mk k _ _ kids c => (if k = 6 then [c] else []) ++ cmdsOfL kids
def cmdsOfL : List PT → List Value
  | [] => []
  | p :: l => p.cmdsOf ++ cmdsOfL l
end
theorem cmdsOfL_app (a b : List PT) : cmdsOfL (a ++ b) = cmdsOfL a ++ cmdsOfL b := by
  induction a with
  | nil => simp [cmdsOfL]
  | cons p a ih => simp [cmdsOfL, ih, List.append_assoc]
def LV.cmdsOf (l : LV) : List Value := cmdsOfL l.parts
/-- All commands in it, in their order. -/
def MS.cmdsOf (m : MS) : List Value := m.lower.flatMap LV.cmdsOf ++ m.top.cmdsOf
theorem flush_cmds (l : LV) : l.flush.cmdsOf = l.cmdsOf := by
  unfold LV.flush LV.cmdsOf
  split
  · rfl
  · simp [cmdsOfL_app, cmdsOfL, PT.leaf, PT.cmdsOf]
theorem turn_cmds (m : MS) (k : Nat) : (m.turn k).cmdsOf = m.cmdsOf := rfl
theorem lits_cmds (m : MS) (l : List UInt8) : (m.lits l).cmdsOf = m.cmdsOf := rfl
theorem add_cmds (m : MS) (p : PT) : (m.add p).cmdsOf = m.cmdsOf ++ p.cmdsOf := by
  have h := flush_cmds m.top
  unfold LV.cmdsOf at h
  simp [MS.cmdsOf, MS.add, LV.cmdsOf, cmdsOfL_app, cmdsOfL, h]
theorem push_cmds (m : MS) (l : LV) (h : l.parts = []) : (m.push l).cmdsOf = m.cmdsOf := by
  simp [MS.cmdsOf, MS.push, LV.cmdsOf, h, cmdsOfL]
theorem leaf_cmds (k : Int) (hk : k ≠ 6) (t o : List UInt8) (c : Value) : (PT.mk k t o [] c).cmdsOf = [] := by simp [PT.cmdsOf, hk, cmdsOfL]
theorem closed_cmds (l : LV) : (MS.closed l).cmdsOf = l.cmdsOf := by
  unfold MS.closed LV.cmdsOf
  split <;> simp [PT.cmdsOf]
theorem pop_cmds (m : MS) (hp : m.lower ≠ []) : m.pop.cmdsOf = m.cmdsOf := by
  unfold MS.pop
  rw [turn_cmds, add_cmds, closed_cmds, flush_cmds]
  rcases List.eq_nil_or_concat m.lower with h0 | ⟨ls, t, h0⟩
  · exact absurd h0 hp
  · rw [List.concat_eq_append] at h0
    simp only [MS.cmdsOf, h0, List.dropLast_concat, List.getLastD_concat, List.flatMap_append, List.flatMap_cons, List.flatMap_nil, List.append_nil]
theorem lower_ne {m : MS} (h : m.ok) (hp : m.top.place ≠ 0) : m.lower ≠ [] := by
  intro h0
  obtain ⟨ps, h1, h2⟩ := h
  unfold MS.places at h1
  rw [h0] at h1
  simp at h1
  exact hp h1.1
theorem text_cmds (m : MS) (h : m.ok) (c : UInt8) : (m.text c).1.cmdsOf = m.cmdsOf := by
  unfold MS.text
  by_cases c1 : c = 0 ∨ c = 96
  · rw [if_pos c1]; rfl
  rw [if_neg c1]
  by_cases c2 : m.top.place = 0 ∧ (classOf c = 1 ∨ classOf c = 2 ∨ classOf c = 5)
  · rw [if_pos c2]
    show m.lower.flatMap LV.cmdsOf ++ m.top.flush.cmdsOf = _
    rw [flush_cmds]; rfl
  rw [if_neg c2]
  by_cases c3 : (m.top.place = 1 ∧ c = 34) ∨ (m.top.place = 2 ∧ c = 125)
  · rw [if_pos c3]; exact pop_cmds m (lower_ne h (by omega))
  rw [if_neg c3]
  by_cases c4 : c = 92
  · rw [if_pos c4]; rfl
  rw [if_neg c4]
  by_cases c5 : c = 39 ∧ m.top.place ≠ 1
  · rw [if_pos c5]; rfl
  rw [if_neg c5]
  by_cases c6 : c = 34
  · rw [if_pos c6]; exact push_cmds ({ m with quoted := true } : MS) _ rfl
  rw [if_neg c6]
  by_cases c7 : c = 36
  · rw [if_pos c7]; rfl
  rw [if_neg c7]
  rfl
theorem addl_cmds (m : MS) (k : Int) (hk : k ≠ 6) (t o : List UInt8) (c : Value) : ((m.add (.mk k t o [] c)).turn 0).cmdsOf = m.cmdsOf := by
  rw [turn_cmds, add_cmds, leaf_cmds k hk, List.append_nil]
theorem param_cmds (m : MS) (c : UInt8) : (m.parameter c).1.cmdsOf = m.cmdsOf := by
  unfold MS.parameter
  simp only
  repeat' split
  all_goals rfl
theorem behind_cmds (m : MS) (c : UInt8) : (m.behind c).1.cmdsOf = m.cmdsOf := by
  unfold MS.behind
  split
  · exact addl_cmds m 5 (by decide) _ _ _
  split
  · rfl
  split
  · rfl
  split
  · rfl
  split
  · exact push_cmds m _ rfl
  · rfl
theorem next_cmds (m : MS) (h : m.ok) (c : UInt8) : (m.next c).1.cmdsOf = m.cmdsOf := by
  unfold MS.next
  split
  · exact text_cmds m h c
  · unfold MS.escaped
    split
    · rfl
    split
    · rfl
    · exact addl_cmds ({ m with took := m.took ++ [c] } : MS) 2 (by decide) _ _ _
  · unfold MS.dollar
    simp only
    split
    · rfl
    split
    · rfl
    split
    · rfl
    split
    · exact addl_cmds ({ m with exp := true } : MS) 5 (by decide) _ _ _
    · exact text_cmds ((m.lits [36]).turn 0) (ok_same h rfl) c
  · unfold MS.opened
    split <;> rfl
  · unfold MS.bare
    simp only
    split
    · rfl
    · rw [text_cmds _ (ok_same h (by rw [turn_places, add_places]))]
      exact addl_cmds m 5 (by decide) _ _ _
  · unfold MS.head
    split
    · rfl
    · exact param_cmds ({ m with length := false } : MS) c
  · unfold MS.hash
    split
    · exact addl_cmds m 5 (by decide) _ _ _
    · exact param_cmds m c
  · unfold MS.named
    simp only
    split
    · rfl
    · exact behind_cmds (m.turn 9) c
  · unfold MS.named
    simp only
    split
    · rfl
    · exact behind_cmds (m.turn 9) c
  · exact behind_cmds m c
  · unfold MS.colon
    split
    · rfl
    · exact push_cmds m _ rfl
  · unfold MS.double
    split
    · exact push_cmds m _ rfl
    · exact (text_cmds (m.operator [m.cut]) (ok_of h (opens_push m { place := 2, name := m.buf, op := [m.cut] } (.inr rfl))) c).trans (push_cmds m _ rfl)
  · unfold MS.single
    split
    · rfl
    split
    · exact addl_cmds m 3 (by decide) _ _ _
    · rfl
  · unfold MS.arith
    split
    · rfl
    split
    · rfl
    split
    · rfl
    split <;> rfl
  · unfold MS.arithEnd
    split
    · rfl
    · exact addl_cmds m 7 (by decide) _ _ _
  · rfl
  · rfl
theorem feed_cmds (m : MS) (h : m.ok) (c : UInt8) : (m.feed c).1.cmdsOf = m.cmdsOf := by
  have h1 := next_cmds m h c
  unfold MS.feed
  simp only
  split
  · exact h1
  · exact h1
theorem run_cmds (m : MS) (n : Nat) (h : Good n m) (l : List UInt8) : (m.run l).cmdsOf = m.cmdsOf := by
  induction l generalizing m n with
  | nil => rfl
  | cons c l ih => exact (ih _ _ (h.feed c)).trans (feed_cmds m h.ok c)
end Go.Proofs.Ytpadnckmheippaa
