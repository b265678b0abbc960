/- What the document asks of a word's parts, as functions; what a word machine's levels have of it: plain. A word that a word machine has read to its end is right: plain. A word that a word machine has read to its end is right: every state. Plain. What a word machine's parts are made of: short texts, and no commands: plain. The reference's functions of one byte. The reference's functions of a text: Name, Digits, clear, arith. The reference's functions of a text: clear, arith. The reference's op: is it an operator of parameters? -/
import Derived.Test.YtpadnckmheippaaP6
import Derived.Test.YtpadnckmheippaaS26
namespace Go.Proofs.Ytpadnckmheippaa
open Go
set_option linter.unusedVariables false
/-- May it stand behind a $ that is literal? -/
def okAfter (c : UInt8) : Bool := classOf c != 4 && classOf c != 3 && !special c && c != 123 && c != 40
def litOne (place : Nat) (c : UInt8) (r : List UInt8) : Bool :=
  classOf c != 0 && (c != 36 || (match r with | [] => true | d :: _ => okAfter d)) &&
  (place != 0 || (classOf c == 3 || classOf c == 4 || classOf c == 8 || classOf c == 7)) &&
  (place != 2 || (c != 125 && classOf c != 6)) &&
  (place != 1 || (c != 34 && c != 96 && (c != 92 || (match r with | [] => false | d :: _ => !quotes d && d != 10))))
def litGo (place : Nat) : List UInt8 → Bool
  | [] => true
  | c :: r => litOne place c r && litGo place r
def litB (place : Nat) (s : List UInt8) : Bool := !s.isEmpty && litGo place s
def nameB : List UInt8 → Bool
  | [] => false
  | c :: r => classOf c == 4 && r.all fun d => classOf d == 4 || classOf d == 3
def digitsB (l : List UInt8) : Bool := !l.isEmpty && l.all fun d => classOf d == 3
def clearB (s : List UInt8) (c : UInt8) : Bool := s.all fun d => d != 0 && d != c
def arithRun : Nat → List UInt8 → Option Nat
  | n, [] => some n
  | n, c :: r => if c = 0 then none else if c = 40 then arithRun (n + 1) r else if c = 41 then (if n = 0 then none else arithRun (n - 1) r) else arithRun n r
def arithB (s : List UInt8) : Bool := arithRun 0 s == some 0
def opB (o : List UInt8) : Bool := [[58, 45], [45], [58, 61], [61], [58, 63], [63], [58, 43], [43], [37], [37, 37], [35], [35, 35]].contains o
def paramText (t : List UInt8) : Bool := nameB t || digitsB t || (t.length == 1 && special (t.headD 0))
def frontB (o : List UInt8) (l : List PT) : Bool :=
  !(o == [37] || o == [35]) || (match l with | [] => true | p :: _ => p.k != 1 || p.text.headD 0 != o.headD 0)
def jointB (p q : PT) : Bool := p.k != 1 || (q.k != 1 && !(p.text.getLastD 0 == 36 && (q.k == 5 || q.k == 6 || q.k == 7)))
def cmdsLen : Value → Nat
  | .slice _ n _ => n
  | _ => 0
mutual
def oneB : PT → Nat → Bool
  | .mk k t o kids c, place =>
    (k == 5 || o.isEmpty) && (k == 5 || k == 4 || kids.isEmpty) && (k == 6 || cmdsLen c == 0) &&
    (if k = 1 then litB place t
     else if k = 2 then t.length == 1 && t.headD 0 != 0 && t.headD 0 != 10 && (place != 1 || quotes (t.headD 0))
     else if k = 3 then place != 1 && clearB t 39
     else if k = 4 then place != 1 && t.isEmpty && allB kids 1
     else if k = 5 then paramText t && (if o = [] ∨ o = [108, 101, 110] then kids.isEmpty else opB o && t != [35] && allB kids 2 && frontB o kids)
     else if k = 6 then t.isEmpty
     else if k = 7 then arithB t
     else false)
def allB : List PT → Nat → Bool
  | [], _ => true
  | p :: r, place => oneB p place && allB r place && (match r with | [] => true | q :: _ => jointB p q)
end
def rightB (l : List PT) : Bool := !l.isEmpty && allB l 0 && (match l with | [] => false | p :: _ => p.k != 1 || p.text.headD 0 != 35)

theorem litGo_snoc (place : Nat) (l : List UInt8) (d : UInt8) (h : litGo place l = true) (hd : litOne place d [] = true) (h36 : l.getLast? = some 36 → okAfter d = true) : litGo place (l ++ [d]) = true := by
  induction l with
  | nil => simp [litGo, hd]
  | cons c r ih =>
    simp only [litGo, Bool.and_eq_true] at h
    simp only [List.cons_append, litGo, Bool.and_eq_true]
    cases r with
    | nil =>
      refine ⟨?_, by simp [litGo, hd]⟩
      have h1 := h.1
      unfold litOne at h1 ⊢
      simp only [Bool.and_eq_true, Bool.or_eq_true] at h1 ⊢
      obtain ⟨⟨⟨⟨a1, a2⟩, a3⟩, a4⟩, a5⟩ := h1
      refine ⟨⟨⟨⟨a1, ?_⟩, a3⟩, a4⟩, ?_⟩
      · by_cases hc : c = 36
        · right; exact h36 (by rw [hc]; rfl)
        · left; simpa using hc
      · rcases a5 with a5 | a5
        · exact .inl a5
        · right
          obtain ⟨b1, b2⟩ := a5
          refine ⟨b1, ?_⟩
          rcases b2 with b2 | b2
          · exact .inl b2
          · cases b2
    | cons e r =>
      refine ⟨h.1, ih h.2 (fun hl => h36 (by simpa using hl))⟩
theorem litGo_esc (l : List UInt8) (c : UInt8) (h : litGo 1 l = true) (hq : quotes c = false) (h0 : c ≠ 0) (h10 : c ≠ 10) : litGo 1 (l ++ [92, c]) = true := by
  have hc36 : c ≠ 36 := by rintro rfl; revert hq; decide
  have hc34 : c ≠ 34 := by rintro rfl; revert hq; decide
  have hc96 : c ≠ 96 := by rintro rfl; revert hq; decide
  have hc92 : c ≠ 92 := by rintro rfl; revert hq; decide
  have hcl : classOf c ≠ 0 := by
    unfold classOf
    rw [if_neg h0]
    repeat' split
    all_goals decide
  induction l with
  | nil => simp [litGo, litOne, hq, h10, hc34, hc96, hc92, hcl]; decide
  | cons b r ih =>
    simp only [litGo, Bool.and_eq_true] at h
    simp only [List.cons_append, litGo, Bool.and_eq_true]
    refine ⟨?_, ih h.2⟩
    cases r with
    | nil =>
      have h1 := h.1
      unfold litOne at h1 ⊢
      simp only [Bool.and_eq_true, Bool.or_eq_true, List.nil_append] at h1 ⊢
      obtain ⟨⟨⟨⟨a1, a2⟩, a3⟩, a4⟩, a5⟩ := h1
      refine ⟨⟨⟨⟨a1, .inr (by decide)⟩, a3⟩, a4⟩, ?_⟩
      rcases a5 with a5 | a5
      · exact .inl a5
      · right
        obtain ⟨b1, b2⟩ := a5
        refine ⟨b1, ?_⟩
        rcases b2 with b2 | b2
        · exact .inl b2
        · cases b2
    | cons e r => exact h.1

theorem allB_snoc (l : List PT) (p : PT) (place : Nat) : allB (l ++ [p]) place = (allB l place && oneB p place && (match l.getLast? with | none => true | some q => jointB q p)) := by
  induction l with
  | nil => simp [allB]
  | cons a r ih =>
    simp only [List.cons_append, allB, ih]
    cases r with
    | nil =>
      simp only [allB, List.nil_append, List.getLast?_singleton, List.getLast?_nil]
      cases oneB a place <;> cases oneB p place <;> cases jointB a p <;> rfl
    | cons e r =>
      simp only [List.getLast?_cons_cons, List.cons_append]
      generalize (match (e :: r).getLast? with
        | none => true
        | some q => jointB q p) = M
      cases oneB a place <;> cases allB (e :: r) place <;> cases oneB p place <;> cases jointB a e <;> cases M <;> rfl

/-- No literal's first byte may be this. -/
def LV.bad (l : LV) : Option UInt8 := if l.place = 0 then some 35 else if l.op = [37] then some 37 else if l.op = [35] then some 35 else none
structure LvOK (l : LV) : Prop where
  all : allB l.parts l.place = true
  last : ∀ p, l.parts.getLast? = some p → p.k ≠ 1
  lit : litGo l.place l.lit = true
  front : ∀ b, l.bad = some b → (∀ p r, l.parts = p :: r → p.k = 1 → p.text.head? ≠ some b) ∧ (l.parts = [] → l.lit.head? ≠ some b)
/-- A level above another one. -/
def Up (t u : LV) : Prop := (u.place = 1 ∧ t.place ≠ 1) ∨ (u.place = 2 ∧ t.lit.getLast? ≠ some 36 ∧ paramText u.name = true ∧ opB u.op = true ∧ u.name ≠ [35])
inductive Lvs : List LV → LV → Prop where
  | base (t : LV) (h : t.place = 0) (ok : LvOK t) : Lvs [] t
  | up (ls : List LV) (t u : LV) (h : Lvs ls t) (ok : LvOK u) (hu : Up t u) : Lvs (ls ++ [t]) u
theorem Lvs.ok {ls : List LV} {t : LV} (h : Lvs ls t) : LvOK t := by cases h <;> assumption
theorem Lvs.turn {ls : List LV} {t u : LV} (h : Lvs ls t) (hp : u.place = t.place) (hn : u.name = t.name) (ho : u.op = t.op) (ok : LvOK u) : Lvs ls u := by
  cases h with
  | base _ h0 _ => exact .base _ (hp.trans h0) ok
  | up ls t0 _ h0 _ hu => exact .up ls t0 _ h0 ok (by unfold Up at *; rw [hp, hn, ho]; exact hu)
theorem Lvs.down {ls : List LV} {t u : LV} (h : Lvs (ls ++ [t]) u) : Lvs ls t ∧ Up t u := by
  generalize hl : ls ++ [t] = k at h
  cases h with
  | base _ _ _ => simp at hl
  | up ls0 t0 _ h0 _ hu =>
    obtain ⟨h1, h2⟩ := List.append_inj' hl rfl
    cases h2
    subst h1
    exact ⟨h0, hu⟩
theorem leaf_one (t : List UInt8) (place : Nat) (h : litGo place t = true) (hn : t ≠ []) : oneB (PT.leaf 1 t) place = true := by
  unfold PT.leaf oneB litB
  simp [noCmds, cmdsLen, h, hn]
theorem flush_lit (l : LV) : l.flush.lit = [] := by
  unfold LV.flush
  split
  · assumption
  · rfl
/-- A part is added that is no literal. -/
theorem LvOK.add {l : LV} (h : LvOK l) (p : PT) (hk : p.k ≠ 1) (hp : oneB p l.place = true) (hj : l.lit.getLast? = some 36 → p.k ≠ 5 ∧ p.k ≠ 6 ∧ p.k ≠ 7) : LvOK { l.flush with parts := l.flush.parts ++ [p] } := by
  have hpl : l.flush.place = l.place := flush_place l
  have hop : l.flush.op = l.op := by unfold LV.flush; split <;> rfl
  have hlit : l.flush.lit = [] := flush_lit l
  have hbad : LV.bad { l.flush with parts := l.flush.parts ++ [p] } = l.bad := by unfold LV.bad; simp only [hpl, hop]
  refine ⟨?_, fun q hq => ?_, ?_, fun b hb => ?_⟩
  · show allB (l.flush.parts ++ [p]) l.flush.place = true
    rw [hpl, allB_snoc]
    unfold LV.flush
    by_cases hn : l.lit = []
    · rw [if_pos hn]
      simp only [h.all, hp, Bool.true_and]
      cases hg : l.parts.getLast? with
      | none => rfl
      | some q => have := h.last q hg; simp [jointB, this]
    · rw [if_neg hn]
      have h1 : allB (l.parts ++ [PT.leaf 1 l.lit]) l.place = true := by
        rw [allB_snoc, h.all, leaf_one _ _ h.lit hn]
        simp only [Bool.true_and]
        cases hg : l.parts.getLast? with
        | none => rfl
        | some q => have := h.last q hg; simp [jointB, this]
      simp only [h1, hp, Bool.true_and, List.getLast?_append, List.getLast?_singleton, Option.some_or]
      unfold jointB
      simp only [PT.leaf, PT.k, PT.text]
      by_cases h36 : l.lit.getLast? = some 36
      · obtain ⟨a, b, c⟩ := hj h36
        have ha : (p.k == 5) = false := by simpa using a
        have hb : (p.k == 6) = false := by simpa using b
        have hc : (p.k == 7) = false := by simpa using c
        have hk1 : (p.k != 1) = true := by simpa using hk
        simp only [PT.k] at ha hb hc hk1 ⊢
        simp [ha, hb, hc, hk1]
      · have hk1 : (p.k != 1) = true := by simpa using hk
        have hl : (l.lit.getLastD 0 == 36) = false := by
          cases hg : l.lit.getLast? with
          | none => exact absurd (List.getLast?_eq_none_iff.1 hg) hn
          | some x =>
            rw [List.getLastD_eq_getLast?, hg]
            simp only [Option.getD_some]
            simpa using fun e => h36 (by rw [hg, e])
        simp only [PT.k] at hk1 ⊢
        rw [hl]
        simp [hk1]
  · simp only [List.getLast?_append, List.getLast?_singleton, Option.some_or, Option.some.injEq] at hq
    rw [← hq]; exact hk
  · show litGo l.flush.place l.flush.lit = true
    rw [hlit]; rfl
  · rw [hbad] at hb
    obtain ⟨f1, f2⟩ := h.front b hb
    refine ⟨fun q r hqr hq1 => ?_, fun h0 => ?_⟩
    · have hqr2 : l.flush.parts ++ [p] = q :: r := hqr
      unfold LV.flush at hqr2
      by_cases hn : l.lit = []
      · rw [if_pos hn] at hqr2
        cases hpp : l.parts with
        | nil =>
          rw [hpp] at hqr2
          simp only [List.nil_append, List.cons.injEq] at hqr2
          rw [← hqr2.1] at hq1
          exact absurd hq1 hk
        | cons a s =>
          rw [hpp] at hqr2
          simp only [List.cons_append, List.cons.injEq] at hqr2
          rw [← hqr2.1] at hq1 ⊢
          exact f1 a s hpp hq1
      · rw [if_neg hn] at hqr2
        cases hpp : l.parts with
        | nil =>
          rw [hpp] at hqr2
          simp only [List.nil_append, List.cons_append, List.cons.injEq] at hqr2
          rw [← hqr2.1]
          exact f2 hpp
        | cons a s =>
          rw [hpp] at hqr2
          simp only [List.cons_append, List.cons.injEq] at hqr2
          rw [← hqr2.1] at hq1 ⊢
          exact f1 a s hpp hq1
    · have : l.flush.parts ++ [p] = [] := h0
      simp at this
end Go.Proofs.Ytpadnckmheippaa

namespace Go.Proofs.Ytpadnckmheippaa
open Go
set_option linter.unusedVariables false
structure KOK (m : MS) : Prop where
  d36 : m.top.lit.getLast? = some 36 → m.kind = 1 ∨ m.kind = 12
  opn : m.kind = 0 → m.top.parts = [] → m.top.lit = [] → m.top.bad = none
  bare : m.kind = 4 ∨ m.kind = 7 → nameB m.buf = true
  dig : m.kind = 8 → digitsB m.buf = true
  par : m.kind = 9 ∨ m.kind = 10 ∨ m.kind = 11 → paramText m.buf = true
  noh : m.kind = 7 ∨ m.kind = 8 ∨ m.kind = 9 ∨ m.kind = 10 ∨ m.kind = 11 → m.length = false → m.buf ≠ [35]
  len : m.kind = 10 ∨ m.kind = 11 → m.length = false
  hsh : m.kind = 6 → m.length = true
  cut : m.kind = 11 → m.cut = 37 ∨ m.cut = 35
  sgl : m.kind = 12 → m.top.place ≠ 1 ∧ clearB m.buf 39 = true
  ari : m.kind = 13 → arithRun 0 m.buf = some m.deep
  arj : m.kind = 14 → arithRun 0 m.buf = some 0
structure Inv (m : MS) : Prop where
  lvs : Lvs m.lower m.top
  k : KOK m
/-- A word that ended. -/
def EndOK (m : MS) : Prop := rightB m.top.parts = true
def After (r : MS × Nat) : Prop := (r.2 = 0 → Inv r.1) ∧ (r.2 = 1 → EndOK r.1)

theorem KOK.zero {m : MS} (hk : m.kind = 0) (h36 : m.top.lit.getLast? ≠ some 36) (ho : m.top.parts = [] → m.top.lit = [] → m.top.bad = none) : KOK m :=
  ⟨fun h => absurd h h36, fun _ => ho, fun h => by omega, fun h => by omega, fun h => by omega, fun h => by omega, fun h => by omega, fun h => by omega, fun h => by omega, fun h => by omega, fun h => by omega, fun h => by omega⟩
/-- A kind of which nothing is asked. -/
theorem KOK.easy {m : MS} (k : Nat) (hk : m.kind = k) (h36 : m.top.lit.getLast? = some 36 → k = 1) (hp : k = 1 ∨ k = 2 ∨ k = 3 ∨ k = 5) : KOK m :=
  ⟨fun h => .inl (by rw [hk, h36 h]), fun h => by omega, fun h => by omega, fun h => by omega, fun h => by omega, fun h => by omega, fun h => by omega, fun h => by omega, fun h => by omega, fun h => by omega, fun h => by omega, fun h => by omega⟩
theorem flush_all {l : LV} (h : LvOK l) : allB l.flush.parts l.place = true := by
  unfold LV.flush
  by_cases hn : l.lit = []
  · rw [if_pos hn]; exact h.all
  · rw [if_neg hn]
    show allB (l.parts ++ [PT.leaf 1 l.lit]) l.place = true
    rw [allB_snoc, h.all, leaf_one _ _ h.lit hn]
    simp only [Bool.true_and]
    cases hg : l.parts.getLast? with
    | none => rfl
    | some q => have := h.last q hg; simp [jointB, this]
/-- The first part behind a flush is no literal that begins so. -/
theorem flush_front {l : LV} (h : LvOK l) (b : UInt8) (hb : l.bad = some b) : ∀ p r, l.flush.parts = p :: r → p.k = 1 → p.text.head? ≠ some b := by
  obtain ⟨f1, f2⟩ := h.front b hb
  intro p r hp hk
  unfold LV.flush at hp
  by_cases hn : l.lit = []
  · rw [if_pos hn] at hp; exact f1 p r hp hk
  · rw [if_neg hn] at hp
    cases hpp : l.parts with
    | nil =>
      have hp2 : l.parts ++ [PT.leaf 1 l.lit] = p :: r := hp
      rw [hpp] at hp2
      simp only [List.nil_append, List.cons.injEq] at hp2
      rw [← hp2.1]
      exact f2 hpp
    | cons a s =>
      have hp2 : l.parts ++ [PT.leaf 1 l.lit] = p :: r := hp
      rw [hpp] at hp2
      simp only [List.cons_append, List.cons.injEq] at hp2
      rw [← hp2.1] at hk ⊢
      exact f1 a s hpp hk
theorem Lvs.bottom {ls : List LV} {u : LV} (h : Lvs ls u) (h0 : ls = []) : u.place = 0 := by
  cases h with
  | base _ h _ => exact h
  | up ls t u h ok hu => simp at h0
/-- A part is added at the last level. -/
theorem inv_add {m : MS} (hl : Lvs m.lower m.top) (p : PT) (hk : p.k ≠ 1) (hp : oneB p m.top.place = true) (hj : m.top.lit.getLast? = some 36 → p.k ≠ 5 ∧ p.k ≠ 6 ∧ p.k ≠ 7) : Inv ((m.add p).turn 0) ∧ Lvs (m.add p).lower (m.add p).top := by
  have h1 := hl.ok.add p hk hp hj
  have h2 : Lvs (m.add p).lower (m.add p).top := by
    refine hl.turn ?_ ?_ ?_ h1
    · exact flush_place m.top
    · show m.top.flush.name = m.top.name; unfold LV.flush; split <;> rfl
    · show m.top.flush.op = m.top.op; unfold LV.flush; split <;> rfl
  have hlit : (m.add p).top.lit = [] := flush_lit m.top
  refine ⟨⟨h2, KOK.zero rfl (by show (m.add p).top.lit.getLast? ≠ _; rw [hlit]; simp) (fun h => ?_)⟩, h2⟩
  have : m.top.flush.parts ++ [p] = [] := h
  simp at this
theorem opB_ne {o : List UInt8} (h : opB o = true) : ¬ (o = [] ∨ o = [108, 101, 110]) := by
  rintro (rfl | rfl) <;> revert h <;> decide
theorem inv_pop {m : MS} (hl : Lvs m.lower m.top) (hp : m.top.place = 1 ∨ m.top.place = 2) : Inv m.pop := by
  rcases List.eq_nil_or_concat m.lower with h0 | ⟨ls, t, h0⟩
  · have := hl.bottom h0
    omega
  rw [List.concat_eq_append] at h0
  have hl2 := hl
  rw [h0] at hl2
  obtain ⟨h1, hu⟩ := hl2.down
  have hall := flush_all hl.ok
  unfold MS.pop
  have hpl : m.top.flush.place = m.top.place := flush_place _
  have hnm : m.top.flush.name = m.top.name := by unfold LV.flush; split <;> rfl
  have hop : m.top.flush.op = m.top.op := by unfold LV.flush; split <;> rfl
  refine (inv_add (m := { m with lower := m.lower.dropLast, top := m.lower.getLastD {} }) ?_ (MS.closed m.top.flush) ?_ ?_ ?_).1
  · simp only [h0, List.dropLast_concat, List.getLastD_concat]; exact h1
  · unfold MS.closed; split <;> (show (_ : Int) ≠ 1) <;> simp [PT.k]
  · simp only [h0, List.getLastD_concat]
    rcases hu with ⟨a, b⟩ | ⟨a, b, c, d, e⟩
    · unfold MS.closed
      rw [if_neg (by rw [hpl, a]; decide)]
      unfold oneB
      rw [a] at hall
      simp [noCmds, cmdsLen, b, hall]
    · unfold MS.closed
      rw [if_pos (by rw [hpl, a])]
      rw [hnm, hop]
      rw [a] at hall
      have hfr : frontB m.top.op m.top.flush.parts = true := by
        unfold frontB
        by_cases h37 : m.top.op = [37] ∨ m.top.op = [35]
        · cases hpp : m.top.flush.parts with
          | nil => simp
          | cons p r =>
            have hb : m.top.bad = some (m.top.op.headD 0) := by
              unfold LV.bad
              rw [if_neg (by omega)]
              rcases h37 with h | h <;> rw [h] <;> decide
            have hf := flush_front hl.ok _ hb p r hpp
            by_cases hk1 : p.k = 1
            · have hh := hf hk1
              have hone : oneB p 2 = true := by
                rw [hpp] at hall
                simp only [allB, Bool.and_eq_true] at hall
                exact hall.1.1
              cases p with
              | mk k t o kids cc =>
                simp only [PT.k] at hk1
                subst hk1
                simp only [PT.text] at hh ⊢
                have : t ≠ [] := by
                  rintro rfl
                  simp [oneB, litB] at hone
                cases t with
                | nil => exact absurd rfl this
                | cons x y =>
                  have hx : x ≠ m.top.op.headD 0 := fun e => hh (by simp [e])
                  have hx2 : (x != m.top.op.headD 0) = true := bne_iff_ne.2 hx
                  show (!(m.top.op == [37] || m.top.op == [35]) || ((1 : Int) != 1 || x != m.top.op.headD 0)) = true
                  rw [hx2]
                  simp
            · simp [hk1]
        · have h1 : (m.top.op == [37]) = false := by simpa using fun e => h37 (.inl e)
          have h2 : (m.top.op == [35]) = false := by simpa using fun e => h37 (.inr e)
          simp [h1, h2]
      have hne := opB_ne d
      unfold oneB
      simp [noCmds, cmdsLen, c, d, e, hall, hfr, hne]
  · simp only [h0, List.getLastD_concat]
    intro hlast
    rcases hu with ⟨a, b⟩ | ⟨a, b, c, d, e⟩
    · unfold MS.closed
      rw [if_neg (by rw [hpl, a]; decide)]
      exact ⟨(by show (4 : Int) ≠ 5; decide), (by show (4 : Int) ≠ 6; decide), (by show (4 : Int) ≠ 7; decide)⟩
    · exact absurd hlast b
theorem class_val (c : UInt8) : classOf c ≤ 8 := by
  unfold classOf
  repeat' split
  all_goals decide
theorem class_zero {c : UInt8} (h : classOf c = 0) : c = 0 := by
  unfold classOf at h
  by_cases h0 : c = 0
  · exact h0
  · rw [if_neg h0] at h
    exfalso
    revert h
    repeat' split
    all_goals decide
theorem class_quote {c : UInt8} (h : classOf c = 6) : c = 39 ∨ c = 34 ∨ c = 92 ∨ c = 96 := by
  unfold classOf at h
  by_cases h0 : c = 39 ∨ c = 34 ∨ c = 92 ∨ c = 96
  · exact h0
  · exfalso
    revert h
    repeat' split
    all_goals first | decide | (intro _; contradiction)
/-- A byte of a level itself. -/
theorem text_inv {m : MS} (hl : Lvs m.lower m.top) (hk : m.kind = 0) (c : UInt8) (h36 : m.top.lit.getLast? = some 36 → okAfter c = true) (hopn : m.top.parts = [] → m.top.lit = [] → m.top.bad = none ∨ ∃ b, m.top.bad = some b ∧ c ≠ b ∧ ¬ (m.top.place = 0 ∧ (classOf c = 1 ∨ classOf c = 2 ∨ classOf c = 5))) : After (m.text c) := by
  have hok := hl.ok
  have h36b : c = 36 → m.top.lit.getLast? ≠ some 36 := fun e h => by have := h36 h; rw [e] at this; revert this; decide
  unfold MS.text
  by_cases c1 : c = 0 ∨ c = 96
  · rw [if_pos c1]; exact ⟨(fun h => by cases h), (fun h => by cases h)⟩
  rw [if_neg c1]
  by_cases c2 : m.top.place = 0 ∧ (classOf c = 1 ∨ classOf c = 2 ∨ classOf c = 5)
  · rw [if_pos c2]
    refine ⟨(fun h => by cases h), fun _ => ?_⟩
    show rightB m.top.flush.parts = true
    have hb : m.top.bad = some 35 := by unfold LV.bad; rw [if_pos c2.1]
    have hne : m.top.flush.parts ≠ [] := by
      unfold LV.flush
      by_cases hn : m.top.lit = []
      · rw [if_pos hn]
        intro h0
        rcases hopn h0 hn with h | ⟨b, h⟩
        · rw [hb] at h; cases h
        · exact h.2.2 c2
      · rw [if_neg hn]; simp
    have hall := flush_all hok
    rw [c2.1] at hall
    have hfr := flush_front hok 35 hb
    unfold rightB
    cases hpp : m.top.flush.parts with
    | nil => exact absurd hpp hne
    | cons p r =>
      rw [hpp] at hall
      simp only [hall, List.isEmpty_cons, Bool.not_false, Bool.true_and, Bool.or_eq_true]
      by_cases hk1 : p.k = 1
      · right
        have hh := hfr p r hpp hk1
        have hone : oneB p 0 = true := by
          simp only [allB, Bool.and_eq_true] at hall
          exact hall.1.1
        cases p with
        | mk k t o kids cc =>
          simp only [PT.k] at hk1
          subst hk1
          simp only [PT.text] at hh ⊢
          cases t with
          | nil => simp [oneB, litB] at hone
          | cons x y => simpa using hh
      · left; simpa using hk1
  rw [if_neg c2]
  by_cases c3 : (m.top.place = 1 ∧ c = 34) ∨ (m.top.place = 2 ∧ c = 125)
  · rw [if_pos c3]
    exact ⟨fun _ => inv_pop hl (by omega), (fun h => by cases h)⟩
  rw [if_neg c3]
  by_cases c4 : c = 92
  · rw [if_pos c4]
    exact ⟨fun _ => ⟨hl, KOK.easy 1 rfl (fun _ => rfl) (by decide)⟩, (fun h => by cases h)⟩
  rw [if_neg c4]
  by_cases c5 : c = 39 ∧ m.top.place ≠ 1
  · rw [if_pos c5]
    exact ⟨fun _ => ⟨hl, ⟨fun _ => .inr rfl, (fun h => by cases h), (fun h => by rcases h with h | h <;> cases h), (fun h => by cases h), (fun h => by rcases h with h | h | h <;> cases h), (fun h => by rcases h with h | h | h | h | h <;> cases h), (fun h => by rcases h with h | h <;> cases h), (fun h => by cases h), (fun h => by cases h), fun _ => ⟨c5.2, rfl⟩, (fun h => by cases h), (fun h => by cases h)⟩⟩, (fun h => by cases h)⟩
  rw [if_neg c5]
  by_cases c6 : c = 34
  · rw [if_pos c6]
    refine ⟨fun _ => ⟨?_, KOK.zero rfl (by show ([] : List UInt8).getLast? ≠ _; simp) (fun _ _ => rfl)⟩, (fun h => by cases h)⟩
    exact .up m.lower m.top { place := 1 } hl ⟨rfl, (fun p hp => by cases hp), rfl, (fun b hb => by cases hb)⟩ (.inl ⟨rfl, fun h => c3 (.inl ⟨h, c6⟩)⟩)
  rw [if_neg c6]
  by_cases c7 : c = 36
  · rw [if_pos c7]
    exact ⟨fun _ => ⟨hl, KOK.easy 2 rfl (fun h => absurd h (h36b c7)) (by decide)⟩, (fun h => by cases h)⟩
  rw [if_neg c7]
  refine ⟨fun _ => ?_, (fun h => by cases h)⟩
  have hone : litOne m.top.place c [] = true := by
    have e0 : classOf c ≠ 0 := fun h => c1 (.inl (class_zero h))
    have e6 : m.top.place ≠ 1 → classOf c ≠ 6 := fun hp h => by
      rcases class_quote h with h | h | h | h
      · exact c5 ⟨h, hp⟩
      · exact c6 h
      · exact c4 h
      · exact c1 (.inr h)
    have e8 := class_val c
    unfold litOne
    simp only [Bool.and_eq_true, Bool.or_eq_true]
    refine ⟨⟨⟨⟨by simpa using e0, .inl (by simpa using c7)⟩, ?_⟩, ?_⟩, ?_⟩
    · by_cases hp : m.top.place = 0
      · right
        have h6 := e6 (by omega)
        have h125 : ¬ (classOf c = 1 ∨ classOf c = 2 ∨ classOf c = 5) := fun h => c2 ⟨hp, h⟩
        have : classOf c = 3 ∨ classOf c = 4 ∨ classOf c = 8 ∨ classOf c = 7 := by omega
        rcases this with h | h | h | h <;> simp [h]
      · left; simpa using hp
    · by_cases hp : m.top.place = 2
      · right
        have h6 := e6 (by omega)
        have hc : c ≠ 125 := fun h => c3 (.inr ⟨hp, h⟩)
        simp [h6, hc]
      · left; simpa using hp
    · by_cases hp : m.top.place = 1
      · right
        refine ⟨⟨by simpa using c6, ?_⟩, .inl (by simpa using c4)⟩
        have : c ≠ 96 := fun h => c1 (.inr h)
        simpa using this
      · left; simpa using hp
  refine ⟨hl.turn rfl rfl rfl ⟨hok.all, hok.last, litGo_snoc _ _ _ hok.lit hone h36, fun b hb => ?_⟩, KOK.zero hk (by show (m.top.lit ++ [c]).getLast? ≠ _; simpa using c7) (fun _ h => by have : m.top.lit ++ [c] = [] := h; simp at this)⟩
  have hb2 : m.top.bad = some b := hb
  obtain ⟨f1, f2⟩ := hok.front b hb2
  refine ⟨f1, fun h0 => ?_⟩
  show (m.top.lit ++ [c]).head? ≠ some b
  cases hlit : m.top.lit with
  | nil =>
    rcases hopn h0 hlit with h | ⟨b', h⟩
    · rw [hb2] at h; cases h
    · rw [hb2] at h
      obtain ⟨h1, h2, _⟩ := h
      cases h1
      simpa using h2
  | cons x y =>
    have := f2 h0
    rw [hlit] at this
    simpa using this
end Go.Proofs.Ytpadnckmheippaa

namespace Go.Proofs.Ytpadnckmheippaa
open Go
set_option linter.unusedVariables false
theorem After.none {r : MS × Nat} (h : r.2 ≠ 0) (h1 : r.2 ≠ 1) : After r := ⟨fun e => absurd e h, fun e => absurd e h1⟩
theorem after_dead (m : MS) : After (m.turn 17, 3) := .none (show 3 ≠ 0 by decide) (show 3 ≠ 1 by decide)
theorem after_goes {m : MS} (h : Inv m) : After (m, 0) := ⟨fun _ => h, (fun e => by cases e)⟩
theorem name_snoc {l : List UInt8} {c : UInt8} (h : nameB l = true) (hc : classOf c = 4 ∨ classOf c = 3) : nameB (l ++ [c]) = true := by
  cases l with
  | nil => cases h
  | cons a r =>
    simp only [nameB, Bool.and_eq_true] at h
    simp only [List.cons_append, nameB, Bool.and_eq_true, List.all_append, List.all_cons, List.all_nil, Bool.and_true]
    refine ⟨h.1, h.2, ?_⟩
    rcases hc with h | h <;> simp [h]
theorem digits_snoc {l : List UInt8} {c : UInt8} (h : digitsB l = true) (hc : classOf c = 3) : digitsB (l ++ [c]) = true := by
  unfold digitsB at *
  simp only [Bool.and_eq_true] at h ⊢
  refine ⟨by cases l <;> rfl, ?_⟩
  simp [h.2, hc]
theorem arith_snoc (n : Nat) (l : List UInt8) (c : UInt8) : arithRun n (l ++ [c]) = (arithRun n l).bind fun k => arithRun k [c] := by
  induction l generalizing n with
  | nil => rfl
  | cons a r ih =>
    rw [List.cons_append, arithRun, arithRun]
    by_cases h0 : a = 0
    · rw [if_pos h0, if_pos h0]; rfl
    rw [if_neg h0, if_neg h0]
    by_cases h1 : a = 40
    · rw [if_pos h1, if_pos h1]; exact ih _
    rw [if_neg h1, if_neg h1]
    by_cases h2 : a = 41
    · rw [if_pos h2, if_pos h2]
      by_cases h3 : n = 0
      · rw [if_pos h3, if_pos h3]; rfl
      · rw [if_neg h3, if_neg h3]; exact ih _
    · rw [if_neg h2, if_neg h2]; exact ih _
theorem leaf5 {t : List UInt8} {place : Nat} (h : paramText t = true) : oneB (PT.leaf 5 t) place = true := by
  unfold PT.leaf oneB
  simp [noCmds, cmdsLen, h]
theorem param_name {t : List UInt8} (h : nameB t = true) : paramText t = true := by simp [paramText, h]
theorem param_digits {t : List UInt8} (h : digitsB t = true) : paramText t = true := by simp [paramText, h]
theorem param_special {c : UInt8} (h : special c = true) : paramText [c] = true := by simp [paramText, h]
/-- A parameter is added. -/
theorem inv_param {m : MS} (h : Lvs m.lower m.top) (h36 : m.top.lit.getLast? ≠ some 36) (p : PT) (hk : p.k ≠ 1) (hp : oneB p m.top.place = true) : After ((m.add p).turn 0, 0) :=
  after_goes (inv_add h p hk hp (fun e => absurd e h36)).1
/-- What is behind an operator is opened. -/
theorem oper_lvs {m : MS} (h : Lvs m.lower m.top) (h36 : m.top.lit.getLast? ≠ some 36) (hpar : paramText m.buf = true) (hnh : m.buf ≠ [35]) (op : List UInt8) (hop : opB op = true) : Lvs (m.operator op).lower (m.operator op).top := by
  refine .up m.lower m.top { place := 2, name := m.buf, op := op } h ⟨rfl, (fun p hp => by cases hp), rfl, fun b hb => ⟨(fun p r hp => by cases hp), fun _ => by simp⟩⟩ (.inr ⟨rfl, h36, hpar, hop, hnh⟩)
theorem oper_after {m : MS} (h : Lvs m.lower m.top) (h36 : m.top.lit.getLast? ≠ some 36) (hpar : paramText m.buf = true) (hnh : m.buf ≠ [35]) (op : List UInt8) (hop : opB op = true) (h37 : op ≠ [37]) (h35 : op ≠ [35]) : After (m.operator op, 0) := by
  refine after_goes ⟨oper_lvs h h36 hpar hnh op hop, KOK.zero rfl (by show ([] : List UInt8).getLast? ≠ _; simp) (fun _ _ => ?_)⟩
  show LV.bad { place := 2, name := m.buf, op := op } = none
  unfold LV.bad
  simp [h37, h35]
theorem param_after {m : MS} (h : Lvs m.lower m.top) (h36 : m.top.lit.getLast? ≠ some 36) (c : UInt8) (hc : m.length = false → c ≠ 35) : After (m.parameter c) := by
  have hk : ∀ k, k = 7 ∨ k = 8 ∨ k = 9 → (k = 7 → nameB [c] = true) → (k = 8 → digitsB [c] = true) → (k = 9 → paramText [c] = true) → After (({ m with buf := [c] } : MS).turn k, 0) := fun k hk h7 h8 h9 => by
    refine after_goes ⟨h, ⟨fun e => absurd e h36, ?_, ?_, ?_, ?_, ?_, ?_, ?_, ?_, ?_, ?_, ?_⟩⟩
    · intro e; have : k = 0 := e; omega
    · intro e; have : k = 4 ∨ k = 7 := e; exact h7 (by omega)
    · intro e; exact h8 e
    · intro e; have : k = 9 ∨ k = 10 ∨ k = 11 := e; exact h9 (by omega)
    · intro _ hl; have := hc hl; show [c] ≠ [35]; simpa using this
    · intro e; have : k = 10 ∨ k = 11 := e; omega
    · intro e; have : k = 6 := e; omega
    · intro e; have : k = 11 := e; omega
    · intro e; have : k = 12 := e; omega
    · intro e; have : k = 13 := e; omega
    · intro e; have : k = 14 := e; omega
  unfold MS.parameter
  simp only
  by_cases c4 : classOf c = 4
  · rw [if_pos c4]; exact hk 7 (by decide) (fun _ => by simp [nameB, c4]) (fun e => by omega) (fun e => by omega)
  rw [if_neg c4]
  by_cases c3 : classOf c = 3
  · rw [if_pos c3]; exact hk 8 (by decide) (fun e => by omega) (fun _ => by simp [digitsB, c3]) (fun e => by omega)
  rw [if_neg c3]
  by_cases cs : special c = true
  · rw [if_pos cs]; exact hk 9 (by decide) (fun e => by omega) (fun e => by omega) (fun _ => param_special cs)
  rw [if_neg cs]
  exact after_dead _
theorem behind_after {m : MS} (h : Lvs m.lower m.top) (h36 : m.top.lit.getLast? ≠ some 36) (hpar : paramText m.buf = true) (hnh : m.length = false → m.buf ≠ [35]) (c : UInt8) : After (m.behind c) := by
  unfold MS.behind
  by_cases c1 : c = 125
  · rw [if_pos c1]
    refine inv_param h h36 _ (show (5 : Int) ≠ 1 by decide) ?_
    unfold oneB
    cases m.length <;> simp [noCmds, cmdsLen, hpar]
  rw [if_neg c1]
  by_cases c2 : m.length = true
  · rw [if_pos c2]; exact after_dead m
  rw [if_neg c2]
  have hlf : m.length = false := by simpa using c2
  have hb := hnh hlf
  by_cases c3 : c = 58
  · rw [if_pos c3]
    exact after_goes ⟨h, ⟨fun e => absurd e h36, (fun e => by cases e), (fun e => by rcases e with e | e <;> cases e), (fun e => by cases e), fun _ => hpar, fun _ _ => hb, fun _ => hlf, (fun e => by cases e), (fun e => by cases e), (fun e => by cases e), (fun e => by cases e), (fun e => by cases e)⟩⟩
  rw [if_neg c3]
  by_cases c4 : c = 37 ∨ c = 35
  · rw [if_pos c4]
    exact after_goes ⟨h, ⟨fun e => absurd e h36, (fun e => by cases e), (fun e => by rcases e with e | e <;> cases e), (fun e => by cases e), fun _ => hpar, fun _ _ => hb, fun _ => hlf, (fun e => by cases e), fun _ => c4, (fun e => by cases e), (fun e => by cases e), (fun e => by cases e)⟩⟩
  rw [if_neg c4]
  by_cases c5 : single1 c = true
  · rw [if_pos c5]
    have hc : c = 45 ∨ c = 61 ∨ c = 63 ∨ c = 43 := by
      have : [45, 61, 63, 43].contains c = true := c5
      simpa [List.contains_cons] using this
    refine oper_after h h36 hpar hb [c] ?_ ?_ ?_ <;> rcases hc with rfl | rfl | rfl | rfl <;> decide
  rw [if_neg c5]
  exact after_dead m
theorem kok_buf {m : MS} (h : KOK m) (b : List UInt8) (hk : m.kind = 4 ∨ m.kind = 7 ∨ m.kind = 8) (h4 : m.kind = 4 ∨ m.kind = 7 → nameB b = true) (h8 : m.kind = 8 → digitsB b = true) (hb : m.kind = 7 ∨ m.kind = 8 → b ≠ [35]) : KOK { m with buf := b } :=
  ⟨h.d36, h.opn, h4, h8, fun e => by have : m.kind = 9 ∨ m.kind = 10 ∨ m.kind = 11 := e; omega, fun e _ => by
      have : m.kind = 7 ∨ m.kind = 8 ∨ m.kind = 9 ∨ m.kind = 10 ∨ m.kind = 11 := e
      exact hb (by omega), h.len, h.hsh, h.cut, fun e => by have : m.kind = 12 := e; omega, fun e => by have : m.kind = 13 := e; omega, fun e => by have : m.kind = 14 := e; omega⟩
theorem single_ops {c : UInt8} (h : single1 c = true) : c = 45 ∨ c = 61 ∨ c = 63 ∨ c = 43 := by
  have : [45, 61, 63, 43].contains c = true := h
  simpa [List.contains_cons] using this
theorem next_inv {m : MS} (h : Inv m) (hk : m.kind ≤ 14) (c : UInt8) : After (m.next c) := by
  have L := h.lvs
  have K := h.k
  have hc : m.kind = 0 ∨ m.kind = 1 ∨ m.kind = 2 ∨ m.kind = 3 ∨ m.kind = 4 ∨ m.kind = 5 ∨ m.kind = 6 ∨ m.kind = 7 ∨ m.kind = 8 ∨ m.kind = 9 ∨ m.kind = 10 ∨ m.kind = 11 ∨ m.kind = 12 ∨ m.kind = 13 ∨ m.kind = 14 := by omega
  have h36 : m.kind ≠ 1 → m.kind ≠ 12 → m.top.lit.getLast? ≠ some 36 := fun a b e => by rcases K.d36 e with e | e <;> contradiction
  rcases hc with e | e | e | e | e | e | e | e | e | e | e | e | e | e | e
  · rw [next_0 m c e]
    exact text_inv L e c (fun h => absurd h (h36 (by omega) (by omega))) (fun a b => .inl (K.opn e a b))
  · rw [next_1 m c e]
    unfold MS.escaped
    by_cases c1 : c = 0 ∨ c = 10
    · rw [if_pos c1]; exact after_dead m
    rw [if_neg c1]
    by_cases c2 : m.top.place = 1 ∧ quotes c = false
    · rw [if_pos c2]
      have hq36 : c ≠ 36 := by rintro rfl; exact absurd c2.2 (by decide)
      have hlit : litGo m.top.place (m.top.lit ++ [92, c]) = true := by
        rw [c2.1]
        exact litGo_esc _ _ (c2.1 ▸ L.ok.lit) c2.2 (fun h => c1 (.inl h)) (fun h => c1 (.inr h))
      have hbad : m.top.bad = none ∨ ∃ b, m.top.bad = some b := by cases m.top.bad <;> simp
      have hok : LvOK { m.top with lit := m.top.lit ++ [92, c] } := ⟨L.ok.all, L.ok.last, hlit, fun b hb => by
        have hb2 : m.top.bad = some b := hb
        obtain ⟨f1, f2⟩ := L.ok.front b hb2
        refine ⟨f1, fun h0 => ?_⟩
        show (m.top.lit ++ [92, c]).head? ≠ some b
        cases hl : m.top.lit with
        | nil =>
          simp only [List.nil_append, List.head?_cons, ne_eq, Option.some.injEq]
          unfold LV.bad at hb2
          rw [if_neg (by omega)] at hb2
          rintro rfl
          revert hb2
          repeat' split
          all_goals simp
        | cons x y =>
          have := f2 h0
          rw [hl] at this
          simpa using this⟩
      exact after_goes ⟨L.turn rfl rfl rfl hok, KOK.zero rfl (by show (m.top.lit ++ [92, c]).getLast? ≠ _; simp [hq36]) (fun _ h => by have : m.top.lit ++ [92, c] = [] := h; simp at this)⟩
    rw [if_neg c2]
    have hp : oneB (PT.leaf 2 [c]) m.top.place = true := by
      unfold PT.leaf oneB
      have a : c ≠ 0 := fun h => c1 (.inl h)
      have b : c ≠ 10 := fun h => c1 (.inr h)
      by_cases hp1 : m.top.place = 1
      · have hq : quotes c = true := by
          cases hq : quotes c with
          | true => rfl
          | false => exact absurd ⟨hp1, hq⟩ c2
        simp [noCmds, cmdsLen, a, b, hq]
      · simp [noCmds, cmdsLen, a, b, hp1]
    exact after_goes (inv_add (m := { m with took := m.took ++ [c] }) L (.leaf 2 [c]) (show (2 : Int) ≠ 1 by decide) hp (fun _ => (by decide : (2 : Int) ≠ 5 ∧ (2 : Int) ≠ 6 ∧ (2 : Int) ≠ 7))).1
  · rw [next_2 m c e]
    have hd := h36 (by omega) (by omega)
    unfold MS.dollar
    simp only
    by_cases c1 : c = 123
    · rw [if_pos c1]; exact after_goes ⟨L, KOK.easy 5 rfl (fun h => absurd h hd) (by decide)⟩
    rw [if_neg c1]
    by_cases c2 : c = 40
    · rw [if_pos c2]; exact after_goes ⟨L, KOK.easy 3 rfl (fun h => absurd h hd) (by decide)⟩
    rw [if_neg c2]
    by_cases c3 : classOf c = 4
    · rw [if_pos c3]
      exact after_goes ⟨L, ⟨fun e => absurd e hd, (fun e => by cases e), fun _ => by show nameB [c] = true; simp [nameB, c3], (fun e => by cases e), (fun e => by rcases e with e | e | e <;> cases e), (fun e => by rcases e with e | e | e | e | e <;> cases e), (fun e => by rcases e with e | e <;> cases e), (fun e => by cases e), (fun e => by cases e), (fun e => by cases e), (fun e => by cases e), (fun e => by cases e)⟩⟩
    rw [if_neg c3]
    by_cases c4 : classOf c = 3 ∨ special c = true
    · rw [if_pos c4]
      refine inv_param (m := { m with exp := true }) L hd (.leaf 5 [c]) (show (5 : Int) ≠ 1 by decide) (leaf5 ?_)
      rcases c4 with h | h
      · exact param_digits (by simp [digitsB, h])
      · exact param_special h
    rw [if_neg c4]
    have hok : LvOK { m.top with lit := m.top.lit ++ [36] } := ⟨L.ok.all, L.ok.last, litGo_snoc _ _ _ L.ok.lit (by
        have h7 : classOf 36 = 7 := by decide
        unfold litOne
        simp [h7]) (fun h => absurd h hd), fun b hb => by
      have hb2 : m.top.bad = some b := hb
      obtain ⟨f1, f2⟩ := L.ok.front b hb2
      refine ⟨f1, fun h0 => ?_⟩
      show (m.top.lit ++ [36]).head? ≠ some b
      cases hl : m.top.lit with
      | nil =>
        simp only [List.nil_append, List.head?_cons, ne_eq, Option.some.injEq]
        rintro rfl
        revert hb2
        unfold LV.bad
        repeat' split
        all_goals simp
      | cons x y =>
        have := f2 h0
        rw [hl] at this
        simpa using this⟩
    refine text_inv (m := (m.lits [36]).turn 0) (L.turn rfl rfl rfl hok) rfl c (fun _ => ?_) (fun _ h => by have : m.top.lit ++ [36] = [] := h; simp at this)
    have c4a : classOf c ≠ 3 := fun h => c4 (.inl h)
    have c4b : special c = false := by
      cases hs : special c with
      | false => rfl
      | true => exact absurd (.inr hs) c4
    simp [okAfter, c1, c2, c3, c4a, c4b]
  · rw [next_3 m c e]
    unfold MS.opened
    by_cases c1 : c = 40
    · rw [if_pos c1]
      have hd := h36 (by omega) (by omega)
      exact after_goes ⟨L, ⟨fun e => absurd e hd, (fun e => by cases e), (fun e => by rcases e with e | e <;> cases e), (fun e => by cases e), (fun e => by rcases e with e | e | e <;> cases e), (fun e => by rcases e with e | e | e | e | e <;> cases e), (fun e => by rcases e with e | e <;> cases e), (fun e => by cases e), (fun e => by cases e), (fun e => by cases e), fun _ => rfl, (fun e => by cases e)⟩⟩
    rw [if_neg c1]
    exact .none (show 2 ≠ 0 by decide) (show 2 ≠ 1 by decide)
  · rw [next_4 m c e]
    have hd := h36 (by omega) (by omega)
    unfold MS.bare
    simp only
    by_cases c1 : classOf c = 4 ∨ classOf c = 3
    · rw [if_pos c1]
      exact after_goes ⟨L, kok_buf K _ (.inl e) (fun _ => name_snoc (K.bare (.inl e)) c1) (fun h => by omega) (fun h => by omega)⟩
    rw [if_neg c1]
    obtain ⟨i1, i2⟩ := inv_add L (.leaf 5 m.buf) (show (5 : Int) ≠ 1 by decide) (leaf5 (param_name (K.bare (.inl e)))) (fun h => absurd h hd)
    refine text_inv (m := (m.add (.leaf 5 m.buf)).turn 0) i2 rfl c (fun h => ?_) (fun h _ => ?_)
    · have hl : (m.add (.leaf 5 m.buf)).top.lit = [] := flush_lit m.top
      have h2 : (m.add (.leaf 5 m.buf)).top.lit.getLast? = some 36 := h
      rw [hl] at h2
      cases h2
    · have : m.top.flush.parts ++ [PT.leaf 5 m.buf] = [] := h
      simp at this
  · rw [next_5 m c e]
    have hd := h36 (by omega) (by omega)
    unfold MS.head
    by_cases c1 : c = 35
    · rw [if_pos c1]
      exact after_goes ⟨L, ⟨fun e => absurd e hd, (fun e => by cases e), (fun e => by rcases e with e | e <;> cases e), (fun e => by cases e), (fun e => by rcases e with e | e | e <;> cases e), (fun e => by rcases e with e | e | e | e | e <;> cases e), (fun e => by rcases e with e | e <;> cases e), fun _ => rfl, (fun e => by cases e), (fun e => by cases e), (fun e => by cases e), (fun e => by cases e)⟩⟩
    rw [if_neg c1]
    exact param_after (m := { m with length := false }) L hd c (fun _ => c1)
  · rw [next_6 m c e]
    have hd := h36 (by omega) (by omega)
    unfold MS.hash
    by_cases c1 : c = 125
    · rw [if_pos c1]; exact inv_param L hd (.leaf 5 [35]) (show (5 : Int) ≠ 1 by decide) (leaf5 (by decide))
    rw [if_neg c1]
    exact param_after L hd c (fun h => by rw [K.hsh e] at h; cases h)
  · rw [next_7 m c e]
    have hd := h36 (by omega) (by omega)
    unfold MS.named
    simp only
    by_cases c1 : classOf c = 3 ∨ (classOf c = 4 ∧ m.kind = 7)
    · rw [if_pos c1]
      exact after_goes ⟨L, kok_buf K _ (by omega) (fun _ => name_snoc (K.bare (.inr e)) (by omega)) (fun h => by omega) (fun _ h => by
        have hb := K.bare (.inr e)
        cases hbb : m.buf with
        | nil => rw [hbb] at hb; cases hb
        | cons a r => rw [hbb] at h; simp at h)⟩
    rw [if_neg c1]
    exact behind_after (m := m.turn 9) L hd (param_name (K.bare (.inr e))) (K.noh (by omega)) c
  · rw [next_8 m c e]
    have hd := h36 (by omega) (by omega)
    unfold MS.named
    simp only
    by_cases c1 : classOf c = 3 ∨ (classOf c = 4 ∧ m.kind = 7)
    · rw [if_pos c1]
      exact after_goes ⟨L, kok_buf K _ (by omega) (fun h => by omega) (fun _ => digits_snoc (K.dig e) (by omega)) (fun _ h => by
        have hb := K.dig e
        cases hbb : m.buf with
        | nil => rw [hbb] at hb; cases hb
        | cons a r => rw [hbb] at h; simp at h)⟩
    rw [if_neg c1]
    exact behind_after (m := m.turn 9) L hd (param_digits (K.dig e)) (K.noh (by omega)) c
  · rw [next_9 m c e]
    exact behind_after L (h36 (by omega) (by omega)) (K.par (by omega)) (K.noh (by omega)) c
  · rw [next_10 m c e]
    unfold MS.colon
    by_cases c1 : single1 c = false
    · rw [if_pos c1]; exact after_dead m
    rw [if_neg c1]
    have hs := single_ops (by simpa using c1)
    refine oper_after L (h36 (by omega) (by omega)) (K.par (by omega)) (K.noh (by omega) (K.len (by omega))) [58, c] ?_ (by simp) (by simp)
    rcases hs with rfl | rfl | rfl | rfl <;> decide
  · rw [next_11 m c e]
    have hd := h36 (by omega) (by omega)
    have hpar := K.par (by omega)
    have hnh := K.noh (by omega) (K.len (by omega))
    have hcut := K.cut e
    unfold MS.double
    by_cases c1 : c = m.cut
    · rw [if_pos c1]
      refine oper_after L hd hpar hnh [c, c] ?_ (by simp) (by simp)
      rw [c1]
      rcases hcut with h | h <;> rw [h] <;> decide
    rw [if_neg c1]
    have hl := oper_lvs L hd hpar hnh [m.cut] (by rcases hcut with h | h <;> rw [h] <;> decide)
    refine text_inv hl rfl c (fun h => by cases h) (fun _ _ => .inr ⟨m.cut, ?_, c1, fun h => by have := h.1; cases this⟩)
    show LV.bad { place := 2, name := m.buf, op := [m.cut] } = some m.cut
    unfold LV.bad
    rcases hcut with h | h <;> rw [h] <;> rfl
  · rw [next_12 m c e]
    obtain ⟨hp1, hcl⟩ := K.sgl e
    unfold MS.single
    by_cases c1 : c = 0
    · rw [if_pos c1]; exact after_dead m
    rw [if_neg c1]
    by_cases c2 : c = 39
    · rw [if_pos c2]
      refine after_goes (inv_add L (.leaf 3 m.buf) (show (3 : Int) ≠ 1 by decide) ?_ (fun _ => (by decide : (3 : Int) ≠ 5 ∧ (3 : Int) ≠ 6 ∧ (3 : Int) ≠ 7))).1
      unfold PT.leaf oneB
      simp [noCmds, cmdsLen, hp1, hcl]
    rw [if_neg c2]
    refine after_goes ⟨L, ⟨K.d36, K.opn, fun h => by have : m.kind = 4 ∨ m.kind = 7 := h; omega, fun h => by have : m.kind = 8 := h; omega, fun h => by have : m.kind = 9 ∨ m.kind = 10 ∨ m.kind = 11 := h; omega, fun h => by have : m.kind = 7 ∨ m.kind = 8 ∨ m.kind = 9 ∨ m.kind = 10 ∨ m.kind = 11 := h; omega, K.len, K.hsh, K.cut, fun _ => ⟨hp1, ?_⟩, fun h => by have : m.kind = 13 := h; omega, fun h => by have : m.kind = 14 := h; omega⟩⟩
    show clearB (m.buf ++ [c]) 39 = true
    unfold clearB at hcl ⊢
    rw [List.all_append, hcl]
    simp [c1, c2]
  · rw [next_13 m c e]
    have hd := h36 (by omega) (by omega)
    have ha := K.ari e
    have hkk : ∀ (b : List UInt8) (d : Nat), arithRun 0 b = some d → After ({ m with buf := b, deep := d }, 0) := fun b d hb =>
      after_goes ⟨L, ⟨K.d36, K.opn, fun h => by have : m.kind = 4 ∨ m.kind = 7 := h; omega, fun h => by have : m.kind = 8 := h; omega, fun h => by have : m.kind = 9 ∨ m.kind = 10 ∨ m.kind = 11 := h; omega, fun h => by have : m.kind = 7 ∨ m.kind = 8 ∨ m.kind = 9 ∨ m.kind = 10 ∨ m.kind = 11 := h; omega, K.len, K.hsh, K.cut, fun h => by have : m.kind = 12 := h; omega, fun _ => hb, fun h => by have : m.kind = 14 := h; omega⟩⟩
    have hs : ∀ c, arithRun 0 (m.buf ++ [c]) = arithRun m.deep [c] := fun c => by rw [arith_snoc, ha]; rfl
    unfold MS.arith
    by_cases c1 : c = 0
    · rw [if_pos c1]; exact after_dead m
    rw [if_neg c1]
    by_cases c2 : c = 41 ∧ m.deep = 0
    · rw [if_pos c2]
      refine after_goes ⟨L, ⟨fun h => absurd h hd, (fun e => by cases e), (fun e => by rcases e with e | e <;> cases e), (fun e => by cases e), (fun e => by rcases e with e | e | e <;> cases e), (fun e => by rcases e with e | e | e | e | e <;> cases e), (fun e => by rcases e with e | e <;> cases e), (fun e => by cases e), (fun e => by cases e), (fun e => by cases e), (fun e => by cases e), fun _ => by show arithRun 0 m.buf = some 0; rw [ha, c2.2]⟩⟩
    rw [if_neg c2]
    by_cases c3 : c = 41
    · rw [if_pos c3]
      refine hkk _ _ ?_
      have hz : m.deep ≠ 0 := fun h => c2 ⟨c3, h⟩
      rw [hs, c3]
      simp [arithRun, hz]
    rw [if_neg c3]
    by_cases c4 : c = 40
    · rw [if_pos c4]
      refine hkk _ _ ?_
      rw [hs, c4]
      simp [arithRun]
    rw [if_neg c4]
    refine hkk _ m.deep ?_
    rw [hs]
    simp [arithRun, c1, c3, c4]
  · rw [next_14 m c e]
    have hd := h36 (by omega) (by omega)
    unfold MS.arithEnd
    by_cases c1 : c ≠ 41
    · rw [if_pos c1]; exact after_dead m
    rw [if_neg c1]
    refine inv_param L hd (.leaf 7 m.buf) (show (7 : Int) ≠ 1 by decide) ?_
    unfold PT.leaf oneB arithB
    simp [noCmds, cmdsLen, K.arj e]
theorem Inv.plain {m : MS} (h : Inv m) (l : List UInt8) : Inv { m with plain := l } := ⟨h.lvs, ⟨h.k.d36, h.k.opn, h.k.bare, h.k.dig, h.k.par, h.k.noh, h.k.len, h.k.hsh, h.k.cut, h.k.sgl, h.k.ari, h.k.arj⟩⟩
theorem feed_after {m : MS} (c : UInt8) (h : After (m.next c)) : After (m.feed c) := by
  unfold MS.feed
  simp only
  by_cases h0 : (m.next c).2 = 0
  · rw [if_pos h0]
    exact after_goes ((h.1 h0).plain _)
  · rw [if_neg h0]; exact h
/-- The first byte. -/
theorem first_after (c : UInt8) (hc : c ≠ 35) (h0 : (({} : MS).feed c).2 = 0) : Inv (({} : MS).feed c).1 := by
  have hl : Lvs ({} : MS).lower ({} : MS).top := .base _ rfl ⟨rfl, (fun p hp => by cases hp), rfl, fun b hb => ⟨(fun p r hp => by cases hp), fun _ => by simp⟩⟩
  have hs : (({} : MS).next c).2 = 0 := by rw [← feed_sig]; exact h0
  refine (feed_after c ?_).1 h0
  rw [next_0 _ c rfl] at hs ⊢
  refine text_inv hl rfl c (fun h => by cases h) (fun _ _ => .inr ⟨35, rfl, hc, fun h => ?_⟩)
  revert hs
  unfold MS.text
  rw [if_neg ?_, if_pos h]
  · intro h; cases h
  · rintro (rfl | rfl) <;> revert h <;> decide
theorem run_inv {m : MS} (h : Inv m) (hok : m.ok) (hk : m.kind ≤ 14) (l : List UInt8) (hg : m.goes l) : Inv (m.run l) := by
  induction l generalizing m with
  | nil => exact h
  | cons c l ih =>
    have hf := (Good.feed (n := m.sz) ⟨hok, by omega, Nat.le_refl _⟩ c).ok
    exact ih ((feed_after c (next_inv h hk c)).1 hg.1) hf (feed_live hok (by omega) c hg.1) hg.2
/-- A word that ends is right, if it has a byte, and does not begin with #. -/
theorem fed_right (l : List UInt8) (h35 : l.head? ≠ some 35) (h1 : (({} : MS).fed l).2.2 = 1) (hat : (({} : MS).fed l).2.1 ≠ 0) : (({} : MS).fed l).1.kind = 16 ∧ (({} : MS).fed l).1.lower = [] ∧ rightB (({} : MS).fed l).1.top.parts = true := by
  have key : ∀ (l : List UInt8) (m : MS), Inv m → m.ok → m.kind ≤ 14 → (m.fed l).2.2 = 1 → (m.fed l).1.kind = 16 ∧ (m.fed l).1.lower = [] ∧ rightB (m.fed l).1.top.parts = true := by
    intro l
    induction l with
    | nil => intro m _ _ _ h; cases h
    | cons c l ih =>
      intro m hi hok hk h
      have ha := feed_after c (next_inv hi hk c)
      have hf := (Good.feed (n := m.sz) ⟨hok, by omega, Nat.le_refl _⟩ c).ok
      by_cases h0 : (m.feed c).2 = 0
      · simp only [MS.fed, h0, if_true] at h ⊢
        exact ih _ (ha.1 h0) hf (feed_live hok (by omega) c h0) h
      · simp only [MS.fed, h0, if_false] at h ⊢
        obtain ⟨a, b⟩ := feed_end0 hok hk c h
        exact ⟨a, b, ha.2 h⟩
  cases l with
  | nil => cases h1
  | cons c l =>
    by_cases h0 : (({} : MS).feed c).2 = 0
    · have hi := first_after c (by simpa using h35) h0
      have hf := (Good.feed Good.new c).ok
      have hk := feed_live Good.new.ok (by decide) c h0
      simp only [MS.fed, h0, if_true] at h1 ⊢
      exact key l _ hi hf hk h1
    · simp only [MS.fed, h0, if_false] at hat
      exact absurd rfl hat
end Go.Proofs.Ytpadnckmheippaa

namespace Go.Proofs.Ytpadnckmheippaa
open Go
set_option linter.unusedVariables false
/-- Its texts are no longer than N; there are no commands. -/
inductive Neat (N : Nat) : PT → Prop where
  | mk (k : Int) (t o : List UInt8) (kids : List PT) (ht : t.length ≤ N) (ho : o.length ≤ N) (hk : ∀ p ∈ kids, Neat N p) : Neat N (.mk k t o kids noCmds)
def NeatV (N : Nat) (l : LV) : Prop := (∀ p ∈ l.parts, Neat N p) ∧ l.name.length ≤ N ∧ l.op.length ≤ N
def MS.neat (N : Nat) (m : MS) : Prop := (∀ l ∈ m.lower, NeatV N l) ∧ NeatV N m.top
theorem Neat.leaf {N : Nat} (k : Int) {t : List UInt8} (h : t.length ≤ N) : Neat N (PT.leaf k t) := .mk k t [] [] h (Nat.zero_le _) (fun p hp => by cases hp)
theorem lit_sz (m : MS) : m.top.lit.length ≤ m.sz := by simp only [MS.sz, LV.sz]; omega
theorem buf_sz (m : MS) : m.buf.length ≤ m.sz := by simp only [MS.sz]; omega
theorem flush_neat {N : Nat} {l : LV} (h : NeatV N l) (hl : l.lit.length ≤ N) : NeatV N l.flush := by
  unfold LV.flush
  split
  · exact h
  · refine ⟨fun p hp => ?_, h.2.1, h.2.2⟩
    rcases List.mem_append.1 hp with hp | hp
    · exact h.1 p hp
    · rw [List.mem_singleton.1 hp]; exact .leaf 1 hl
theorem turn_neat {N : Nat} {m : MS} (h : m.neat N) (k : Nat) : (m.turn k).neat N := h
theorem lits_neat {N : Nat} {m : MS} (h : m.neat N) (l : List UInt8) : (m.lits l).neat N := h
theorem add_neat {N : Nat} {m : MS} (h : m.neat N) (hl : m.top.lit.length ≤ N) {p : PT} (hp : Neat N p) : (m.add p).neat N := by
  refine ⟨h.1, ?_⟩
  have hf := flush_neat h.2 hl
  refine ⟨fun q hq => ?_, hf.2.1, hf.2.2⟩
  have hq2 : q ∈ m.top.flush.parts ++ [p] := hq
  rcases List.mem_append.1 hq2 with hq2 | hq2
  · exact hf.1 q hq2
  · rw [List.mem_singleton.1 hq2]; exact hp
theorem push_neat {N : Nat} {m : MS} (h : m.neat N) {l : LV} (hl : NeatV N l) : (m.push l).neat N := by
  refine ⟨fun q hq => ?_, hl⟩
  have hq2 : q ∈ m.lower ++ [m.top] := hq
  rcases List.mem_append.1 hq2 with hq2 | hq2
  · exact h.1 q hq2
  · rw [List.mem_singleton.1 hq2]; exact h.2
theorem closed_neat {N : Nat} {l : LV} (h : NeatV N l) : Neat N (MS.closed l) := by
  unfold MS.closed
  split
  · exact .mk _ _ _ _ h.2.1 h.2.2 h.1
  · exact .mk _ _ _ _ (Nat.zero_le _) (Nat.zero_le _) h.1
theorem pop_neat {N : Nat} {m : MS} (h : m.neat N) (hs : m.sz ≤ N) : m.pop.neat N := by
  unfold MS.pop
  refine turn_neat (add_neat ?_ ?_ (closed_neat (flush_neat h.2 (Nat.le_trans (lit_sz m) hs)))) 0
  · refine ⟨fun l hl => h.1 l (List.dropLast_subset _ hl), ?_⟩
    show NeatV N (m.lower.getLastD {})
    rcases List.eq_nil_or_concat m.lower with h0 | ⟨ls, t, h0⟩
    · rw [h0]; exact ⟨(fun p hp => by cases hp), Nat.zero_le _, Nat.zero_le _⟩
    · rw [List.concat_eq_append] at h0
      rw [h0, List.getLastD_concat]
      exact h.1 t (by rw [h0]; simp)
  · show (m.lower.getLastD {}).lit.length ≤ N
    rcases List.eq_nil_or_concat m.lower with h0 | ⟨ls, t, h0⟩
    · rw [h0]; exact Nat.zero_le _
    · rw [List.concat_eq_append] at h0
      rw [h0, List.getLastD_concat]
      refine Nat.le_trans ?_ hs
      simp only [MS.sz, h0, LV.sz, List.map_append, List.sum_append, List.map_cons, List.map_nil, List.sum_cons, List.sum_nil]
      omega
theorem level_neat {N : Nat} {pl : Nat} {nm op : List UInt8} (h : nm.length ≤ N) (h2 : op.length ≤ N) : NeatV N { place := pl, name := nm, op := op } := ⟨(fun p hp => by cases hp), h, h2⟩
theorem text_neat {N : Nat} {m : MS} (h : m.neat N) (hs : m.sz ≤ N) (c : UInt8) : (m.text c).1.neat N := by
  unfold MS.text
  by_cases c1 : c = 0 ∨ c = 96
  · rw [if_pos c1]; exact h
  rw [if_neg c1]
  by_cases c2 : m.top.place = 0 ∧ (classOf c = 1 ∨ classOf c = 2 ∨ classOf c = 5)
  · rw [if_pos c2]; exact ⟨h.1, flush_neat h.2 (Nat.le_trans (lit_sz m) hs)⟩
  rw [if_neg c2]
  by_cases c3 : (m.top.place = 1 ∧ c = 34) ∨ (m.top.place = 2 ∧ c = 125)
  · rw [if_pos c3]; exact pop_neat h hs
  rw [if_neg c3]
  by_cases c4 : c = 92
  · rw [if_pos c4]; exact h
  rw [if_neg c4]
  by_cases c5 : c = 39 ∧ m.top.place ≠ 1
  · rw [if_pos c5]; exact h
  rw [if_neg c5]
  by_cases c6 : c = 34
  · rw [if_pos c6]; exact push_neat (m := { m with quoted := true }) h (level_neat (Nat.zero_le _) (Nat.zero_le _))
  rw [if_neg c6]
  by_cases c7 : c = 36
  · rw [if_pos c7]; exact h
  rw [if_neg c7]
  exact h
theorem addl_neat {N : Nat} {m m' : MS} (h : m.neat N) (hs : m.sz ≤ N) (hlow : m'.lower = m.lower) (htop : m'.top = m.top) (k : Int) {t o : List UInt8} (ht : t.length ≤ N) (ho : o.length ≤ N) (j : Nat) : ((m'.add (.mk k t o [] noCmds)).turn j).neat N := by
  refine turn_neat (add_neat (m := m') ?_ ?_ (.mk k t o [] ht ho (fun p hp => by cases hp))) j
  · unfold MS.neat; rw [hlow, htop]; exact h
  · rw [htop]; exact Nat.le_trans (lit_sz m) hs
theorem param_neat {N : Nat} {m : MS} (h : m.neat N) (c : UInt8) : (m.parameter c).1.neat N := by
  unfold MS.parameter
  simp only
  repeat' split
  all_goals exact h
theorem oper_neat {N : Nat} {m : MS} (h : m.neat N) (hs : m.sz ≤ N) {op : List UInt8} (ho : op.length ≤ N) : (m.operator op).neat N :=
  push_neat h (level_neat (Nat.le_trans (buf_sz m) hs) ho)
theorem behind_neat {N : Nat} {m : MS} (h : m.neat N) (hs : m.sz ≤ N) (hN : 9 ≤ N) (c : UInt8) : (m.behind c).1.neat N := by
  unfold MS.behind
  split
  · refine addl_neat h hs rfl rfl 5 (Nat.le_trans (buf_sz m) hs) ?_ 0
    split
    · show 3 ≤ N; omega
    · exact Nat.zero_le _
  split
  · exact h
  split
  · exact h
  split
  · exact h
  split
  · exact oper_neat h hs (by show 1 ≤ N; omega)
  · exact h
theorem next_neat {N : Nat} {m : MS} (h : m.neat N) (hs : m.sz + 9 ≤ N) (c : UInt8) : (m.next c).1.neat N := by
  have hN : 9 ≤ N := by omega
  have h1 : m.sz ≤ N := by omega
  have hb := Nat.le_trans (buf_sz m) h1
  unfold MS.next
  split
  · exact text_neat h h1 c
  · unfold MS.escaped
    split
    · exact h
    split
    · exact h
    · exact addl_neat h h1 rfl rfl 2 (by show 1 ≤ N; omega) (Nat.zero_le _) 0
  · unfold MS.dollar
    simp only
    split
    · exact h
    split
    · exact h
    split
    · exact h
    split
    · exact addl_neat h h1 rfl rfl 5 (by show 1 ≤ N; omega) (Nat.zero_le _) 0
    · refine text_neat (m := (m.lits [36]).turn 0) h ?_ c
      rw [turn_sz, lits_sz]
      show m.sz + 2 * 1 ≤ N
      omega
  · unfold MS.opened
    split <;> exact h
  · unfold MS.bare
    simp only
    split
    · exact h
    · refine text_neat (addl_neat h h1 rfl rfl 5 hb (Nat.zero_le _) 0) ?_ c
      rw [turn_sz]
      have := add_sz m (PT.leaf 5 m.buf)
      unfold PT.leaf at this
      omega
  · unfold MS.head
    split
    · exact h
    · exact param_neat (m := { m with length := false }) h c
  · unfold MS.hash
    split
    · exact addl_neat h h1 rfl rfl 5 (by show 1 ≤ N; omega) (Nat.zero_le _) 0
    · exact param_neat h c
  · unfold MS.named
    simp only
    split
    · exact h
    · exact behind_neat (m := m.turn 9) h h1 hN c
  · unfold MS.named
    simp only
    split
    · exact h
    · exact behind_neat (m := m.turn 9) h h1 hN c
  · exact behind_neat h h1 hN c
  · unfold MS.colon
    split
    · exact h
    · exact oper_neat h h1 (by show 2 ≤ N; omega)
  · unfold MS.double
    split
    · exact oper_neat h h1 (by show 2 ≤ N; omega)
    · refine text_neat (oper_neat h h1 (by show 1 ≤ N; omega)) ?_ c
      have := push_sz m 2 m.buf [m.cut]
      unfold MS.operator
      omega
  · unfold MS.single
    split
    · exact h
    split
    · exact addl_neat h h1 rfl rfl 3 hb (Nat.zero_le _) 0
    · exact h
  · unfold MS.arith
    split
    · exact h
    split
    · exact h
    split
    · exact h
    split <;> exact h
  · unfold MS.arithEnd
    split
    · exact h
    · exact addl_neat h h1 rfl rfl 7 hb (Nat.zero_le _) 0
  · exact h
  · exact h
theorem feed_neat {N : Nat} {m : MS} (h : m.neat N) (hs : m.sz + 9 ≤ N) (c : UInt8) : (m.feed c).1.neat N := by
  have h1 := next_neat h hs c
  unfold MS.feed
  simp only
  split
  · exact h1
  · exact h1
theorem new_neat (N : Nat) : ({} : MS).neat N := ⟨(fun l hl => by cases hl), ⟨(fun p hp => by cases hp), Nat.zero_le _, Nat.zero_le _⟩⟩
theorem fed_neat {N n : Nat} {m : MS} (h : m.neat N) (hg : Good n m) (l : List UInt8) (hn : n + 10 * l.length ≤ N) : (m.fed l).1.neat N := by
  induction l generalizing m n with
  | nil => exact h
  | cons c l ih =>
    have hz := hg.sz
    have hc : n + 10 * (l.length + 1) ≤ N := hn
    have h1 := feed_neat h (by omega) c
    simp only [MS.fed]
    split
    · exact ih h1 (hg.feed c) (by omega)
    · exact h1
/-- The parts of a whole word. -/
theorem fed_parts (l : List UInt8) : ∀ p ∈ (({} : MS).fed l).1.top.parts, Neat (10 * l.length) p :=
  (fed_neat (new_neat _) Good.new l (by omega)).2.1
end Go.Proofs.Ytpadnckmheippaa

namespace Go.Proofs.Ytpadnckmheippaa
open Go.RowKit
set_option linter.unusedVariables false
def rclassN (n : Int) : Nat :=
  if n = 0 then 0 else if n = 32 ∨ n = 9 then 1 else if n = 10 then 2
  else if 48 ≤ n ∧ n ≤ 57 then 3
  else if (97 ≤ n ∧ n ≤ 122) ∨ (65 ≤ n ∧ n ≤ 90) ∨ n = 95 then 4
  else if n = 38 ∨ n = 124 ∨ n = 59 ∨ n = 60 ∨ n = 62 ∨ n = 40 ∨ n = 41 then 5
  else if n = 39 ∨ n = 34 ∨ n = 92 ∨ n = 96 then 6
  else if n = 36 then 7 else 8
theorem rclass_all : allBytes.all (fun c => rclassN c.toNat == classOf c) = true := by kernel_rfl
theorem rclass_eq (c : UInt8) : rclassN c.toNat = classOf c := by
  have := List.all_eq_true.1 rclass_all c (mem_bytes c)
  exact beq_iff_eq.1 this
theorem ret_nat {a b : Nat} (h : a = b) : Ending.returned (.int .i64 (a : Int)) = .returned (.int .i64 (b : Int)) := by rw [h]
set_option maxHeartbeats 6400000 in
theorem rclass_any (c : UInt8) (w : World) : Calls Try.prog 80 #[.int .u8 c.toNat] w fun e w' => e = .returned (.int .i64 (classOf c)) ∧ w = w' := by
  rw [← rclass_eq]
  generalize (c.toNat : Int) = n
  have hreg : (n < 48) ∨ (48 ≤ n ∧ n ≤ 57) ∨ (57 < n ∧ n < 65) ∨ (65 ≤ n ∧ n ≤ 90) ∨ (90 < n ∧ n < 97) ∨ (97 ≤ n ∧ n ≤ 122) ∨ (122 < n) := by omega
  rcases hreg with h | h | h | h | h | h | h
  · have q0 : n < 48 := by omega
    have q1 : n < 65 := by omega
    have q2 : n < 97 := by omega
    have r95 : (n == 95) = false := beq_eq_false_iff_ne.2 (by omega)
    have r124 : (n == 124) = false := beq_eq_false_iff_ne.2 (by omega)
    have r59 : (n == 59) = false := beq_eq_false_iff_ne.2 (by omega)
    have r60 : (n == 60) = false := beq_eq_false_iff_ne.2 (by omega)
    have r62 : (n == 62) = false := beq_eq_false_iff_ne.2 (by omega)
    have r92 : (n == 92) = false := beq_eq_false_iff_ne.2 (by omega)
    have r96 : (n == 96) = false := beq_eq_false_iff_ne.2 (by omega)
    clear h
    go_enter Try.func80, Try.ntmps80
    go_wp2
    all_goals go_ret
    all_goals refine ⟨ret_nat ?_, rfl⟩
    all_goals first
      | rfl
      | decide
      | (unfold rclassN
         try simp only [beq_iff_eq, beq_eq_false_iff_ne] at *
         repeat' split
         all_goals first | rfl | (exfalso; omega))
  · have q0 : 48 ≤ n := by omega
    have q1 : n ≤ 57 := by omega
    have r0 : (n == 0) = false := beq_eq_false_iff_ne.2 (by omega)
    have r32 : (n == 32) = false := beq_eq_false_iff_ne.2 (by omega)
    have r9 : (n == 9) = false := beq_eq_false_iff_ne.2 (by omega)
    have r10 : (n == 10) = false := beq_eq_false_iff_ne.2 (by omega)
    clear h
    go_enter Try.func80, Try.ntmps80
    go_wp2
    all_goals go_ret
    all_goals refine ⟨ret_nat ?_, rfl⟩
    all_goals first
      | rfl
      | decide
      | (unfold rclassN
         try simp only [beq_eq_false_iff_ne] at *
         repeat' split
         all_goals first | rfl | (exfalso; omega))
  · have q0 : 48 ≤ n := by omega
    have q1 : 57 < n := by omega
    have q2 : n < 65 := by omega
    have q3 : n < 97 := by omega
    have r0 : (n == 0) = false := beq_eq_false_iff_ne.2 (by omega)
    have r32 : (n == 32) = false := beq_eq_false_iff_ne.2 (by omega)
    have r9 : (n == 9) = false := beq_eq_false_iff_ne.2 (by omega)
    have r10 : (n == 10) = false := beq_eq_false_iff_ne.2 (by omega)
    have r95 : (n == 95) = false := beq_eq_false_iff_ne.2 (by omega)
    have r38 : (n == 38) = false := beq_eq_false_iff_ne.2 (by omega)
    have r124 : (n == 124) = false := beq_eq_false_iff_ne.2 (by omega)
    have r40 : (n == 40) = false := beq_eq_false_iff_ne.2 (by omega)
    have r41 : (n == 41) = false := beq_eq_false_iff_ne.2 (by omega)
    have r39 : (n == 39) = false := beq_eq_false_iff_ne.2 (by omega)
    have r34 : (n == 34) = false := beq_eq_false_iff_ne.2 (by omega)
    have r92 : (n == 92) = false := beq_eq_false_iff_ne.2 (by omega)
    have r96 : (n == 96) = false := beq_eq_false_iff_ne.2 (by omega)
    have r36 : (n == 36) = false := beq_eq_false_iff_ne.2 (by omega)
    clear h
    go_enter Try.func80, Try.ntmps80
    go_wp2
    all_goals go_ret
    all_goals refine ⟨ret_nat ?_, rfl⟩
    all_goals first
      | rfl
      | decide
      | (unfold rclassN
         try simp only [beq_iff_eq, beq_eq_false_iff_ne] at *
         repeat' split
         all_goals first | rfl | (exfalso; omega))
  · have q0 : 48 ≤ n := by omega
    have q1 : 57 < n := by omega
    have q2 : 65 ≤ n := by omega
    have q3 : n ≤ 90 := by omega
    have q4 : n < 97 := by omega
    have r0 : (n == 0) = false := beq_eq_false_iff_ne.2 (by omega)
    have r32 : (n == 32) = false := beq_eq_false_iff_ne.2 (by omega)
    have r9 : (n == 9) = false := beq_eq_false_iff_ne.2 (by omega)
    have r10 : (n == 10) = false := beq_eq_false_iff_ne.2 (by omega)
    clear h
    go_enter Try.func80, Try.ntmps80
    go_wp2
    all_goals go_ret
    all_goals refine ⟨ret_nat ?_, rfl⟩
    all_goals first
      | rfl
      | decide
      | (unfold rclassN
         try simp only [beq_eq_false_iff_ne] at *
         repeat' split
         all_goals first | rfl | (exfalso; omega))
  · have q0 : 48 ≤ n := by omega
    have q1 : 57 < n := by omega
    have q2 : 65 ≤ n := by omega
    have q3 : 90 < n := by omega
    have q4 : n < 97 := by omega
    have r0 : (n == 0) = false := beq_eq_false_iff_ne.2 (by omega)
    have r32 : (n == 32) = false := beq_eq_false_iff_ne.2 (by omega)
    have r9 : (n == 9) = false := beq_eq_false_iff_ne.2 (by omega)
    have r10 : (n == 10) = false := beq_eq_false_iff_ne.2 (by omega)
    have r38 : (n == 38) = false := beq_eq_false_iff_ne.2 (by omega)
    have r124 : (n == 124) = false := beq_eq_false_iff_ne.2 (by omega)
    have r59 : (n == 59) = false := beq_eq_false_iff_ne.2 (by omega)
    have r60 : (n == 60) = false := beq_eq_false_iff_ne.2 (by omega)
    have r62 : (n == 62) = false := beq_eq_false_iff_ne.2 (by omega)
    have r40 : (n == 40) = false := beq_eq_false_iff_ne.2 (by omega)
    have r41 : (n == 41) = false := beq_eq_false_iff_ne.2 (by omega)
    have r39 : (n == 39) = false := beq_eq_false_iff_ne.2 (by omega)
    have r34 : (n == 34) = false := beq_eq_false_iff_ne.2 (by omega)
    have r36 : (n == 36) = false := beq_eq_false_iff_ne.2 (by omega)
    clear h
    go_enter Try.func80, Try.ntmps80
    go_wp2
    all_goals go_ret
    all_goals refine ⟨ret_nat ?_, rfl⟩
    all_goals first
      | rfl
      | decide
      | (unfold rclassN
         try simp only [beq_iff_eq, beq_eq_false_iff_ne] at *
         repeat' split
         all_goals first | rfl | (exfalso; omega))
  · have q0 : 48 ≤ n := by omega
    have q1 : 57 < n := by omega
    have q2 : 97 ≤ n := by omega
    have q3 : n ≤ 122 := by omega
    have r0 : (n == 0) = false := beq_eq_false_iff_ne.2 (by omega)
    have r32 : (n == 32) = false := beq_eq_false_iff_ne.2 (by omega)
    have r9 : (n == 9) = false := beq_eq_false_iff_ne.2 (by omega)
    have r10 : (n == 10) = false := beq_eq_false_iff_ne.2 (by omega)
    clear h
    go_enter Try.func80, Try.ntmps80
    go_wp2
    all_goals go_ret
    all_goals refine ⟨ret_nat ?_, rfl⟩
    all_goals first
      | rfl
      | decide
      | (unfold rclassN
         try simp only [beq_eq_false_iff_ne] at *
         repeat' split
         all_goals first | rfl | (exfalso; omega))
  · have q0 : 48 ≤ n := by omega
    have q1 : 57 < n := by omega
    have q2 : 65 ≤ n := by omega
    have q3 : 90 < n := by omega
    have q4 : 97 ≤ n := by omega
    have q5 : 122 < n := by omega
    have r0 : (n == 0) = false := beq_eq_false_iff_ne.2 (by omega)
    have r32 : (n == 32) = false := beq_eq_false_iff_ne.2 (by omega)
    have r9 : (n == 9) = false := beq_eq_false_iff_ne.2 (by omega)
    have r10 : (n == 10) = false := beq_eq_false_iff_ne.2 (by omega)
    have r95 : (n == 95) = false := beq_eq_false_iff_ne.2 (by omega)
    have r38 : (n == 38) = false := beq_eq_false_iff_ne.2 (by omega)
    have r59 : (n == 59) = false := beq_eq_false_iff_ne.2 (by omega)
    have r60 : (n == 60) = false := beq_eq_false_iff_ne.2 (by omega)
    have r62 : (n == 62) = false := beq_eq_false_iff_ne.2 (by omega)
    have r40 : (n == 40) = false := beq_eq_false_iff_ne.2 (by omega)
    have r41 : (n == 41) = false := beq_eq_false_iff_ne.2 (by omega)
    have r39 : (n == 39) = false := beq_eq_false_iff_ne.2 (by omega)
    have r34 : (n == 34) = false := beq_eq_false_iff_ne.2 (by omega)
    have r92 : (n == 92) = false := beq_eq_false_iff_ne.2 (by omega)
    have r96 : (n == 96) = false := beq_eq_false_iff_ne.2 (by omega)
    have r36 : (n == 36) = false := beq_eq_false_iff_ne.2 (by omega)
    clear h
    go_enter Try.func80, Try.ntmps80
    go_wp2
    all_goals go_ret
    all_goals refine ⟨ret_nat ?_, rfl⟩
    all_goals first
      | rfl
      | decide
      | (unfold rclassN
         try simp only [beq_eq_false_iff_ne] at *
         repeat' split
         all_goals first | rfl | (exfalso; omega))
def specialN (n : Int) : Bool := n == 64 || n == 42 || n == 35 || n == 63 || n == 45 || n == 36 || n == 33
theorem special_all : allBytes.all (fun c => specialN c.toNat == special c) = true := by kernel_rfl
theorem rspecial_any (c : UInt8) (w : World) : Calls Try.prog 84 #[.int .u8 c.toNat] w fun e w' => e = .returned (.bool (special c)) ∧ w = w' := by
  rw [← beq_iff_eq.1 (List.all_eq_true.1 special_all c (mem_bytes c))]
  go_enter Try.func84, Try.ntmps84
  generalize (c.toNat : Int) = n
  unfold specialN
  go_wp2
  all_goals go_ret
  all_goals exact ⟨ret_bool (by simp [*]), rfl⟩
def quotesN (n : Int) : Bool := n == 36 || n == 96 || n == 34 || n == 92
theorem quotes_all : allBytes.all (fun c => quotesN c.toNat == quotes c) = true := by kernel_rfl
theorem rquotes_any (c : UInt8) (w : World) : Calls Try.prog 55 #[.int .u8 c.toNat] w fun e w' => e = .returned (.bool (quotes c)) ∧ w = w' := by
  rw [← beq_iff_eq.1 (List.all_eq_true.1 quotes_all c (mem_bytes c))]
  go_enter Try.func55, Try.ntmps55
  generalize (c.toNat : Int) = n
  unfold quotesN
  go_wp2
  all_goals go_ret
  all_goals exact ⟨ret_bool (by simp [*]), rfl⟩
theorem rdollar_any (c : UInt8) (w : World) : Calls Try.prog 81 #[.int .u8 c.toNat] w fun e w' => e = .returned (.bool (okAfter c)) ∧ w = w' := by
  have hn : okAfter c = (((classOf c : Int) != 4) && ((classOf c : Int) != 3) && !special c && ((c.toNat : Int) != 123) && ((c.toNat : Int) != 40)) := by
    have h := List.all_eq_true.1 (show allBytes.all (fun c => okAfter c == (((classOf c : Int) != 4) && ((classOf c : Int) != 3) && !special c && ((c.toNat : Int) != 123) && ((c.toNat : Int) != 40))) = true by kernel_rfl) c (mem_bytes c)
    exact beq_iff_eq.1 h
  rw [hn]
  have HC := Lib.hid (rclass_any c)
  have HS := Lib.hid (rspecial_any c)
  clear hn
  generalize classOf c = q at *
  generalize special c = b at *
  go_enter Try.func81, Try.ntmps81
  go_wp2_with (first
    | (go_at_call 80; refine (HC.out _).mono ?_; rintro e w' ⟨rfl, rfl⟩)
    | (go_at_call 84; refine (HS.out _).mono ?_; rintro e w' ⟨rfl, rfl⟩))
  all_goals go_ret
  all_goals exact ⟨ret_bool (by simp [*]), rfl⟩
end Go.Proofs.Ytpadnckmheippaa

namespace Go.Proofs.Ytpadnckmheippaa
open Go.RowKit
set_option linter.unusedVariables false
theorem drop_at (s : ByteArray) (k : Nat) (h : k < s.size) : s.data.toList.drop k = s[k] :: s.data.toList.drop (k + 1) := drop_cons s k h
theorem drop_end (s : ByteArray) : s.data.toList.drop s.size = [] := List.drop_of_length_le (by simp)
theorem list_empty (s : ByteArray) : s.data.toList.isEmpty = decide (s.size = 0) := by
  have h : s.data.toList.length = s.size := by simp
  cases hl : s.data.toList with
  | nil => rw [hl] at h; simp at h; simp [← h]
  | cons a l => rw [hl] at h; simp at h; simp [← h]
theorem size_pos (s : ByteArray) : decide (0 < s.size) = (!decide (s.size = 0) && true) := by
  rw [Bool.eq_iff_iff, Bool.and_true, Bool.not_eq_true', decide_eq_true_eq, decide_eq_false_iff_not]
  omega
theorem nz_false (s : ByteArray) (b : Bool) (h : s.size = 0) : (!decide (s.size = 0) && b) = false := by rw [decide_eq_true h]; rfl
theorem nz_true (s : ByteArray) (h : ¬ s.size = 0) : (!decide (s.size = 0) && true) = true := by rw [decide_eq_false h]; rfl
/-- So far, and from here on. -/
def Left (P : List UInt8 → Bool) (l : List UInt8) (k : Nat) : Prop := P l = P (l.drop k)
def digs (l : List UInt8) : Bool := l.all fun d => classOf d == 3
set_option maxHeartbeats 800000 in
theorem rdigits_any (s : ByteArray) (hs : s.size ≤ 9223372036854775807) (w : World) : Calls Try.prog 83 #[.string s] w fun e w' => e = .returned (.bool (digitsB s.data.toList)) ∧ w = w' := by
  have hd : digitsB s.data.toList = (!decide (s.size = 0) && digs s.data.toList) := by rw [← list_empty]; rfl
  have HD0 := Lib.hid hd
  clear hd
  go_enter Try.func83, Try.ntmps83
  go_wp2
  go_loop [3] (fun i => ∃ k : Nat, k ≤ s.size ∧ i = .int .i64 k ∧ Left digs s.data.toList k) (fun i => s.size - (intOf i).toNat)
  case atStart => exact ⟨0, Nat.zero_le _, rfl, rfl⟩
  case round =>
    obtain ⟨k, hk, rfl, hl⟩ := hrel
    have HL := Lib.hid hl
    by_cases hlt : k < s.size
    · have HD := Lib.hid (drop_at s k hlt)
      have HC := Lib.hid (rclass_any s[k] w)
      have hz : s.size ≠ 0 := by omega
      clear hl
      by_cases h3 : classOf s[k] = 3
      · have HS : Hid (Left digs s.data.toList (k + 1)) := Lib.hid (by
          unfold Left
          have h1 : digs s.data.toList = digs (s.data.toList.drop k) := HL.out
          rw [h1, HD.out]
          simp [digs, h3])
        rw [h3] at HC
        clear h3
        go_wp2_with (go_at_call 80; refine HC.out.mono ?_; rintro e w' ⟨rfl, rfl⟩)
        go_round
        case rel => exact ⟨k + 1, by omega, by go_num, HS.out⟩
        case measure => simp [intOf]; omega
      · have HS : Hid (digs s.data.toList = false) := Lib.hid (by
          have h1 : digs s.data.toList = digs (s.data.toList.drop k) := HL.out
          rw [h1, HD.out]
          simp [digs, h3])
        have hne : ((classOf s[k] : Int) != 3) = true := by simp; omega
        generalize classOf s[k] = q at *
        clear h3
        go_wp2_with (go_at_call 80; refine HC.out.mono ?_; rintro e w' ⟨rfl, rfl⟩)
        go_ret
        exact ⟨ret_bool (by rw [HD0.out, HS.out, Bool.and_false]), rfl⟩
    · obtain rfl : k = s.size := by omega
      have h1 : digs s.data.toList = true := by rw [show digs s.data.toList = digs (s.data.toList.drop s.size) from hl, drop_end]; rfl
      have H1 := Lib.hid h1
      clear hl h1
      go_wp2
      go_ret
      refine ⟨ret_bool ?_, rfl⟩
      rw [HD0.out, H1.out]
      exact size_pos s
def namL (l : List UInt8) : Bool := l.all fun d => classOf d == 4 || classOf d == 3
/-- A name from place k on. -/
def namF (k : Nat) (l : List UInt8) : Bool := if k = 0 then (match l with | [] => true | c :: r => classOf c == 4 && namL r) else namL l
theorem nameB_eq (s : ByteArray) : nameB s.data.toList = (!decide (s.size = 0) && namF 0 s.data.toList) := by
  rw [← list_empty]
  cases s.data.toList with
  | nil => rfl
  | cons c r => simp [nameB, namF, namL]
set_option maxHeartbeats 1600000 in
theorem rname_any (s : ByteArray) (hs : s.size ≤ 9223372036854775807) (w : World) : Calls Try.prog 82 #[.string s] w fun e w' => e = .returned (.bool (nameB s.data.toList)) ∧ w = w' := by
  have HD0 := Lib.hid (nameB_eq s)
  go_enter Try.func82, Try.ntmps82
  go_wp2
  go_loop [3, 4] (fun i _ => ∃ k : Nat, k ≤ s.size ∧ i = .int .i64 k ∧ Hid (namF 0 s.data.toList = namF k (s.data.toList.drop k))) (fun i _ => s.size - (intOf i).toNat)
  case atStart => exact ⟨0, Nat.zero_le _, rfl, Lib.hid rfl⟩
  case round =>
    obtain ⟨k, hk, rfl, HL⟩ := hrel
    by_cases hlt : k < s.size
    · have HD := Lib.hid (drop_at s k hlt)
      have HC := Lib.hid (rclass_any s[k] w)
      have hz : s.size ≠ 0 := by omega
      by_cases hok : classOf s[k] = 4 ∨ (classOf s[k] = 3 ∧ k ≠ 0)
      · have HS : Hid (namF 0 s.data.toList = namF (k + 1) (s.data.toList.drop (k + 1))) := Lib.hid (by
          rw [HL.out, HD.out]
          unfold namF
          rw [if_neg (Nat.succ_ne_zero k)]
          by_cases hk0 : k = 0
          · rw [if_pos hk0]
            have h4 : classOf s[k] = 4 := by omega
            simp [h4]
          · rw [if_neg hk0]
            rcases hok with h | h
            · simp [namL, h]
            · simp [namL, h.1])
        rcases hok with h4 | ⟨h3, hk0⟩
        · rw [h4] at HC
          clear h4
          go_wp2_with (go_at_call 80; refine HC.out.mono ?_; rintro e w' ⟨rfl, rfl⟩)
          go_round
          case rel => exact ⟨k + 1, by omega, by go_num, HS⟩
          case measure => simp [intOf]; omega
        · rw [h3] at HC
          have hk1 : ((k : Int) == 0) = false := by simp; omega
          clear h3
          go_wp2_with (go_at_call 80; refine HC.out.mono ?_; rintro e w' ⟨rfl, rfl⟩)
          go_round
          case rel => exact ⟨k + 1, by omega, by go_num, HS⟩
          case measure => simp [intOf]; omega
      · have HS : Hid (namF 0 s.data.toList = false) := Lib.hid (by
          rw [HL.out, HD.out]
          unfold namF
          have h4 : classOf s[k] ≠ 4 := fun h => hok (.inl h)
          by_cases hk0 : k = 0
          · rw [if_pos hk0]
            simp [h4]
          · rw [if_neg hk0]
            have h3 : classOf s[k] ≠ 3 := fun h => hok (.inr ⟨h, hk0⟩)
            simp [namL, h4, h3])
        have hne4 : ((classOf s[k] : Int) != 4) = true := by
          have : classOf s[k] ≠ 4 := fun h => hok (.inl h)
          simp; omega
        by_cases h3 : classOf s[k] = 3
        · have hk0 : k = 0 := by omega
          subst hk0
          rw [h3] at HC
          clear h3 hok hne4
          go_wp2_with (go_at_call 80; refine HC.out.mono ?_; rintro e w' ⟨rfl, rfl⟩)
          go_ret
          exact ⟨ret_bool (by rw [HD0.out, HS.out, Bool.and_false]), rfl⟩
        · have hne3 : ((classOf s[k] : Int) != 3) = true := by simp; omega
          clear hok
          generalize classOf s[k] = q at *
          clear h3
          go_wp2_with (go_at_call 80; refine HC.out.mono ?_; rintro e w' ⟨rfl, rfl⟩)
          go_ret
          exact ⟨ret_bool (by rw [HD0.out, HS.out, Bool.and_false]), rfl⟩
    · obtain rfl : k = s.size := by omega
      have h1 : namF 0 s.data.toList = true := by
        rw [HL.out, drop_end]
        unfold namF
        split <;> rfl
      have H1 := Lib.hid h1
      clear h1 HL
      go_wp2
      go_ret
      refine ⟨ret_bool ?_, rfl⟩
      rw [HD0.out, H1.out]
      exact size_pos s
end Go.Proofs.Ytpadnckmheippaa

namespace Go.Proofs.Ytpadnckmheippaa
open Go.RowKit
set_option linter.unusedVariables false
theorem byte_ne {c d : UInt8} (h : c ≠ d) : ((c.toNat : Int) == (d.toNat : Int)) = false := by
  rw [beq_eq_false_iff_ne]
  intro e
  exact h (UInt8.toNat_inj.1 (by omega))
set_option maxHeartbeats 800000 in
theorem clear_any (s : ByteArray) (hs : s.size ≤ 9223372036854775807) (c : UInt8) (w : World) : Calls Try.prog 56 #[.string s, .int .u8 c.toNat] w fun e w' => e = .returned (.bool (clearB s.data.toList c)) ∧ w = w' := by
  go_enter Try.func56, Try.ntmps56
  go_wp2
  go_loop [5] (fun i => ∃ k : Nat, k ≤ s.size ∧ i = .int .i64 k ∧ Hid (clearB s.data.toList c = clearB (s.data.toList.drop k) c)) (fun i => s.size - (intOf i).toNat)
  case atStart => exact ⟨0, Nat.zero_le _, rfl, Lib.hid rfl⟩
  case round =>
    obtain ⟨k, hk, rfl, HL⟩ := hrel
    by_cases hlt : k < s.size
    · have HD := Lib.hid (drop_at s k hlt)
      have HE : Hid (clearB s.data.toList c = ((s[k] != 0 && s[k] != c) && clearB (s.data.toList.drop (k + 1)) c)) := Lib.hid (by rw [HL.out, HD.out]; rfl)
      by_cases h0 : s[k] = 0
      · have HS : Hid (clearB s.data.toList c = false) := Lib.hid (by rw [HE.out, h0]; rfl)
        have hz : ((s[k].toNat : Int) == 0) = true := by rw [h0]; rfl
        clear h0
        go_wp2
        go_ret
        exact ⟨ret_bool (by rw [HS.out]), rfl⟩
      · have hz : ((s[k].toNat : Int) == 0) = false := byte_ne (d := 0) h0
        by_cases h1 : s[k] = c
        · have HS : Hid (clearB s.data.toList c = false) := Lib.hid (by rw [HE.out, h1]; simp)
          have hz2 : ((s[k].toNat : Int) == (c.toNat : Int)) = true := by rw [h1]; simp
          clear h0 h1
          go_wp2
          go_ret
          exact ⟨ret_bool (by rw [HS.out]), rfl⟩
        · have hz2 : ((s[k].toNat : Int) == (c.toNat : Int)) = false := byte_ne h1
          have HS : Hid (clearB s.data.toList c = clearB (s.data.toList.drop (k + 1)) c) := Lib.hid (by rw [HE.out]; simp [h0, h1])
          clear h0 h1
          go_wp2
          go_round
          case rel => exact ⟨k + 1, by omega, by go_num, HS⟩
          case measure => simp [intOf]; omega
    · obtain rfl : k = s.size := by omega
      have HS : Hid (clearB s.data.toList c = true) := Lib.hid (by rw [HL.out, drop_end]; rfl)
      clear HL
      go_wp2
      go_ret
      exact ⟨ret_bool (by rw [HS.out]), rfl⟩
theorem arithB_none {l : List UInt8} (h : arithRun 0 l = none) : arithB l = false := by unfold arithB; rw [h]; rfl
theorem arithB_some {l : List UInt8} {n : Nat} (h : arithRun 0 l = some n) : arithB l = (n == 0) := by
  unfold arithB
  rw [h]
  cases n <;> rfl
set_option maxHeartbeats 1600000 in
theorem arithp_any (s : ByteArray) (hs : s.size ≤ 4611686018427387904) (w : World) : Calls Try.prog 58 #[.string s] w fun e w' => e = .returned (.bool (arithB s.data.toList)) ∧ w = w' := by
  go_enter Try.func58, Try.ntmps58
  go_wp2
  go_loop [3, 4] (fun d i => ∃ k n : Nat, k ≤ s.size ∧ n ≤ k ∧ i = .int .i64 k ∧ d = .int .i64 n ∧ Hid (arithRun 0 s.data.toList = arithRun n (s.data.toList.drop k))) (fun _ i => s.size - (intOf i).toNat)
  case atStart => exact ⟨0, 0, Nat.zero_le _, Nat.le_refl _, rfl, rfl, Lib.hid rfl⟩
  case round =>
    obtain ⟨k, n, hk, hn, rfl, rfl, HL⟩ := hrel
    by_cases hlt : k < s.size
    · have HD := Lib.hid (drop_at s k hlt)
      have HE : Hid (arithRun 0 s.data.toList = if s[k] = 0 then none else if s[k] = 40 then arithRun (n + 1) (s.data.toList.drop (k + 1)) else if s[k] = 41 then (if n = 0 then none else arithRun (n - 1) (s.data.toList.drop (k + 1))) else arithRun n (s.data.toList.drop (k + 1))) := Lib.hid (by rw [HL.out, HD.out]; rfl)
      by_cases h0 : s[k] = 0
      · have HS : Hid (arithB s.data.toList = false) := Lib.hid (arithB_none (by rw [HE.out, if_pos h0]))
        have hz : ((s[k].toNat : Int) == 0) = true := by rw [h0]; rfl
        clear h0
        go_wp2
        go_ret
        exact ⟨ret_bool (by rw [HS.out]), rfl⟩
      · have hz : ((s[k].toNat : Int) == 0) = false := byte_ne (d := 0) h0
        by_cases h40 : s[k] = 40
        · have HS := HE.out
          rw [if_neg h0, if_pos h40] at HS
          have HS2 := Lib.hid HS
          have hz2 : ((s[k].toNat : Int) == 40) = true := by rw [h40]; rfl
          have hz3 : ((s[k].toNat : Int) == 41) = false := byte_ne (d := 41) (by rw [h40]; decide)
          clear h0 h40 HS
          go_wp2
          go_round
          case rel => exact ⟨k + 1, n + 1, by omega, by omega, by go_num, by go_num, HS2⟩
          case measure => simp [intOf]; omega
        · have hz2 : ((s[k].toNat : Int) == 40) = false := byte_ne (d := 40) h40
          by_cases h41 : s[k] = 41
          · have HS := HE.out
            rw [if_neg h0, if_neg h40, if_pos h41] at HS
            have hz3 : ((s[k].toNat : Int) == 41) = true := by rw [h41]; rfl
            by_cases hn0 : n = 0
            · subst hn0
              rw [if_pos rfl] at HS
              have HS2 := Lib.hid (arithB_none HS)
              clear h0 h40 h41 HS
              go_wp2
              go_ret
              exact ⟨ret_bool (by rw [HS2.out]), rfl⟩
            · rw [if_neg hn0] at HS
              have HS2 := Lib.hid HS
              have hn1 : 1 ≤ (n : Int) := by omega
              clear h0 h40 h41 HS hn0
              go_wp2
              go_round
              case rel => exact ⟨k + 1, n - 1, by omega, by omega, by go_num, by go_num, HS2⟩
              case measure => simp [intOf]; omega
          · have hz3 : ((s[k].toNat : Int) == 41) = false := byte_ne (d := 41) h41
            have HS := HE.out
            rw [if_neg h0, if_neg h40, if_neg h41] at HS
            have HS2 := Lib.hid HS
            clear h0 h40 h41 HS
            go_wp2
            go_round
            case rel => exact ⟨k + 1, n, by omega, by omega, by go_num, rfl, HS2⟩
            case measure => simp [intOf]; omega
    · obtain rfl : k = s.size := by omega
      have HS : Hid (arithB s.data.toList = (n == 0)) := Lib.hid (arithB_some (by rw [HL.out, drop_end]; rfl))
      clear HL
      go_wp2
      go_ret
      refine ⟨ret_bool ?_, rfl⟩
      rw [HS.out]
      cases n <;> rfl
end Go.Proofs.Ytpadnckmheippaa

namespace Go.Proofs.Ytpadnckmheippaa
open Go.RowKit
set_option linter.unusedVariables false
def opsL : List (List UInt8) := [[58, 45], [45], [58, 61], [61], [58, 63], [63], [58, 43], [43], [37], [37, 37], [35], [35, 35]]
def opsCells : Array Value := #[.string ⟨#[58, 45]⟩, .string ⟨#[45]⟩, .string ⟨#[58, 61]⟩, .string ⟨#[61]⟩, .string ⟨#[58, 63]⟩, .string ⟨#[63]⟩, .string ⟨#[58, 43]⟩, .string ⟨#[43]⟩, .string ⟨#[37]⟩, .string ⟨#[37, 37]⟩, .string ⟨#[35]⟩, .string ⟨#[35, 35]⟩]
theorem ops_any (w : World) : Calls Try.prog 93 #[] w fun e w' => e = .returned (.slice (some ⟨w.heap.size, 0, none⟩) 12 12) ∧ w' = w.alloc (.cells opsCells 9) := by
  go_enter Try.func93, Try.ntmps93
  go_wp2
  go_ret
  exact ⟨rfl, rfl⟩
theorem opsCells_get (k : Nat) (h : k < opsL.length) : opsCells[k]? = some (.string ⟨opsL[k].toArray⟩) := by
  have h12 : k < 12 := h
  have : k = 0 ∨ k = 1 ∨ k = 2 ∨ k = 3 ∨ k = 4 ∨ k = 5 ∨ k = 6 ∨ k = 7 ∨ k = 8 ∨ k = 9 ∨ k = 10 ∨ k = 11 := by omega
  rcases this with rfl | rfl | rfl | rfl | rfl | rfl | rfl | rfl | rfl | rfl | rfl | rfl <;> rfl
theorem bytes_eq (s t : ByteArray) (h : s.data.toList = t.data.toList) : s = t := ByteArray.ext (Array.ext' h)
theorem toList_data (s : ByteArray) : s.toList = s.data.toList := by
  first
    | exact ByteArray.toList_eq s
    | exact ByteArray.toList_data s
    | (unfold ByteArray.toList; simp)
set_option maxHeartbeats 1600000 in
theorem op_any (s : ByteArray) (w : World) : Calls Try.prog 85 #[.string s] w fun e w' => e = .returned (.bool (opB s.data.toList)) ∧ Below w.heap.size w w' := by
  go_enter Try.func85, Try.ntmps85
  go_wp2_with fail
  refine (ops_any w).mono ?_
  rintro e w1 ⟨rfl, hw1⟩
  have hcell : ∀ k, ∀ h : k < opsL.length, w1.cell? ⟨w.heap.size, k, none⟩ = some (.string ⟨opsL[k].toArray⟩) := fun k h => by
    rw [hw1, (Blk.new w 9 opsCells).cell k, opsCells_get k h]
  have HB : Hid (Below w.heap.size w w1) := Lib.hid (hw1 ▸ below_alloc w _)
  have HC := Lib.hid hcell
  clear hcell hw1
  go_wp2
  go_loop [4] (fun i => ∃ k : Nat, k ≤ 12 ∧ i = .int .i64 k ∧ Hid (opB s.data.toList = (opsL.drop k).contains s.data.toList)) (fun i => 12 - (intOf i).toNat)
  case atStart => exact ⟨0, Nat.zero_le _, rfl, Lib.hid rfl⟩
  case round =>
    obtain ⟨k, hk, rfl, HL⟩ := hrel
    by_cases hlt : k < 12
    · have hlt2 : k < opsL.length := hlt
      have hcell := HC.out k hlt2
      have HE : Hid (opB s.data.toList = (s.data.toList == opsL[k] || (opsL.drop (k + 1)).contains s.data.toList)) := Lib.hid (by
        rw [HL.out, List.drop_eq_getElem_cons hlt2, List.contains_cons])
      obtain ⟨x, hx⟩ : ∃ x : ByteArray, (⟨opsL[k].toArray⟩ : ByteArray) = x := ⟨_, rfl⟩
      rw [hx] at hcell
      have HX := Lib.hid hx
      clear hx
      by_cases h : x = s
      · have HS : Hid (opB s.data.toList = true) := Lib.hid (by rw [HE.out, ← h, ← HX.out]; simp)
        subst h
        go_wp2
        go_ret
        exact ⟨ret_bool (by rw [HS.out]), HB.out⟩
      · have HS : Hid (opB s.data.toList = (opsL.drop (k + 1)).contains s.data.toList) := Lib.hid (by
          rw [HE.out]
          have : (s.data.toList == opsL[k]) = false := by
            rw [beq_eq_false_iff_ne]
            intro e
            exact h (by rw [← HX.out]; exact bytes_eq _ _ (by rw [e]))
          rw [this, Bool.false_or])
        have hne : (x.toList == s.toList) = false := by
          rw [beq_eq_false_iff_ne]
          intro e
          exact h (bytes_eq _ _ (by rw [← toList_data, ← toList_data, e]))
        clear h
        go_wp2
        go_round
        case rel => exact ⟨k + 1, by omega, by go_num, HS⟩
        case measure => simp [intOf]; omega
    · obtain rfl : k = 12 := by omega
      have HS : Hid (opB s.data.toList = false) := Lib.hid (by rw [HL.out]; rfl)
      clear HL
      go_wp2
      go_ret
      exact ⟨ret_bool (by rw [HS.out]), HB.out⟩
end Go.Proofs.Ytpadnckmheippaa
