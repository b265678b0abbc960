/- Reading a grammar's text, plainly: its tokens, its form, the grammar. What is read may be: plainly. What is shown is read as it was: plainly. The text's tokens. What is shown is read as it was: plainly. The text's form, and the grammar of it. What is shown is read as it was: plainly. The grammar is built as it was. -/
import Derived.Test.YtnpjhndgdlihjaaDoorZb
import Derived.Lib.Index
namespace Go.Proofs.YtnpjhndgdlihjaaDoor
open Go.RowKit
set_option linter.unusedVariables false
/-- A token: its kind, its text, its place. -/
structure Tk where
  k : Nat
  s : List UInt8
  p : Nat
/-- What is wrong, and where. -/
abbrev Flt := Nat × Nat
def whiteB (c : UInt8) : Bool := c == 32 || c == 9 || c == 10 || c == 13
def letB (c : UInt8) : Bool := classOf c == 4 || classOf c == 3
def spanBy (p : UInt8 → Bool) (l : List UInt8) : Nat := (l.takeWhile p).length
def quoteL (sz p : Nat) (r : List UInt8) : Except Flt (Nat × Nat) :=
  if sz ≤ p + 1 + spanL r then .error (4, sz) else if r[spanL r]? ≠ some 39 ∨ spanL r = 0 then .error (2, p + 1 + spanL r) else if 24 ≤ 1 + spanL r then .error (5, p) else .ok (2, spanL r + 2)
def commentL (sz p : Nat) (r : List UInt8) : Except Flt (Nat × Nat) :=
  if r.head? = some 42 then (if Lib.index (r.drop 1) [42, 47] < 0 then .error (4, sz) else .ok (0, (Lib.index (r.drop 1) [42, 47]).toNat + 4)) else .error (2, p)
def markL (p : Nat) (r : List UInt8) : Except Flt (Nat × Nat) :=
  if r.head? = some 37 then .ok (6, 2)
  else if r.take (spanBy letB r) = [116, 111, 107, 101, 110] then .ok (7, 1 + spanBy letB r)
  else if r.take (spanBy letB r) = [115, 116, 97, 114, 116] then .ok (8, 1 + spanBy letB r) else .error (2, p)
def signL (c : UInt8) : Nat := if c = 58 then 3 else if c = 124 then 4 else if c = 59 then 5 else 0
/-- The token at a place: its kind (0: it is passed over), and how many bytes. -/
def oneL (sz p : Nat) : List UInt8 → Except Flt (Nat × Nat)
  | [] => .ok (0, 0)
  | c :: r =>
    if whiteB c then .ok (0, spanBy whiteB (c :: r))
    else if c = 47 then commentL sz p r
    else if c = 39 then quoteL sz p r
    else if c = 37 then markL p r
    else if classOf c = 4 then (if 24 < spanBy letB (c :: r) then .error (5, p) else .ok (1, spanBy letB (c :: r)))
    else if signL c ≠ 0 then .ok (signL c, 1) else .error (2, p)
def toksL (sz : Nat) : Nat → Nat → List UInt8 → Except Flt (List Tk)
  | 0, _, _ => .error (0, 0)
  | f + 1, p, l =>
    if l.isEmpty then .ok [⟨0, [], sz⟩] else
    match oneL sz p l with
    | .error e => .error e
    | .ok (k, n) => (match toksL sz f (p + n) (l.drop n) with
      | .error e => .error e
      | .ok ts => .ok (if k = 0 then ts else ⟨k, l.take n, p⟩ :: ts))
def tokens (l : List UInt8) : Except Flt (List Tk) := if 8192 < l.length then .error (5, 0) else toksL l.length (l.length + 1) 0 l
/-- A right side; a rule; what stands in a text. -/
structure PS where
  l : List Tk
  p : Nat
structure PR where
  left : Tk
  sides : List PS
structure Txt where
  decl : List Tk
  marks : List Nat
  starts : List Tk
  rules : List PR
def symT (t : Tk) : Bool := t.k == 1 || t.k == 2
def badT : List Tk → Flt
  | t :: _ => (if t.k = 0 then 4 else 3, t.p)
  | [] => (0, 0)
def isK (k : Nat) : List Tk → Bool
  | t :: _ => t.k == k
  | [] => false
def placeT : List Tk → Nat
  | t :: _ => t.p
  | [] => 0
def headL (x : Txt) : List Tk → Except Flt (Txt × List Tk)
  | [] => .error (0, 0)
  | t :: r =>
    if t.k = 7 then (if (r.takeWhile symT).isEmpty then .error (badT r) else .ok ({ x with decl := x.decl ++ r.takeWhile symT }, r.dropWhile symT))
    else if t.k = 8 then (if isK 1 r then .ok ({ x with marks := x.marks ++ [t.p], starts := x.starts ++ r.take 1 }, r.drop 1) else .error (badT r))
    else .error (badT (t :: r))
def headsL : Nat → Txt → List Tk → Except Flt (Txt × List Tk)
  | 0, _, _ => .error (0, 0)
  | f + 1, x, l => if isK 6 l then .ok (x, l.drop 1) else
    match headL x l with
    | .error e => .error e
    | .ok (x', l') => headsL f x' l'
def sideL (l : List Tk) : PS := ⟨l.takeWhile symT, placeT l⟩
def sidesL : Nat → List PS → List Tk → List PS × List Tk
  | 0, a, l => (a, l)
  | f + 1, a, l => if isK 4 l then sidesL f (a ++ [sideL (l.drop 1)]) ((l.drop 1).dropWhile symT) else (a, l)
def oneR : List Tk → Except Flt (PR × List Tk)
  | [] => .error (0, 0)
  | t :: r =>
    if t.k ≠ 1 then .error (badT (t :: r)) else if isK 3 r then
      (if isK 5 (sidesL r.length [sideL (r.drop 1)] ((r.drop 1).dropWhile symT)).2 then
        .ok (⟨t, (sidesL r.length [sideL (r.drop 1)] ((r.drop 1).dropWhile symT)).1⟩, (sidesL r.length [sideL (r.drop 1)] ((r.drop 1).dropWhile symT)).2.drop 1)
       else .error (badT (sidesL r.length [sideL (r.drop 1)] ((r.drop 1).dropWhile symT)).2))
    else .error (badT r)
def moreR : Nat → List PR → List Tk → Except Flt (List PR)
  | 0, _, _ => .error (0, 0)
  | f + 1, a, l => if isK 0 l then .ok a else
    match oneR l with
    | .error e => .error e
    | .ok (r, l') => moreR f (a ++ [r]) l'
def formL (l : List Tk) : Except Flt Txt :=
  match headsL (l.length + 1) ⟨[], [], [], []⟩ l with
  | .error e => .error e
  | .ok (x, l1) =>
    match oneR l1 with
    | .error e => .error e
    | .ok (r, l2) =>
      match moreR (l.length + 1) [r] l2 with
      | .error e => .error e
      | .ok rs => .ok { x with rules := rs }
abbrev Nme := List UInt8
/-- What has been built: terminals, nonterminals, rules by names. -/
structure Bd where
  T : List Nme
  N : List Nme
  R : List (List Nme)
def leftOf (x : Txt) (s : Nme) : Bool := x.rules.any fun r => r.left.s == s
def declT (T : List Nme) (t : Tk) : Except Flt (List Nme) := if T.contains t.s then .error (8, t.p) else if 120 ≤ T.length then .error (7, t.p) else .ok (T ++ [t.s])
def startT (lf : Nme → Bool) (st : Tk) : Except Flt Unit := if lf st.s then .ok () else .error (9, st.p)
def declL (lf : Nme → Bool) : Option (Nat × Tk) → List Tk → List Nme → Except Flt (List Nme)
  | none, [], T => .ok T
  | some (_, st), [], T => (match startT lf st with | .error e => .error e | .ok _ => .ok T)
  | none, t :: r, T => (match declT T t with | .error e => .error e | .ok T' => declL lf none r T')
  | some (m, st), t :: r, T =>
    if m < t.p then (match startT lf st with | .error e => .error e | .ok _ => (match declT T t with | .error e => .error e | .ok T' => declL lf none r T'))
    else (match declT T t with | .error e => .error e | .ok T' => declL lf (some (m, st)) r T')
def secondL : List Nat → Nat
  | _ :: m :: _ => m
  | _ => 8193
def markT (x : Txt) : Option (Nat × Tk) := match x.marks, x.starts with | m :: _, st :: _ => some (m, st) | _, _ => none
def headsB (x : Txt) : Except Flt (List Nme) :=
  match declL (leftOf x) (markT x) x.decl [] with
  | .ok T => if secondL x.marks ≤ 8192 then .error (8, secondL x.marks) else .ok T
  | .error e => if secondL x.marks ≤ 8192 ∧ secondL x.marks < e.2 then .error (8, secondL x.marks) else .error e
def leftB (D : Nat) (b : Bd) (t : Tk) : Except Flt Bd :=
  if (b.T.take D).contains t.s then .error (8, t.p) else if b.N.contains t.s then .ok b else if 120 ≤ b.N.length then .error (7, t.p) else .ok { b with N := b.N ++ [t.s] }
def symbolB (lf : Nme → Bool) (b : Bd) (t : Tk) (k : Nat) : Except Flt Bd :=
  if 8 ≤ k then .error (7, t.p) else if b.T.contains t.s then .ok b
  else if t.k = 2 then (if 120 ≤ b.T.length then .error (7, t.p) else .ok { b with T := b.T ++ [t.s] })
  else if lf t.s then .ok b else .error (9, t.p)
def symsB (lf : Nme → Bool) : Bd → Nat → List Tk → Except Flt Bd
  | b, _, [] => .ok b
  | b, k, t :: r => match symbolB lf b t k with | .error e => .error e | .ok b' => symsB lf b' (k + 1) r
def sideB (lf : Nme → Bool) (b : Bd) (left : Nme) (s : PS) : Except Flt Bd :=
  if 300 ≤ b.R.length then .error (7, s.p) else
  match symsB lf b 0 s.l with
  | .error e => .error e
  | .ok b' => if b'.R.contains (left :: s.l.map Tk.s) then .error (8, s.p) else .ok { b' with R := b'.R ++ [left :: s.l.map Tk.s] }
def sidesB (lf : Nme → Bool) (left : Nme) : Bd → List PS → Except Flt Bd
  | b, [] => .ok b
  | b, s :: r => match sideB lf b left s with | .error e => .error e | .ok b' => sidesB lf left b' r
def ruleB (lf : Nme → Bool) (D : Nat) (b : Bd) (r : PR) : Except Flt Bd :=
  match leftB D b r.left with | .error e => .error e | .ok b' => sidesB lf r.left.s b' r.sides
def rulesB (lf : Nme → Bool) (D : Nat) : Bd → List PR → Except Flt Bd
  | b, [] => .ok b
  | b, r :: l => match ruleB lf D b r with | .error e => .error e | .ok b' => rulesB lf D b' l
def findL (T N : List Nme) (s : Nme) : Nat := if T.contains s then T.idxOf s + 1 else if N.contains s then T.length + N.idxOf s + 1 else 0
/-- A grammar. -/
structure PG where
  T : List Nme
  N : List Nme
  s : Nat
  R : List (Nat × List Nat)
def ruleL2 (T N : List Nme) : List Nme → Nat × List Nat
  | [] => (0, [])
  | a :: l => (findL T N a, l.map (findL T N))
def gramL (x : Txt) (b : Bd) : PG :=
  { T := b.T, N := b.N, s := match x.starts with | [] => b.T.length + 1 | st :: _ => findL b.T b.N st.s, R := b.R.map (ruleL2 b.T b.N) }
def buildL (x : Txt) : Except Flt PG :=
  match headsB x with
  | .error e => .error e
  | .ok T => match rulesB (leftOf x) T.length ⟨T, [], []⟩ x.rules with
    | .error e => .error e
    | .ok b => .ok (gramL x b)
def parseL (s : List UInt8) : Except Flt PG :=
  match tokens s with
  | .error e => .error e
  | .ok l => match formL l with
    | .error e => .error e
    | .ok x => buildL x
end Go.Proofs.YtnpjhndgdlihjaaDoor

namespace Go.Proofs.YtnpjhndgdlihjaaDoor
open Go.RowKit
set_option linter.unusedVariables false
/-- Names in the order in which they first come. -/
def firstsOf : List Nme → List Nme → List Nme
  | acc, [] => acc
  | acc, a :: l => firstsOf (if acc.contains a then acc else acc ++ [a]) l
/-- What holds of what has been built; H: the rules' names, in order. -/
structure BInv (lf : Nme → Bool) (D : Nat) (b : Bd) : Prop where
  i1 : b.T.length ≤ 120
  i2 : b.N.length ≤ 120
  i3 : b.R.length ≤ 300
  i4 : b.T.Nodup
  i5 : b.N.Nodup
  i6 : ∀ s ∈ b.T, (okName s || quotedB s) = true
  i7 : ∀ s ∈ b.N, okName s = true
  i8 : ∀ s ∈ b.T.drop D, quotedB s = true
  i9 : ∀ s ∈ b.N, s ∉ b.T.take D
  i0 : D ≤ b.T.length
  i10 : ∀ r ∈ b.R, ∃ a l, r = a :: l ∧ a ∈ b.N ∧ l.length ≤ 8 ∧ ∀ c ∈ l, c ∈ b.T ∨ lf c = true
  i11 : b.R.Nodup
/-- The names as they first come: each one's first rule. -/
structure BOrd (R : List (List Nme)) (N : List Nme) : Prop where
  mem : ∀ a ∈ N, ∃ r ∈ R, r.head? = some a
  ord : ∀ i j : Nat, i < j → ∀ a c, N[i]? = some a → N[j]? = some c → R.findIdx (fun r => r.head? == some a) < R.findIdx (fun r => r.head? == some c)
/-- A token's text is as its kind says. -/
def Tk.okay (t : Tk) : Prop := (t.k = 1 → okName t.s = true) ∧ (t.k = 2 → quotedB t.s = true)
theorem findIdx_append_of_mem {α : Type} {p : α → Bool} {l r : List α} (h : ∃ x ∈ l, p x = true) : (l ++ r).findIdx p = l.findIdx p := by
  have hlt : l.findIdx p < l.length := List.findIdx_lt_length_of_exists h
  rw [List.findIdx_append]
  simp [hlt]
theorem BOrd.old {R : List (List Nme)} {N : List Nme} (h : BOrd R N) (r : List Nme) : BOrd (R ++ [r]) N where
  mem a ha := by obtain ⟨x, hx, h2⟩ := h.mem a ha; exact ⟨x, List.mem_append_left _ hx, h2⟩
  ord i j hij a c ha hc := by
    have e : ∀ a ∈ N, (R ++ [r]).findIdx (fun r => r.head? == some a) = R.findIdx (fun r => r.head? == some a) := fun a ha => findIdx_append_of_mem (by obtain ⟨x, hx, h2⟩ := h.mem a ha; exact ⟨x, hx, by simp [h2]⟩)
    rw [e a (List.mem_of_getElem? ha), e c (List.mem_of_getElem? hc)]
    exact h.ord i j hij a c ha hc
theorem BOrd.fresh {R : List (List Nme)} {N : List Nme} (h : BOrd R N) (a : Nme) (l : List Nme) (ha : a ∉ N) (hR : ∀ r ∈ R, ∃ c l, r = c :: l ∧ c ∈ N) : BOrd (R ++ [a :: l]) (N ++ [a]) where
  mem c hc := by
    rcases List.mem_append.1 hc with hc | hc
    · obtain ⟨x, hx, h2⟩ := h.mem c hc; exact ⟨x, List.mem_append_left _ hx, h2⟩
    · rw [List.mem_singleton.1 hc]; exact ⟨a :: l, by simp, rfl⟩
  ord i j hij c d hc hd := by
    have hjl : j < (N ++ [a]).length := (List.getElem?_eq_some_iff.1 hd).1
    simp at hjl
    have hc' : N[i]? = some c := by rw [List.getElem?_append_left (by omega)] at hc; exact hc
    have e : (R ++ [a :: l]).findIdx (fun r => r.head? == some c) = R.findIdx (fun r => r.head? == some c) := findIdx_append_of_mem (by obtain ⟨x, hx, h2⟩ := h.mem c (List.mem_of_getElem? hc'); exact ⟨x, hx, by simp [h2]⟩)
    have hlt : R.findIdx (fun r => r.head? == some c) < R.length := List.findIdx_lt_length_of_exists (by obtain ⟨x, hx, h2⟩ := h.mem c (List.mem_of_getElem? hc'); exact ⟨x, hx, by simp [h2]⟩)
    rw [e]
    by_cases hj : j < N.length
    · have hd' : N[j]? = some d := by rw [List.getElem?_append_left hj] at hd; exact hd
      rw [findIdx_append_of_mem (by obtain ⟨x, hx, h2⟩ := h.mem d (List.mem_of_getElem? hd'); exact ⟨x, hx, by simp [h2]⟩)]
      exact h.ord i j hij c d hc' hd'
    · obtain rfl : j = N.length := by omega
      have : d = a := by simp at hd; exact hd.symm
      subst this
      have hn : R.findIdx (fun r => r.head? == some d) = R.length := by
        rw [List.findIdx_eq_length]
        intro x hx
        obtain ⟨c', l', rfl, hcn⟩ := hR x hx
        simp
        rintro rfl
        exact ha hcn
      rw [List.findIdx_append, hn]
      simp
      exact h.mem c (List.mem_of_getElem? hc')
theorem BInv.left {lf : Nme → Bool} {D : Nat} {b b' : Bd} {t : Tk} (h : BInv lf D b) (ht : okName t.s = true) (he : leftB D b t = .ok b') : BInv lf D b' ∧ t.s ∈ b'.N ∧ b'.T = b.T ∧ b'.R = b.R ∧ (b'.N = b.N ∨ (t.s ∉ b.N ∧ b'.N = b.N ++ [t.s])) := by
  unfold leftB at he
  split at he
  · cases he
  rename_i h1
  split at he
  · rename_i h2
    injection he with he
    subst he
    exact ⟨h, by simpa using h2, rfl, rfl, .inl rfl⟩
  rename_i h2
  split at he
  · cases he
  rename_i h3
  injection he with he
  subst he
  have h2' : t.s ∉ b.N := by simpa using h2
  have h1' : t.s ∉ b.T.take D := by simpa using h1
  refine ⟨⟨h.i1, by simp; omega, h.i3, h.i4, ?_, h.i6, ?_, h.i8, ?_, h.i0, ?_, h.i11⟩, by simp, rfl, rfl, .inr ⟨h2', rfl⟩⟩
  · rw [List.nodup_append]
    refine ⟨h.i5, by simp, ?_⟩
    intro a ha c hc
    rw [List.mem_singleton.1 hc]
    rintro rfl
    exact h2' ha
  · intro s hs
    rcases List.mem_append.1 hs with hs | hs
    · exact h.i7 s hs
    · rw [List.mem_singleton.1 hs]; exact ht
  · intro s hs
    rcases List.mem_append.1 hs with hs | hs
    · exact h.i9 s hs
    · rw [List.mem_singleton.1 hs]; exact h1'
  · intro r hr
    obtain ⟨a, l, e, ha, hl, hc⟩ := h.i10 r hr
    exact ⟨a, l, e, List.mem_append_left _ ha, hl, hc⟩
theorem BInv.symbol {lf : Nme → Bool} {D : Nat} {b b' : Bd} {t : Tk} {k : Nat} (h : BInv lf D b) (ht : t.okay) (he : symbolB lf b t k = .ok b') : BInv lf D b' ∧ k < 8 ∧ (t.s ∈ b'.T ∨ lf t.s = true) ∧ b'.N = b.N ∧ b'.R = b.R ∧ (∀ s ∈ b.T, s ∈ b'.T) := by
  unfold symbolB at he
  split at he
  · cases he
  rename_i h0
  split at he
  · rename_i h1
    injection he with he
    subst he
    exact ⟨h, by omega, .inl (by simpa using h1), rfl, rfl, fun _ h => h⟩
  rename_i h1
  have h1' : t.s ∉ b.T := by simpa using h1
  split at he
  · rename_i h2
    split at he
    · cases he
    rename_i h3
    injection he with he
    subst he
    refine ⟨⟨by simp; omega, h.i2, h.i3, ?_, h.i5, ?_, h.i7, ?_, ?_, by simp; have := h.i0; omega, ?_, h.i11⟩, by omega, .inl (by simp), rfl, rfl, fun s hs => List.mem_append_left _ hs⟩
    · rw [List.nodup_append]
      refine ⟨h.i4, by simp, ?_⟩
      intro a ha c hc
      rw [List.mem_singleton.1 hc]
      rintro rfl
      exact h1' ha
    · intro s hs
      rcases List.mem_append.1 hs with hs | hs
      · exact h.i6 s hs
      · rw [List.mem_singleton.1 hs, ht.2 h2]; simp
    · intro s hs
      rw [List.drop_append_of_le_length h.i0] at hs
      rcases List.mem_append.1 hs with hs | hs
      · exact h.i8 s hs
      · rw [List.mem_singleton.1 hs]; exact ht.2 h2
    · intro s hs
      show s ∉ (b.T ++ [t.s]).take D
      rw [List.take_append_of_le_length h.i0]
      exact h.i9 s hs
    · intro r hr
      obtain ⟨a, l, e, ha, hl, hc⟩ := h.i10 r hr
      exact ⟨a, l, e, ha, hl, fun c hcl => (hc c hcl).imp (fun hh => List.mem_append_left _ hh) id⟩
  · split at he
    · rename_i h3
      injection he with he
      subst he
      exact ⟨h, by omega, .inr h3, rfl, rfl, fun _ h => h⟩
    · cases he
theorem BInv.syms {lf : Nme → Bool} {D : Nat} : ∀ (l : List Tk) {b b' : Bd} {k : Nat}, BInv lf D b → (∀ t ∈ l, t.okay) → symsB lf b k l = .ok b' →
    BInv lf D b' ∧ (l = [] ∨ k + l.length ≤ 8) ∧ (∀ t ∈ l, t.s ∈ b'.T ∨ lf t.s = true) ∧ b'.N = b.N ∧ b'.R = b.R ∧ (∀ s ∈ b.T, s ∈ b'.T)
  | [], b, b', k, h, _, he => by
    simp only [symsB] at he
    injection he with he
    subst he
    exact ⟨h, .inl rfl, by simp, rfl, rfl, fun _ h => h⟩
  | t :: r, b, b', k, h, hr, he => by
    simp only [symsB] at he
    cases hs : symbolB lf b t k with
    | error e => rw [hs] at he; cases he
    | ok b1 =>
      rw [hs] at he
      obtain ⟨g1, g2, g3, g4, g5, g6⟩ := h.symbol (hr t (by simp)) hs
      obtain ⟨q1, q2, q3, q4, q5, q6⟩ := BInv.syms r g1 (fun t ht => hr t (by simp [ht])) he
      refine ⟨q1, .inr ?_, ?_, q4.trans g4, q5.trans g5, fun s hs => q6 s (g6 s hs)⟩
      · rcases q2 with rfl | q2
        · simp; omega
        · simp; omega
      · intro u hu
        rcases List.mem_cons.1 hu with rfl | hu
        · exact g3.imp (q6 _) id
        · exact q3 u hu
theorem BInv.side {lf : Nme → Bool} {D : Nat} {b b' : Bd} {left : Nme} {s : PS} (h : BInv lf D b) (hl : left ∈ b.N) (hs : ∀ t ∈ s.l, t.okay) (he : sideB lf b left s = .ok b') :
    BInv lf D b' ∧ b'.N = b.N ∧ b'.R = b.R ++ [left :: s.l.map Tk.s] := by
  unfold sideB at he
  split at he
  · cases he
  rename_i h0
  cases hq : symsB lf b 0 s.l with
  | error e => rw [hq] at he; cases he
  | ok b1 =>
    rw [hq] at he
    simp only at he
    split at he
    · cases he
    rename_i h2
    injection he with he
    subst he
    obtain ⟨q1, q2, q3, q4, q5, q6⟩ := h.syms s.l hs hq
    have h2' : left :: s.l.map Tk.s ∉ b1.R := by simpa using h2
    refine ⟨⟨q1.i1, q1.i2, by simp; rw [q5]; omega, q1.i4, q1.i5, q1.i6, q1.i7, q1.i8, q1.i9, q1.i0, ?_, ?_⟩, q4, by rw [← q5]⟩
    · intro r hr
      rcases List.mem_append.1 hr with hr | hr
      · exact q1.i10 r hr
      · rw [List.mem_singleton.1 hr]
        refine ⟨left, _, rfl, by rw [q4]; exact hl, ?_, ?_⟩
        · rcases q2 with e | q2
          · rw [e]; simp
          · simp; omega
        · intro c hc
          obtain ⟨t, ht, rfl⟩ := List.mem_map.1 hc
          exact q3 t ht
    · rw [List.nodup_append]
      refine ⟨q1.i11, by simp, ?_⟩
      intro a ha c hc
      rw [List.mem_singleton.1 hc]
      rintro rfl
      exact h2' ha

theorem BOrd.first {R : List (List Nme)} {N : List Nme} (h : BOrd R N) {a : Nme} (l : List Nme) (ha : a ∈ N) : BOrd (R ++ [a :: l]) N := h.old _
/-- While a rule's sides are read: its left side may be the last name, yet without a rule. -/
def BOrd1 (b : Bd) (left : Nme) : Prop := (BOrd b.R b.N ∧ left ∈ b.N) ∨ ∃ N0, b.N = N0 ++ [left] ∧ left ∉ N0 ∧ BOrd b.R N0 ∧ ∀ r ∈ b.R, ∃ c l, r = c :: l ∧ c ∈ N0
theorem BInv.sides {lf : Nme → Bool} {D : Nat} {left : Nme} : ∀ (l : List PS) {b b' : Bd}, BInv lf D b → BOrd1 b left → (∀ s ∈ l, ∀ t ∈ s.l, t.okay) → sidesB lf left b l = .ok b' →
    BInv lf D b' ∧ b'.N = b.N ∧ (l ≠ [] → BOrd b'.R b'.N) ∧ BOrd1 b' left
  | [], b, b', h, ho, _, he => by
    simp only [sidesB] at he
    injection he with he
    subst he
    exact ⟨h, rfl, fun h => absurd rfl h, ho⟩
  | s :: r, b, b', h, ho, hs, he => by
    simp only [sidesB] at he
    cases hq : sideB lf b left s with
    | error e => rw [hq] at he; cases he
    | ok b1 =>
      rw [hq] at he
      have hleft : left ∈ b.N := by
        rcases ho with ⟨_, h1⟩ | ⟨N0, h1, _⟩
        · exact h1
        · rw [h1]; simp
      obtain ⟨g1, g2, g3⟩ := h.side hleft (hs s (by simp)) hq
      have ho1 : BOrd b1.R b1.N := by
        rw [g3, g2]
        rcases ho with ⟨h1, h2⟩ | ⟨N0, h1, h2, h3, h4⟩
        · exact h1.old _
        · rw [h1]; exact h3.fresh left _ h2 h4
      have ho2 : BOrd1 b1 left := .inl ⟨ho1, by rw [g2]; exact hleft⟩
      obtain ⟨q1, q2, q3, q4⟩ := BInv.sides r g1 ho2 (fun s hs' => hs s (by simp [hs'])) he
      refine ⟨q1, q2.trans g2, fun _ => ?_, q4⟩
      by_cases hr : r = []
      · subst hr
        simp only [sidesB] at he
        injection he with he
        subst he
        exact ho1
      · exact q3 hr
theorem BInv.rule {lf : Nme → Bool} {D : Nat} {r : PR} {b b' : Bd} (h : BInv lf D b) (ho : BOrd b.R b.N) (hk : okName r.left.s = true) (hs : ∀ s ∈ r.sides, ∀ t ∈ s.l, t.okay) (hne : r.sides ≠ []) (he : ruleB lf D b r = .ok b') :
    BInv lf D b' ∧ BOrd b'.R b'.N ∧ (∀ s ∈ b.N, s ∈ b'.N) ∧ r.left.s ∈ b'.N := by
  unfold ruleB at he
  cases hq : leftB D b r.left with
  | error e => rw [hq] at he; cases he
  | ok b1 =>
    rw [hq] at he
    obtain ⟨g1, g2, g3, g4, g5⟩ := h.left hk hq
    have ho1 : BOrd1 b1 r.left.s := by
      rcases g5 with g5 | ⟨g5, g6⟩
      · exact .inl ⟨by rw [g4, g5]; exact ho, g2⟩
      · refine .inr ⟨b.N, g6, g5, by rw [g4]; exact ho, ?_⟩
        rw [g4]
        intro r' hr'
        obtain ⟨a, l, e, ha, _⟩ := h.i10 r' hr'
        exact ⟨a, l, e, ha⟩
    obtain ⟨q1, q2, q3, _⟩ := g1.sides r.sides ho1 hs he
    refine ⟨q1, q3 hne, fun s hs => ?_, by rw [q2]; exact g2⟩
    rw [q2]
    rcases g5 with g5 | ⟨_, g6⟩
    · rw [g5]; exact hs
    · rw [g6]; exact List.mem_append_left _ hs
/-- A rule's tokens are as their kinds say. -/
def PR.okay (r : PR) : Prop := okName r.left.s = true ∧ (∀ s ∈ r.sides, ∀ t ∈ s.l, t.okay) ∧ r.sides ≠ []
theorem BInv.rules {lf : Nme → Bool} {D : Nat} : ∀ (l : List PR) {b b' : Bd}, BInv lf D b → BOrd b.R b.N → (∀ r ∈ l, r.okay) → rulesB lf D b l = .ok b' →
    BInv lf D b' ∧ BOrd b'.R b'.N ∧ (∀ s ∈ b.N, s ∈ b'.N) ∧ ∀ r ∈ l, r.left.s ∈ b'.N
  | [], b, b', h, ho, _, he => by
    simp only [rulesB] at he
    injection he with he
    subst he
    exact ⟨h, ho, fun _ h => h, by simp⟩
  | r :: l, b, b', h, ho, hs, he => by
    simp only [rulesB] at he
    cases hq : ruleB lf D b r with
    | error e => rw [hq] at he; cases he
    | ok b1 =>
      rw [hq] at he
      obtain ⟨k1, k2, k3⟩ := hs r (by simp)
      obtain ⟨g1, g2, g3, g4⟩ := h.rule ho k1 k2 k3 hq
      obtain ⟨q1, q2, q3, q4⟩ := BInv.rules l g1 g2 (fun r hr => hs r (by simp [hr])) he
      refine ⟨q1, q2, fun s hs => q3 s (g3 s hs), fun r' hr' => ?_⟩
      rcases List.mem_cons.1 hr' with rfl | hr'
      · exact q3 _ g4
      · exact q4 r' hr'
theorem decl_inv {lf : Nme → Bool} : ∀ (l : List Tk) (m : Option (Nat × Tk)) {T T' : List Nme}, (∀ t ∈ l, t.okay ∧ symT t = true) → T.length ≤ 120 → T.Nodup → (∀ s ∈ T, (okName s || quotedB s) = true) → declL lf m l T = .ok T' →
    T'.length ≤ 120 ∧ T'.Nodup ∧ ∀ s ∈ T', (okName s || quotedB s) = true := by
  have one : ∀ {T T' : List Nme} {t : Tk}, t.okay ∧ symT t = true → T.length ≤ 120 → T.Nodup → (∀ s ∈ T, (okName s || quotedB s) = true) → declT T t = .ok T' → T'.length ≤ 120 ∧ T'.Nodup ∧ ∀ s ∈ T', (okName s || quotedB s) = true := by
    intro T T' t ht h1 h2 h3 he
    unfold declT at he
    split at he
    · cases he
    rename_i g1
    split at he
    · cases he
    rename_i g2
    injection he with he
    subst he
    have g1' : t.s ∉ T := by simpa using g1
    refine ⟨by simp; omega, ?_, ?_⟩
    · rw [List.nodup_append]
      refine ⟨h2, by simp, ?_⟩
      intro a ha c hc
      rw [List.mem_singleton.1 hc]
      rintro rfl
      exact g1' ha
    · intro s hs
      rcases List.mem_append.1 hs with hs | hs
      · exact h3 s hs
      · rw [List.mem_singleton.1 hs]
        have := ht.2
        unfold symT at this
        rw [Bool.or_eq_true, beq_iff_eq, beq_iff_eq] at this
        rcases this with k | k
        · rw [ht.1.1 k]; rfl
        · rw [ht.1.2 k]; simp
  intro l
  induction l with
  | nil =>
    intro m T T' _ h1 h2 h3 he
    cases m with
    | none => simp only [declL] at he; injection he with he; subst he; exact ⟨h1, h2, h3⟩
    | some q =>
      obtain ⟨m, st⟩ := q
      simp only [declL] at he
      cases hq : startT lf st with
      | error e => rw [hq] at he; cases he
      | ok u => rw [hq] at he; injection he with he; subst he; exact ⟨h1, h2, h3⟩
  | cons t r ih =>
    intro m T T' ht h1 h2 h3 he
    have step : ∀ (m' : Option (Nat × Tk)), (match declT T t with | .error e => .error e | .ok T1 => declL lf m' r T1) = Except.ok T' → T'.length ≤ 120 ∧ T'.Nodup ∧ ∀ s ∈ T', (okName s || quotedB s) = true := by
      intro m' hm
      cases hd : declT T t with
      | error e => rw [hd] at hm; cases hm
      | ok T1 =>
        rw [hd] at hm
        obtain ⟨k1, k2, k3⟩ := one (ht t (by simp)) h1 h2 h3 hd
        exact ih m' (fun t ht' => ht t (by simp [ht'])) k1 k2 k3 hm
    cases m with
    | none => simp only [declL] at he; exact step none he
    | some q =>
      obtain ⟨m, st⟩ := q
      simp only [declL] at he
      split at he
      · cases hq : startT lf st with
        | error e => rw [hq] at he; cases he
        | ok u => rw [hq] at he; exact step none he
      · exact step (some (m, st)) he
theorem decl_start {lf : Nme → Bool} {st : Tk} : ∀ (l : List Tk) {m : Nat} {T T' : List Nme}, declL lf (some (m, st)) l T = .ok T' → lf st.s = true := by
  have one : startT lf st = .ok () → lf st.s = true := by
    unfold startT
    split
    · intro _; assumption
    · intro h; cases h
  intro l
  induction l with
  | nil =>
    intro m T T' he
    simp only [declL] at he
    cases hq : startT lf st with
    | error e => rw [hq] at he; cases he
    | ok u => exact one hq
  | cons t r ih =>
    intro m T T' he
    simp only [declL] at he
    split at he
    · cases hq : startT lf st with
      | error e => rw [hq] at he; cases he
      | ok u => exact one hq
    · cases hd : declT T t with
      | error e => rw [hd] at he; cases he
      | ok T1 => rw [hd] at he; exact ih he
/-- Tokens of a text. -/
def Okays (l : List Tk) : Prop := ∀ t ∈ l, t.okay
theorem Okays.drop {l : List Tk} (h : Okays l) (n : Nat) : Okays (l.drop n) := fun t ht => h t (List.mem_of_mem_drop ht)
theorem Okays.dropW {l : List Tk} (h : Okays l) : Okays (l.dropWhile symT) := fun t ht => h t ((List.dropWhile_sublist symT).mem ht)
theorem takeW_sym {l : List Tk} : ∀ t ∈ l.takeWhile symT, symT t = true := by
  induction l with
  | nil => intro t ht; simp at ht
  | cons a r ih =>
    intro t ht
    rw [List.takeWhile_cons] at ht
    split at ht
    · rename_i ha
      rcases List.mem_cons.1 ht with rfl | ht
      · exact ha
      · exact ih t ht
    · simp at ht
theorem Okays.takeW {l : List Tk} (h : Okays l) : ∀ t ∈ l.takeWhile symT, t.okay ∧ symT t = true := fun t ht => ⟨h t ((List.takeWhile_sublist symT).mem ht), takeW_sym t ht⟩
/-- What is read of the head is as it should be. -/
structure Txt.okay (x : Txt) : Prop where
  decl : ∀ t ∈ x.decl, t.okay ∧ symT t = true
  same : x.marks.length = x.starts.length
theorem head_ok {x x' : Txt} {l l' : List Tk} (hx : x.okay) (hl : Okays l) (he : headL x l = .ok (x', l')) : x'.okay ∧ Okays l' ∧ x'.rules = x.rules := by
  unfold headL at he
  cases l with
  | nil => cases he
  | cons t r =>
    simp only at he
    split at he
    · split at he
      · cases he
      · injection he with he
        obtain ⟨rfl, rfl⟩ := Prod.mk.inj he
        have hr : Okays r := fun t ht => hl t (by simp [ht])
        refine ⟨⟨?_, hx.same⟩, hr.dropW, rfl⟩
        intro t ht
        rcases List.mem_append.1 ht with ht | ht
        · exact hx.decl t ht
        · exact hr.takeW t ht
    · split at he
      · split at he
        · rename_i h8 h1
          injection he with he
          obtain ⟨rfl, rfl⟩ := Prod.mk.inj he
          have hr : Okays r := fun t ht => hl t (by simp [ht])
          refine ⟨⟨hx.decl, ?_⟩, hr.drop 1, rfl⟩
          cases r with
          | nil => simp [isK] at h1
          | cons u r2 => simp [hx.same]
        · cases he
      · cases he
theorem heads_ok : ∀ (f : Nat) {x x' : Txt} {l l' : List Tk}, x.okay → Okays l → headsL f x l = .ok (x', l') → x'.okay ∧ Okays l' ∧ x'.rules = x.rules
  | 0, _, _, _, _, _, _, he => by cases he
  | f + 1, x, x', l, l', hx, hl, he => by
    simp only [headsL] at he
    split at he
    · injection he with he
      obtain ⟨rfl, rfl⟩ := Prod.mk.inj he
      exact ⟨hx, hl.drop 1, rfl⟩
    · cases hq : headL x l with
      | error e => rw [hq] at he; cases he
      | ok q =>
        obtain ⟨x1, l1⟩ := q
        rw [hq] at he
        obtain ⟨g1, g2, g3⟩ := head_ok hx hl hq
        obtain ⟨q1, q2, q3⟩ := heads_ok f g1 g2 he
        exact ⟨q1, q2, q3.trans g3⟩
theorem side_ok {l : List Tk} (hl : Okays l) : ∀ t ∈ (sideL l).l, t.okay := fun t ht => (hl.takeW t ht).1
theorem sides_ok : ∀ (f : Nat) {a : List PS} {l : List Tk}, a ≠ [] → (∀ s ∈ a, ∀ t ∈ s.l, t.okay) → Okays l →
    (sidesL f a l).1 ≠ [] ∧ (∀ s ∈ (sidesL f a l).1, ∀ t ∈ s.l, t.okay) ∧ Okays (sidesL f a l).2
  | 0, a, l, h0, h1, h2 => ⟨h0, h1, h2⟩
  | f + 1, a, l, h0, h1, h2 => by
    simp only [sidesL]
    split
    · refine sides_ok f (by simp) ?_ (h2.drop 1).dropW
      intro s hs
      rcases List.mem_append.1 hs with hs | hs
      · exact h1 s hs
      · rw [List.mem_singleton.1 hs]; exact side_ok (h2.drop 1)
    · exact ⟨h0, h1, h2⟩
theorem oneR_ok {l l' : List Tk} {r : PR} (hl : Okays l) (he : oneR l = .ok (r, l')) : r.okay ∧ Okays l' := by
  unfold oneR at he
  cases l with
  | nil => cases he
  | cons t rest =>
    simp only at he
    split at he
    · cases he
    rename_i h1
    split at he
    · split at he
      · injection he with he
        obtain ⟨rfl, rfl⟩ := Prod.mk.inj he
        have hr : Okays rest := fun t ht => hl t (by simp [ht])
        obtain ⟨g1, g2, g3⟩ := sides_ok rest.length (a := [sideL (rest.drop 1)]) (l := (rest.drop 1).dropWhile symT) (by simp) (fun s hs => by rw [List.mem_singleton.1 hs]; exact side_ok (hr.drop 1)) (hr.drop 1).dropW
        exact ⟨⟨(hl t (by simp)).1 (by omega), g2, g1⟩, g3.drop 1⟩
      · cases he
    · cases he
theorem moreR_ok : ∀ (f : Nat) {a rs : List PR} {l : List Tk}, (∀ r ∈ a, r.okay) → Okays l → moreR f a l = .ok rs → (∀ r ∈ rs, r.okay) ∧ (a ≠ [] → rs ≠ [])
  | 0, _, _, _, _, _, he => by cases he
  | f + 1, a, rs, l, ha, hl, he => by
    simp only [moreR] at he
    split at he
    · injection he with he
      subst he
      exact ⟨ha, id⟩
    · cases hq : oneR l with
      | error e => rw [hq] at he; cases he
      | ok q =>
        obtain ⟨r, l1⟩ := q
        rw [hq] at he
        obtain ⟨g1, g2⟩ := oneR_ok hl hq
        obtain ⟨q1, q2⟩ := moreR_ok f (a := a ++ [r]) (fun r' hr' => by
          rcases List.mem_append.1 hr' with hr' | hr'
          · exact ha r' hr'
          · rw [List.mem_singleton.1 hr']; exact g1) g2 he
        exact ⟨q1, fun _ => q2 (by simp)⟩
theorem form_ok {l : List Tk} {x : Txt} (hl : Okays l) (he : formL l = .ok x) : x.okay ∧ (∀ r ∈ x.rules, r.okay) ∧ x.rules ≠ [] := by
  unfold formL at he
  cases hq : headsL (l.length + 1) ⟨[], [], [], []⟩ l with
  | error e => rw [hq] at he; cases he
  | ok q =>
    obtain ⟨x1, l1⟩ := q
    rw [hq] at he
    obtain ⟨g1, g2, _⟩ := heads_ok _ ⟨by simp, rfl⟩ hl hq
    simp only at he
    cases hr : oneR l1 with
    | error e => rw [hr] at he; cases he
    | ok q =>
      obtain ⟨r, l2⟩ := q
      rw [hr] at he
      obtain ⟨k1, k2⟩ := oneR_ok g2 hr
      simp only at he
      cases hm : moreR (l.length + 1) [r] l2 with
      | error e => rw [hm] at he; cases he
      | ok rs =>
        rw [hm] at he
        injection he with he
        subst he
        obtain ⟨m1, m2⟩ := moreR_ok _ (fun r' hr' => by rw [List.mem_singleton.1 hr']; exact k1) k2 hm
        exact ⟨⟨g1.decl, g1.same⟩, m1, m2 (by simp)⟩
theorem takeWhile_len_take {p : UInt8 → Bool} (l : List UInt8) : l.take (l.takeWhile p).length = l.takeWhile p := by
  induction l with
  | nil => rfl
  | cons a r ih =>
    rw [List.takeWhile_cons]
    split
    · simp [ih]
    · rfl
theorem takeWhile_all {p : UInt8 → Bool} (l : List UInt8) : (l.takeWhile p).all p = true := by
  induction l with
  | nil => rfl
  | cons a r ih =>
    rw [List.takeWhile_cons]
    split
    · rename_i h; simp [h]
    · rfl
theorem spanL_takeW (r : List UInt8) (x : List UInt8) : spanL (r.takeWhile insideB ++ 39 :: x) = spanL r := by
  unfold spanL
  induction r with
  | nil => rfl
  | cons a r ih =>
    by_cases h : insideB a = true
    · simp [h]
      simpa using ih
    · simp [h]
      rfl
theorem one_ok {sz p : Nat} {l : List UInt8} {k n : Nat} (he : oneL sz p l = .ok (k, n)) : Tk.okay ⟨k, l.take n, p⟩ ∧ (0 < l.length → 0 < n) := by
  unfold oneL at he
  cases l with
  | nil => injection he with he; obtain ⟨rfl, rfl⟩ := Prod.mk.inj he; exact ⟨⟨(fun h => by cases h), (fun h => by cases h)⟩, fun h => by simp at h⟩
  | cons c r =>
    simp only at he
    split at he
    · rename_i hw
      injection he with he
      obtain ⟨rfl, rfl⟩ := Prod.mk.inj he
      exact ⟨⟨(fun h => by cases h), (fun h => by cases h)⟩, fun _ => by unfold spanBy; simp [hw]⟩
    split at he
    · unfold commentL at he
      split at he
      · split at he
        · cases he
        · injection he with he; obtain ⟨rfl, rfl⟩ := Prod.mk.inj he; exact ⟨⟨(fun h => by cases h), (fun h => by cases h)⟩, fun _ => by omega⟩
      · cases he
    split at he
    · rename_i hq
      subst hq
      unfold quoteL at he
      split at he
      · cases he
      split at he
      · cases he
      rename_i h2
      split at he
      · cases he
      rename_i h3
      injection he with he
      obtain ⟨rfl, rfl⟩ := Prod.mk.inj he
      refine ⟨⟨(fun h => by cases h), fun _ => ?_⟩, fun _ => by omega⟩
      have h2a : r[spanL r]? = some 39 := by
        by_cases h : r[spanL r]? = some 39
        · exact h
        · exact absurd (.inl h) h2
      have h2b : spanL r ≠ 0 := fun h => h2 (.inr h)
      have hlt : spanL r < r.length := (List.getElem?_eq_some_iff.1 h2a).1
      have ht : (39 :: r).take (spanL r + 2) = 39 :: (r.takeWhile insideB ++ [39]) := by
        rw [List.take_succ_cons, List.take_succ_eq_append_getElem hlt, (List.getElem?_eq_some_iff.1 h2a).2]
        congr 2
        exact takeWhile_len_take r
      have hs := spanL_takeW r []
      have hlen : (r.takeWhile insideB).length = spanL r := rfl
      show quotedB ((39 :: r).take (spanL r + 2)) = true
      rw [ht]
      unfold quotedB
      rw [List.drop_succ_cons, List.drop_zero, hs]
      simp [hlen]
      refine ⟨⟨⟨by omega, ?_⟩, h2b⟩, by omega⟩
      rw [show (39 :: (r.takeWhile insideB ++ [(39 : UInt8)]))[1 + spanL r]? = (r.takeWhile insideB ++ [(39 : UInt8)])[spanL r]? by rw [Nat.add_comm]; rfl]
      rw [List.getElem?_append_right (by omega), hlen]
      simp
    split at he
    · unfold markL at he
      split at he
      · injection he with he; obtain ⟨rfl, rfl⟩ := Prod.mk.inj he; exact ⟨⟨(fun h => by cases h), (fun h => by cases h)⟩, fun _ => by omega⟩
      split at he
      · injection he with he; obtain ⟨rfl, rfl⟩ := Prod.mk.inj he; exact ⟨⟨(fun h => by cases h), (fun h => by cases h)⟩, fun _ => by omega⟩
      split at he
      · injection he with he; obtain ⟨rfl, rfl⟩ := Prod.mk.inj he; exact ⟨⟨(fun h => by cases h), (fun h => by cases h)⟩, fun _ => by omega⟩
      · cases he
    split at he
    · rename_i hc
      split at he
      · cases he
      rename_i h24
      injection he with he
      obtain ⟨rfl, rfl⟩ := Prod.mk.inj he
      have hcl : letB c = true := by unfold letB; simp [hc]
      refine ⟨⟨fun _ => ?_, (fun h => by cases h)⟩, fun _ => by unfold spanBy; simp [hcl]⟩
      show okName ((c :: r).take (spanBy letB (c :: r))) = true
      unfold spanBy at h24 ⊢
      rw [takeWhile_len_take]
      rw [List.takeWhile_cons, if_pos hcl] at h24 ⊢
      unfold okName nameB
      have := takeWhile_all (p := letB) r
      have e : ((r.takeWhile letB).all fun d => classOf d == 4 || classOf d == 3) = true := this
      simp only [e, hc, Bool.and_true]
      simp at h24 ⊢
      omega
    split at he
    · rename_i hs
      injection he with he
      obtain ⟨rfl, rfl⟩ := Prod.mk.inj he
      refine ⟨⟨fun h => ?_, fun h => ?_⟩, fun _ => by omega⟩
      · unfold signL at h; split at h; · cases h
        split at h; · cases h
        split at h <;> cases h
      · unfold signL at h; split at h; · cases h
        split at h; · cases h
        split at h <;> cases h
    · cases he
theorem toks_ok {sz : Nat} : ∀ (f p : Nat) (l : List UInt8) {ts : List Tk}, toksL sz f p l = .ok ts → Okays ts
  | 0, _, _, _, he => by cases he
  | f + 1, p, l, ts, he => by
    simp only [toksL] at he
    split at he
    · injection he with he; subst he
      intro t ht
      rw [List.mem_singleton.1 ht]
      exact ⟨(fun h => by cases h), (fun h => by cases h)⟩
    · cases ho : oneL sz p l with
      | error e => rw [ho] at he; cases he
      | ok q =>
        obtain ⟨k, n⟩ := q
        rw [ho] at he
        simp only at he
        cases hq : toksL sz f (p + n) (l.drop n) with
        | error e => rw [hq] at he; cases he
        | ok ts' =>
          rw [hq] at he
          injection he with he
          subst he
          have ih := toks_ok f _ _ hq
          split
          · exact ih
          · intro t ht
            rcases List.mem_cons.1 ht with rfl | ht
            · exact (one_ok ho).1
            · exact ih t ht
/-- A grammar that may be, in order. -/
structure PG.Good (g : PG) : Prop where
  g1 : g.T.length ≤ 120
  g2 : g.N.length ≤ 120
  g3 : g.R.length ≤ 300
  g4 : ∀ r ∈ g.R, r.2.length ≤ 8
  g5 : ∀ s ∈ g.T, (okName s || quotedB s) = true
  g6 : ∀ s ∈ g.N, okName s = true
  g7 : (g.T ++ g.N).Nodup
  g8 : g.T.length < g.s ∧ g.s ≤ g.T.length + g.N.length
  g9 : ∀ r ∈ g.R, (g.T.length < r.1 ∧ r.1 ≤ g.T.length + g.N.length) ∧ ∀ a ∈ r.2, 1 ≤ a ∧ a ≤ g.T.length + g.N.length
  g10 : g.R.Nodup
  g11 : ∀ i, i < g.N.length → ∃ r ∈ g.R, r.1 = g.T.length + 1 + i
  g12 : ∀ i j, i < j → j < g.N.length → g.R.findIdx (fun r => r.1 == g.T.length + 1 + i) < g.R.findIdx (fun r => r.1 == g.T.length + 1 + j)
theorem headsB_inv {x : Txt} {T : List Nme} (hx : x.okay) (he : headsB x = .ok T) :
    (T.length ≤ 120 ∧ T.Nodup ∧ ∀ s ∈ T, (okName s || quotedB s) = true) ∧ ∀ st l, x.starts = st :: l → leftOf x st.s = true := by
  unfold headsB at he
  cases hd : declL (leftOf x) (markT x) x.decl [] with
  | error e => rw [hd] at he; simp only at he; split at he <;> cases he
  | ok T1 =>
    rw [hd] at he
    simp only at he
    split at he
    · cases he
    injection he with he
    subst he
    refine ⟨decl_inv x.decl (markT x) hx.decl (by simp) (by simp) (by simp) hd, ?_⟩
    intro st l hs
    have : ∃ m, markT x = some (m, st) := by
      unfold markT
      rw [hs]
      cases hm : x.marks with
      | nil => have := hx.same; rw [hm, hs] at this; simp at this
      | cons m ms => exact ⟨m, rfl⟩
    obtain ⟨m, hm⟩ := this
    rw [hm] at hd
    exact decl_start _ hd
theorem name_not_quoted {s : Nme} (h : okName s = true) : quotedB s = false := by
  cases s with
  | nil => rfl
  | cons c r =>
    by_cases hc : c = 39
    · subst hc
      exfalso
      have : okName (39 :: r) = false := by
        show ((classOf 39 == 4 && (r.all fun d => classOf d == 4 || classOf d == 3)) && decide ((39 :: r).length ≤ 24)) = false
        rw [show (classOf 39 == 4) = false from rfl]; rfl
      rw [this] at h
      cases h
    · unfold quotedB
      simp [hc]
theorem findL_T {T N : List Nme} {s : Nme} (h : s ∈ T) : findL T N s = T.idxOf s + 1 := by unfold findL; rw [if_pos (by simpa using h)]
theorem findL_N {T N : List Nme} {s : Nme} (h : s ∉ T) (h2 : s ∈ N) : findL T N s = T.length + N.idxOf s + 1 := by unfold findL; rw [if_neg (by simpa using h), if_pos (by simpa using h2)]
theorem findL_inj {T N : List Nme} {a c : Nme} (ha : a ∈ T ∨ a ∈ N) (hc : c ∈ T ∨ c ∈ N) (h : findL T N a = findL T N c) : a = c := by
  have inj : ∀ {L : List Nme} {a c : Nme}, a ∈ L → c ∈ L → L.idxOf a = L.idxOf c → a = c := by
    intro L a c ha hc h
    have h1 := List.getElem_idxOf (List.idxOf_lt_length_of_mem ha)
    have h2 := List.getElem_idxOf (List.idxOf_lt_length_of_mem hc)
    rw [← h1, ← h2]
    congr 1
  by_cases a1 : a ∈ T
  · have l1 := List.idxOf_lt_length_of_mem a1
    rw [findL_T a1] at h
    by_cases c1 : c ∈ T
    · rw [findL_T c1] at h
      exact inj a1 c1 (by omega)
    · rw [findL_N c1 (hc.resolve_left c1)] at h
      omega
  · rw [findL_N a1 (ha.resolve_left a1)] at h
    by_cases c1 : c ∈ T
    · have l1 := List.idxOf_lt_length_of_mem c1
      rw [findL_T c1] at h
      omega
    · rw [findL_N c1 (hc.resolve_left c1)] at h
      exact inj (ha.resolve_left a1) (hc.resolve_left c1) (by omega)
theorem findIdx_same {α : Type} {p q : α → Bool} : ∀ {l : List α}, (∀ x ∈ l, p x = q x) → l.findIdx p = l.findIdx q
  | [], _ => rfl
  | a :: r, h => by
    rw [List.findIdx_cons, List.findIdx_cons, h a (by simp), findIdx_same (fun x hx => h x (by simp [hx]))]
theorem build_good {x : Txt} {g : PG} (hx : x.okay) (hr : ∀ r ∈ x.rules, r.okay) (hne : x.rules ≠ []) (he : buildL x = .ok g) : g.Good := by
  unfold buildL at he
  cases hh : headsB x with
  | error e => rw [hh] at he; cases he
  | ok T =>
    rw [hh] at he
    simp only at he
    obtain ⟨⟨t1, t2, t3⟩, hst⟩ := headsB_inv hx hh
    cases hb : rulesB (leftOf x) T.length ⟨T, [], []⟩ x.rules with
    | error e => rw [hb] at he; cases he
    | ok b =>
      rw [hb] at he
      injection he with he
      subst he
      have hi0 : BInv (leftOf x) T.length ⟨T, [], []⟩ := ⟨t1, by simp, by simp, t2, by simp, t3, by simp, by simp, by simp, Nat.le_refl _, by simp, by simp⟩
      obtain ⟨hi, ho, _, hl⟩ := BInv.rules x.rules hi0 ⟨by simp, by simp⟩ hr hb
      have hlf : ∀ s, leftOf x s = true → s ∈ b.N := by
        intro s hs
        unfold leftOf at hs
        obtain ⟨r, hr1, hr2⟩ := List.any_eq_true.1 hs
        rw [← beq_iff_eq.1 hr2]
        exact hl r hr1
      have hdis : ∀ s ∈ b.N, s ∉ b.T := by
        intro s hs ht
        rw [← List.take_append_drop T.length b.T] at ht
        rcases List.mem_append.1 ht with ht | ht
        · exact hi.i9 s hs ht
        · have := hi.i8 s ht
          rw [name_not_quoted (hi.i7 s hs)] at this
          cases this
      have hN : ∀ s ∈ b.N, findL b.T b.N s = b.T.length + b.N.idxOf s + 1 := fun s hs => findL_N (hdis s hs) hs
      have hNl : ∀ s ∈ b.N, b.N.idxOf s < b.N.length := fun s hs => List.idxOf_lt_length_of_mem hs
      have hidx : ∀ i (h : i < b.N.length), b.N.idxOf b.N[i] = i := by
        intro i h
        have h1 := List.getElem_idxOf (hNl _ (List.getElem_mem h))
        exact (List.getElem_inj hi.i5).1 h1
      have hkey : ∀ i (h : i < b.N.length), ∀ r ∈ b.R, ((ruleL2 b.T b.N r).1 == b.T.length + 1 + i) = (r.head? == some b.N[i]) := by
        intro i h r hr
        obtain ⟨a, l, rfl, ha, _⟩ := hi.i10 r hr
        show (findL b.T b.N a == b.T.length + 1 + i) = (some a == some b.N[i])
        rw [hN a ha, Bool.eq_iff_iff, beq_iff_eq, beq_iff_eq, Option.some.injEq]
        constructor
        · intro e
          have e2 : b.N.idxOf a = i := by omega
          have h1 := List.getElem_idxOf (hNl a ha)
          rw [← h1]
          congr 1
        · rintro rfl
          rw [hidx i h]; omega
      have hfi : ∀ i (h : i < b.N.length), (b.R.map (ruleL2 b.T b.N)).findIdx (fun r => r.1 == b.T.length + 1 + i) = b.R.findIdx (fun r => r.head? == some b.N[i]) := by
        intro i h
        rw [List.findIdx_map]
        exact findIdx_same (fun r hr => hkey i h r hr)
      refine ⟨hi.i1, hi.i2, ?_, ?_, hi.i6, hi.i7, ?_, ?_, ?_, ?_, ?_, ?_⟩
      · show (b.R.map _).length ≤ 300
        simpa using hi.i3
      · intro r hr
        obtain ⟨r', hr', rfl⟩ := List.mem_map.1 hr
        obtain ⟨a, l, rfl, _, h8, _⟩ := hi.i10 r' hr'
        simpa [ruleL2] using h8
      · show (b.T ++ b.N).Nodup
        rw [List.nodup_append]
        refine ⟨hi.i4, hi.i5, ?_⟩
        rintro a ha c hc rfl
        exact hdis a hc ha
      · show b.T.length < (gramL x b).s ∧ (gramL x b).s ≤ b.T.length + b.N.length
        unfold gramL
        simp only
        cases hs : x.starts with
        | nil =>
          simp only
          have : 0 < b.N.length := by
            cases hrs : x.rules with
            | nil => exact absurd hrs hne
            | cons r l => exact List.length_pos_of_mem (hl r (by rw [hrs]; simp))
          omega
        | cons st l =>
          simp only
          have hm := hlf _ (hst st l hs)
          rw [hN _ hm]
          have := hNl _ hm
          omega
      · intro r hr
        obtain ⟨r', hr', rfl⟩ := List.mem_map.1 hr
        obtain ⟨a, l, rfl, ha, _, hc⟩ := hi.i10 r' hr'
        refine ⟨?_, ?_⟩
        · show b.T.length < findL b.T b.N a ∧ findL b.T b.N a ≤ b.T.length + b.N.length
          rw [hN a ha]
          have := hNl a ha
          omega
        · intro k hk
          obtain ⟨c, hcl, rfl⟩ := List.mem_map.1 hk
          show 1 ≤ findL b.T b.N c ∧ findL b.T b.N c ≤ b.T.length + b.N.length
          by_cases h1 : c ∈ b.T
          · rw [findL_T h1]
            have := List.idxOf_lt_length_of_mem h1
            omega
          · have h2 := hlf c ((hc c hcl).resolve_left h1)
            rw [hN c h2]
            have := hNl c h2
            omega
      · show (b.R.map (ruleL2 b.T b.N)).Nodup
        rw [List.Nodup, List.pairwise_map]
        refine hi.i11.imp_of_mem ?_
        intro r1 r2 hr1 hr2 hne
        obtain ⟨a1, l1, rfl, ha1, _, hc1⟩ := hi.i10 r1 hr1
        obtain ⟨a2, l2, rfl, ha2, _, hc2⟩ := hi.i10 r2 hr2
        intro e
        apply hne
        have e1 : findL b.T b.N a1 = findL b.T b.N a2 := congrArg Prod.fst e
        have e2 : l1.map (findL b.T b.N) = l2.map (findL b.T b.N) := congrArg Prod.snd e
        have hh : ∀ c, (c ∈ b.T ∨ leftOf x c = true) → (c ∈ b.T ∨ c ∈ b.N) := fun c h => h.imp id (hlf c)
        have hmap : ∀ {l1 l2 : List Nme}, (∀ c ∈ l1, c ∈ b.T ∨ c ∈ b.N) → (∀ c ∈ l2, c ∈ b.T ∨ c ∈ b.N) → l1.map (findL b.T b.N) = l2.map (findL b.T b.N) → l1 = l2 := by
          intro l1
          induction l1 with
          | nil => intro l2 _ _ e; cases l2 with
            | nil => rfl
            | cons _ _ => cases e
          | cons c r ih => intro l2 h1 h2 e; cases l2 with
            | nil => cases e
            | cons d r2 =>
              rw [List.map_cons, List.map_cons] at e
              injection e with e1 e2
              rw [findL_inj (h1 c (by simp)) (h2 d (by simp)) e1, ih (fun c hc => h1 c (by simp [hc])) (fun c hc => h2 c (by simp [hc])) e2]
        rw [findL_inj (.inr ha1) (.inr ha2) e1, hmap (fun c hc => hh c (hc1 c hc)) (fun c hc => hh c (hc2 c hc)) e2]
      · intro i hi2
        have hi2 : i < b.N.length := hi2
        obtain ⟨r, hr, h2⟩ := ho.mem b.N[i] (List.getElem_mem hi2)
        refine ⟨_, List.mem_map.2 ⟨r, hr, rfl⟩, ?_⟩
        have := hkey i hi2 r hr
        rw [h2] at this
        exact beq_iff_eq.1 (this.trans (by simp))
      · intro i j hij hj
        have hj : j < b.N.length := hj
        show (b.R.map (ruleL2 b.T b.N)).findIdx (fun r => r.1 == b.T.length + 1 + i) < (b.R.map (ruleL2 b.T b.N)).findIdx (fun r => r.1 == b.T.length + 1 + j)
        rw [hfi i (by omega), hfi j hj]
        exact ho.ord i j hij _ _ (List.getElem?_eq_getElem (by omega)) (List.getElem?_eq_getElem hj)
theorem parse_good {s : List UInt8} {g : PG} (he : parseL s = .ok g) : g.Good := by
  unfold parseL at he
  cases ht : tokens s with
  | error e => rw [ht] at he; cases he
  | ok l =>
    rw [ht] at he
    simp only at he
    have hl : Okays l := by
      unfold tokens at ht
      split at ht
      · cases ht
      · exact toks_ok _ _ _ ht
    cases hf : formL l with
    | error e => rw [hf] at he; cases he
    | ok x =>
      rw [hf] at he
      obtain ⟨h1, h2, h3⟩ := form_ok hl hf
      exact build_good h1 h2 h3 he
end Go.Proofs.YtnpjhndgdlihjaaDoor

namespace Go.Proofs.YtnpjhndgdlihjaaDoor
open Go.RowKit
set_option linter.unusedVariables false
/-- A token without its place. -/
def Tk.kn (t : Tk) : Nat × Nme := (t.k, t.s)
/-- What tokens a text's end has: their kinds and texts; their places go up. -/
def Lx (sz : Nat) (l : List UInt8) (ks : List (Nat × Nme)) : Prop :=
  ∀ p f, p + l.length = sz → l.length < f → ∃ ts, toksL sz f p l = .ok ts ∧ ts.map Tk.kn = ks ∧ ts.Pairwise (fun a b => a.p < b.p) ∧ ∀ t ∈ ts, p ≤ t.p
theorem Lx.nil (sz : Nat) : Lx sz [] [(0, [])] := by
  intro p f hp hf
  cases f with
  | zero => omega
  | succ f => exact ⟨[⟨0, [], sz⟩], rfl, rfl, by simp, by simp at hp; simp [hp]⟩
theorem Lx.tok {sz k : Nat} {a l : List UInt8} {ks : List (Nat × Nme)} (ho : ∀ p, p + (a ++ l).length = sz → oneL sz p (a ++ l) = .ok (k, a.length)) (hk : k ≠ 0) (ha : a ≠ []) (h : Lx sz l ks) : Lx sz (a ++ l) ((k, a) :: ks) := by
  intro p f hp hf
  have hal : 0 < a.length := List.length_pos_iff.2 ha
  have hap : (a ++ l).length = a.length + l.length := List.length_append
  cases f with
  | zero => omega
  | succ f =>
    obtain ⟨ts, h1, h2, h3, h4⟩ := h (p + a.length) f (by omega) (by omega)
    have hne : (a ++ l).isEmpty = false := by cases a <;> simp_all
    refine ⟨⟨k, a, p⟩ :: ts, ?_, by simp [h2, Tk.kn], ?_, ?_⟩
    · simp only [toksL, hne, ho p hp]
      simp [h1, hk]
    · exact List.pairwise_cons.2 ⟨fun t ht => by have := h4 t ht; show p < t.p; omega, h3⟩
    · intro t ht
      rcases List.mem_cons.1 ht with rfl | ht
      · exact Nat.le_refl _
      · have := h4 t ht; omega
theorem Lx.skip {sz : Nat} {a l : List UInt8} {ks : List (Nat × Nme)} (ho : ∀ p, oneL sz p (a ++ l) = .ok (0, a.length)) (ha : a ≠ []) (h : Lx sz l ks) : Lx sz (a ++ l) ks := by
  intro p f hp hf
  have hal : 0 < a.length := List.length_pos_iff.2 ha
  have hap : (a ++ l).length = a.length + l.length := List.length_append
  cases f with
  | zero => omega
  | succ f =>
    obtain ⟨ts, h1, h2, h3, h4⟩ := h (p + a.length) f (by omega) (by omega)
    have hne : (a ++ l).isEmpty = false := by cases a <;> simp_all
    refine ⟨ts, ?_, h2, h3, fun t ht => by have := h4 t ht; omega⟩
    simp only [toksL, hne, ho p]
    simp [h1]
theorem span_stop {p : UInt8 → Bool} {a l : List UInt8} (ha : a.all p = true) (hl : ∀ c, l.head? = some c → p c = false) : spanBy p (a ++ l) = a.length := by
  induction a with
  | nil =>
    cases l with
    | nil => rfl
    | cons c r => unfold spanBy; simp [hl c rfl]
  | cons c a ih =>
    simp only [List.all_cons, Bool.and_eq_true] at ha
    have h2 := ih ha.2
    unfold spanBy at h2 ⊢
    rw [List.cons_append, List.takeWhile_cons, if_pos ha.1, List.length_cons, h2, List.length_cons]
/-- It begins with no white byte. -/
def NW (l : List UInt8) : Prop := ∀ c, l.head? = some c → whiteB c = false
/-- It begins with a white byte. -/
def Wh (l : List UInt8) : Prop := ∃ c r, l = c :: r ∧ whiteB c = true
theorem one_white {sz p : Nat} {a l : List UInt8} (ha : a ≠ []) (hw : a.all whiteB = true) (hl : NW l) : oneL sz p (a ++ l) = .ok (0, a.length) := by
  have hs := span_stop hw hl
  cases a with
  | nil => exact absurd rfl ha
  | cons c r =>
    have hc : whiteB c = true := by simp only [List.all_cons, Bool.and_eq_true] at hw; exact hw.1
    rw [List.cons_append] at hs ⊢
    simp only [oneL, hc, if_true, hs]
theorem class4 : allBytes.all (fun c => classOf c != 4 || (!whiteB c && c != 47 && c != 39 && c != 37)) = true := by kernel_rfl
theorem white_let : allBytes.all (fun c => !whiteB c || !letB c) = true := by kernel_rfl
theorem Wh.stop {l : List UInt8} (h : Wh l) : ∀ c, l.head? = some c → letB c = false := by
  obtain ⟨c, r, rfl, hc⟩ := h
  intro d hd
  injection hd with hd
  subst hd
  have := List.all_eq_true.1 white_let c (mem_bytes c)
  simpa [hc] using this
theorem name_parts {a : Nme} (h : okName a = true) : ∃ c r, a = c :: r ∧ classOf c = 4 ∧ (c :: r).all letB = true ∧ (c :: r).length ≤ 24 := by
  cases a with
  | nil => cases h
  | cons c r =>
    unfold okName nameB at h
    simp only [Bool.and_eq_true, decide_eq_true_eq, beq_iff_eq] at h
    obtain ⟨⟨h4, hr⟩, hlen⟩ := h
    refine ⟨c, r, rfl, h4, ?_, hlen⟩
    have h5 : r.all letB = true := hr
    simp only [List.all_cons, h5, Bool.and_true]
    simp [letB, h4]
theorem one_name {sz p : Nat} {a l : List UInt8} (ha : okName a = true) (hl : ∀ c, l.head? = some c → letB c = false) : oneL sz p (a ++ l) = .ok (1, a.length) := by
  obtain ⟨c, r, rfl, h4, hall, hlen⟩ := name_parts ha
  have hs := span_stop hall hl
  have hb := List.all_eq_true.1 class4 c (mem_bytes c)
  simp [h4] at hb
  obtain ⟨⟨⟨b1, b2⟩, b3⟩, b4⟩ := hb
  rw [List.cons_append] at hs ⊢
  simp only [oneL, b1, b2, b3, b4, h4, hs, if_false, if_true, Bool.false_eq_true]
  rw [if_neg (by omega)]
theorem quoted_parts {a : Nme} (h : quotedB a = true) : ∃ m, a = 39 :: (m ++ [39]) ∧ m.all insideB = true ∧ m ≠ [] ∧ m.length < 23 := by
  cases a with
  | nil => cases h
  | cons c r =>
    unfold quotedB at h
    simp only [List.head?_cons, List.drop_succ_cons, List.drop_zero, Bool.and_eq_true, beq_iff_eq, decide_eq_true_eq, bne_iff_ne, ne_eq, Option.some.injEq, List.length_cons] at h
    obtain ⟨⟨rfl, ⟨⟨h1, h2⟩, h3⟩, h4⟩, h5⟩ := h
    rw [Nat.add_comm, List.getElem?_cons_succ] at h2
    have hlt : spanL r < r.length := (List.getElem?_eq_some_iff.1 h2).1
    refine ⟨r.takeWhile insideB, ?_, takeWhile_all r, ?_, ?_⟩
    · have : r = r.take (spanL r + 1) := (List.take_of_length_le (by omega)).symm
      rw [List.take_succ_eq_append_getElem hlt, (List.getElem?_eq_some_iff.1 h2).2] at this
      have e : r.take (spanL r) = r.takeWhile insideB := takeWhile_len_take r
      rw [e] at this
      rw [← this]
    · intro e
      apply h3
      unfold spanL
      rw [e]
      rfl
    · show spanL r < 23
      omega
theorem one_quoted {sz p : Nat} {a l : List UInt8} (ha : quotedB a = true) (hp : p + (a ++ l).length = sz) : oneL sz p (a ++ l) = .ok (2, a.length) := by
  obtain ⟨m, rfl, hm, hne, hlen⟩ := quoted_parts ha
  have hs : spanL (m ++ 39 :: l) = m.length := span_stop hm (by intro c hc; injection hc with hc; subst hc; rfl)
  have hml : 0 < m.length := List.length_pos_iff.2 hne
  have e : (39 :: (m ++ [39]) : Nme) ++ l = 39 :: (m ++ 39 :: l) := by simp
  rw [e] at hp ⊢
  simp at hp
  have w : whiteB 39 = false := rfl
  simp only [oneL, w, Bool.false_eq_true, if_false, show ¬ (39 : UInt8) = 47 by decide, if_true]
  unfold quoteL
  rw [hs, if_neg (by omega), if_neg, if_neg (by omega)]
  · simp
  · rintro (h | h)
    · exact h (by simp)
    · omega
theorem one_sign {sz p : Nat} {c : UInt8} {k : Nat} {l : List UInt8} (h : (c = 58 ∧ k = 3) ∨ (c = 124 ∧ k = 4) ∨ (c = 59 ∧ k = 5)) : oneL sz p ([c] ++ l) = .ok (k, 1) := by
  rcases h with ⟨rfl, rfl⟩ | ⟨rfl, rfl⟩ | ⟨rfl, rfl⟩ <;> rfl
theorem one_mark {sz p : Nat} {l : List UInt8} : oneL sz p ([37, 37] ++ l) = .ok (6, 2) := rfl
theorem one_token {sz p : Nat} {l : List UInt8} (hl : Wh l) : oneL sz p ([37, 116, 111, 107, 101, 110] ++ l) = .ok (7, 6) := by
  have hs : spanBy letB ([116, 111, 107, 101, 110] ++ l) = 5 := span_stop (a := [116, 111, 107, 101, 110]) rfl hl.stop
  have e : ([37, 116, 111, 107, 101, 110] : List UInt8) ++ l = 37 :: ([116, 111, 107, 101, 110] ++ l) := rfl
  rw [e]
  have w : whiteB 37 = false := rfl
  simp only [oneL, w, Bool.false_eq_true, if_false, show ¬ (37 : UInt8) = 47 by decide, show ¬ (37 : UInt8) = 39 by decide, if_true]
  unfold markL
  rw [hs, if_neg (by simp), if_pos (by simp)]
theorem one_start {sz p : Nat} {l : List UInt8} (hl : Wh l) : oneL sz p ([37, 115, 116, 97, 114, 116] ++ l) = .ok (8, 6) := by
  have hs : spanBy letB ([115, 116, 97, 114, 116] ++ l) = 5 := span_stop (a := [115, 116, 97, 114, 116]) rfl hl.stop
  have e : ([37, 115, 116, 97, 114, 116] : List UInt8) ++ l = 37 :: ([115, 116, 97, 114, 116] ++ l) := rfl
  rw [e]
  have w : whiteB 37 = false := rfl
  simp only [oneL, w, Bool.false_eq_true, if_false, show ¬ (37 : UInt8) = 47 by decide, show ¬ (37 : UInt8) = 39 by decide, if_true]
  unfold markL
  rw [hs, if_neg (by simp), if_neg (by simp), if_pos (by simp)]
/-- A name's kind. -/
def kn (s : Nme) : Nat × Nme := (if okName s then 1 else 2, s)
def okS (s : Nme) : Prop := (okName s || quotedB s) = true
theorem okS.head {s : Nme} (h : okS s) (l : List UInt8) : NW (s ++ l) ∧ s ≠ [] := by
  unfold okS at h
  rw [Bool.or_eq_true] at h
  rcases h with h | h
  · obtain ⟨c, r, rfl, h4, _, _⟩ := name_parts h
    refine ⟨?_, by simp⟩
    intro d hd
    injection hd with hd
    subst hd
    have hb := List.all_eq_true.1 class4 c (mem_bytes c)
    simp [h4] at hb
    exact hb.1.1.1
  · obtain ⟨m, rfl, _⟩ := quoted_parts h
    refine ⟨?_, by simp⟩
    intro d hd
    injection hd with hd
    subst hd
    rfl
theorem Lx.name {sz : Nat} {s : Nme} {l : List UInt8} {ks : List (Nat × Nme)} (hs : okS s) (hl : Wh l) (h : Lx sz l ks) : Lx sz (s ++ l) (kn s :: ks) := by
  refine Lx.tok (k := if okName s then 1 else 2) ?_ (by split <;> omega) (hs.head l).2 h
  intro p hp
  by_cases h1 : okName s = true
  · rw [if_pos h1]; exact one_name h1 hl.stop
  · rw [if_neg h1]
    unfold okS at hs
    rw [Bool.or_eq_true] at hs
    exact one_quoted (hs.resolve_left h1) hp
def bl (l : List Nme) : List UInt8 := l.flatMap fun s => 32 :: s
theorem bl_wh (ns : List Nme) {l : List UInt8} (h : Wh l) : Wh (bl ns ++ l) := by
  cases ns with
  | nil => exact h
  | cons s ns => exact ⟨32, s ++ bl ns ++ l, by simp [bl], rfl⟩
theorem Lx.names {sz : Nat} {l : List UInt8} {ks : List (Nat × Nme)} (hl : Wh l) (h : Lx sz l ks) : ∀ ns : List Nme, (∀ s ∈ ns, okS s) → Lx sz (bl ns ++ l) (ns.map kn ++ ks)
  | [], _ => h
  | s :: ns, hs => by
    have ih := Lx.names hl h ns (fun x hx => hs x (by simp [hx]))
    have e : bl (s :: ns) ++ l = [32] ++ (s ++ (bl ns ++ l)) := by simp [bl]
    rw [e]
    have h2 := Lx.name (hs s (by simp)) (bl_wh ns hl) ih
    refine Lx.skip (fun p => one_white (by simp) rfl ((hs s (by simp)).head _).1) (by simp) ?_
    simpa using h2
theorem Lx.sign {sz : Nat} {c : UInt8} {k : Nat} {l : List UInt8} {ks : List (Nat × Nme)} (hc : (c = 58 ∧ k = 3) ∨ (c = 124 ∧ k = 4) ∨ (c = 59 ∧ k = 5)) (h : Lx sz l ks) : Lx sz (c :: l) ((k, [c]) :: ks) :=
  Lx.tok (a := [c]) (fun p _ => one_sign hc) (by omega) (by simp) h
theorem NW.sign {c : UInt8} {k : Nat} (l : List UInt8) (hc : (c = 58 ∧ k = 3) ∨ (c = 124 ∧ k = 4) ∨ (c = 59 ∧ k = 5)) : NW (c :: l) := by
  intro d hd
  injection hd with hd
  subst hd
  rcases hc with ⟨rfl, _⟩ | ⟨rfl, _⟩ | ⟨rfl, _⟩ <;> rfl
theorem Lx.w10 {sz : Nat} {l : List UInt8} {ks : List (Nat × Nme)} (hl : NW l) (h : Lx sz l ks) : Lx sz (10 :: l) ks := Lx.skip (a := [10]) (fun p => one_white (by simp) rfl hl) (by simp) h
theorem Lx.w32 {sz : Nat} {l : List UInt8} {ks : List (Nat × Nme)} (hl : NW l) (h : Lx sz l ks) : Lx sz (32 :: l) ks := Lx.skip (a := [32]) (fun p => one_white (by simp) rfl hl) (by simp) h
theorem Lx.w109 {sz : Nat} {l : List UInt8} {ks : List (Nat × Nme)} (hl : NW l) (h : Lx sz l ks) : Lx sz (10 :: 9 :: l) ks := Lx.skip (a := [10, 9]) (fun p => one_white (by simp) rfl hl) (by simp) h
namespace PG
def nm (g : PG) (s : Nat) : Nme := (g.T ++ g.N).getD (s - 1) []
def rest (g : PG) : Nat → List (Nat × List Nat) → List UInt8
  | _, [] => []
  | k, r :: l => (if r.1 = k then [10, 9, 124] ++ bl (r.2.map g.nm) else (if k = 0 then [] else [10, 9, 59, 10]) ++ (g.nm r.1 ++ ([32, 58] ++ bl (r.2.map g.nm)))) ++ g.rest r.1 l
def start (g : PG) : List UInt8 := [37, 115, 116, 97, 114, 116, 32] ++ (g.nm g.s ++ [10, 37, 37, 10])
def heads (g : PG) : List UInt8 := if g.T = [] then g.start else [37, 116, 111, 107, 101, 110] ++ (bl g.T ++ ([10] ++ g.start))
def text (g : PG) : List UInt8 := g.heads ++ (g.rest 0 g.R ++ [10, 9, 59, 10])
def kns (g : PG) (s : List Nat) : List (Nat × Nme) := (s.map g.nm).map kn
def rk (g : PG) : Nat → List (Nat × List Nat) → List (Nat × Nme)
  | _, [] => []
  | k, r :: l => (if r.1 = k then (4, [124]) :: g.kns r.2 else (if k = 0 then [] else [(5, [59])]) ++ kn (g.nm r.1) :: (3, [58]) :: g.kns r.2) ++ g.rk r.1 l
def hk (g : PG) : List (Nat × Nme) := (if g.T = [] then [] else (7, [37, 116, 111, 107, 101, 110]) :: g.T.map kn) ++ [(8, [37, 115, 116, 97, 114, 116]), kn (g.nm g.s), (6, [37, 37])]
def okR (g : PG) (r : Nat × List Nat) : Prop := r.1 ≠ 0 ∧ okS (g.nm r.1) ∧ ∀ a ∈ r.2, okS (g.nm a)
theorem rest_wh (g : PG) {k : Nat} (hk : k ≠ 0) (R : List (Nat × List Nat)) : Wh (g.rest k R ++ [10, 9, 59, 10]) := by
  cases R with
  | nil => exact ⟨10, [9, 59, 10], rfl, rfl⟩
  | cons r l =>
    unfold rest
    split
    · exact ⟨10, _, rfl, rfl⟩
    · exact ⟨10, _, rfl, rfl⟩
theorem rest_lx (g : PG) {sz : Nat} : ∀ (R : List (Nat × List Nat)) (k : Nat), (∀ r ∈ R, g.okR r) → Lx sz (g.rest k R ++ [10, 9, 59, 10]) (g.rk k R ++ [(5, [59]), (0, [])])
  | [], k, _ => Lx.w109 (NW.sign _ (.inr (.inr ⟨rfl, rfl⟩))) (Lx.sign (.inr (.inr ⟨rfl, rfl⟩)) (Lx.w10 (by intro c hc; cases hc) (Lx.nil sz)))
  | r :: l, k, h => by
    obtain ⟨h0, h1, h2⟩ := h r (by simp)
    have ih := rest_lx g (sz := sz) l r.1 (fun x hx => h x (by simp [hx]))
    have hw := g.rest_wh h0 l
    have hR := Lx.names hw ih (r.2.map g.nm) (by intro s hs; obtain ⟨a, ha, rfl⟩ := List.mem_map.1 hs; exact h2 a ha)
    have hN : Lx sz (g.nm r.1 ++ (32 :: 58 :: (bl (r.2.map g.nm) ++ (g.rest r.1 l ++ [10, 9, 59, 10])))) (kn (g.nm r.1) :: (3, [58]) :: (g.kns r.2 ++ (g.rk r.1 l ++ [(5, [59]), (0, [])]))) :=
      Lx.name h1 ⟨32, _, rfl, rfl⟩ (Lx.w32 (NW.sign _ (.inl ⟨rfl, rfl⟩)) (Lx.sign (.inl ⟨rfl, rfl⟩) hR))
    unfold rest rk
    by_cases e : r.1 = k
    · rw [if_pos e, if_pos e]
      have := Lx.w109 (NW.sign _ (.inr (.inl ⟨rfl, rfl⟩))) (Lx.sign (c := 124) (.inr (.inl ⟨rfl, rfl⟩)) hR)
      simpa [kns] using this
    · rw [if_neg e, if_neg e]
      by_cases e0 : k = 0
      · rw [if_pos e0, if_pos e0]
        simpa using hN
      · rw [if_neg e0, if_neg e0]
        have := Lx.w109 (NW.sign _ (.inr (.inr ⟨rfl, rfl⟩))) (Lx.sign (c := 59) (.inr (.inr ⟨rfl, rfl⟩)) (Lx.w10 (h1.head _).1 hN))
        simpa using this
theorem start_lx (g : PG) {sz : Nat} {l : List UInt8} {ks : List (Nat × Nme)} (hs : okS (g.nm g.s)) (hl : NW l) (h : Lx sz l ks) : Lx sz (g.start ++ l) ((8, [37, 115, 116, 97, 114, 116]) :: kn (g.nm g.s) :: (6, [37, 37]) :: ks) := by
  have h1 : Lx sz ([37, 37] ++ (10 :: l)) ((6, [37, 37]) :: ks) := Lx.tok (fun p _ => one_mark) (by omega) (by simp) (Lx.w10 hl h)
  have h2 : Lx sz (10 :: ([37, 37] ++ (10 :: l))) ((6, [37, 37]) :: ks) := Lx.w10 (by intro c hc; injection hc with hc; subst hc; rfl) h1
  have h3 := Lx.name hs ⟨10, _, rfl, rfl⟩ h2
  have h4 := Lx.w32 (hs.head _).1 h3
  have h5 := Lx.tok (k := 8) (a := [37, 115, 116, 97, 114, 116]) (fun p _ => one_start ⟨32, _, rfl, rfl⟩) (by omega) (by simp) h4
  unfold start
  simpa using h5
theorem text_lx (g : PG) {sz : Nat} (hs : okS (g.nm g.s)) (hT : ∀ s ∈ g.T, okS s) (hR : ∀ r ∈ g.R, g.okR r) (hne : g.R ≠ []) : Lx sz g.text (g.hk ++ (g.rk 0 g.R ++ [(5, [59]), (0, [])])) := by
  have h1 := g.rest_lx (sz := sz) g.R 0 hR
  have hnw : NW (g.rest 0 g.R ++ [10, 9, 59, 10]) := by
    cases hh : g.R with
    | nil => exact absurd hh hne
    | cons r l =>
      obtain ⟨h0, hn, _⟩ := hR r (by rw [hh]; simp)
      unfold rest
      rw [if_neg h0, if_pos rfl]
      simpa using (hn.head _).1
  have h2 := g.start_lx hs hnw h1
  unfold text heads hk
  by_cases hT0 : g.T = []
  · rw [if_pos hT0, if_pos hT0]
    simpa using h2
  · rw [if_neg hT0, if_neg hT0]
    have h3 := Lx.names (l := 10 :: (g.start ++ (g.rest 0 g.R ++ [10, 9, 59, 10]))) ⟨10, _, rfl, rfl⟩ (Lx.w10 (by unfold start; intro c hc; injection hc with hc; subst hc; rfl) h2) g.T hT
    have hw : Wh (bl g.T ++ 10 :: (g.start ++ (g.rest 0 g.R ++ [10, 9, 59, 10]))) := bl_wh g.T ⟨10, _, rfl, rfl⟩
    have h4 := Lx.tok (k := 7) (a := [37, 116, 111, 107, 101, 110]) (fun p _ => one_token hw) (by omega) (by simp) h3
    simpa using h4
end PG
end Go.Proofs.YtnpjhndgdlihjaaDoor

namespace Go.Proofs.YtnpjhndgdlihjaaDoor
open Go.RowKit
set_option linter.unusedVariables false
def sy (q : Nat × Nme) : Bool := q.1 == 1 || q.1 == 2
theorem kn_sy (s : Nme) : sy (kn s) = true := by unfold kn; split <;> rfl
theorem symT_kn (t : Tk) : symT t = sy t.kn := rfl
theorem isK_of {k : Nat} {l : List Tk} {q : Nat × Nme} {ks : List (Nat × Nme)} (h : l.map Tk.kn = q :: ks) : isK k l = (q.1 == k) := by
  cases l with
  | nil => cases h
  | cons t r =>
    simp only [List.map_cons, List.cons.injEq] at h
    obtain ⟨rfl, _⟩ := h
    rfl
theorem kn_cons {l : List Tk} {q : Nat × Nme} {ks : List (Nat × Nme)} (h : l.map Tk.kn = q :: ks) : ∃ t r, l = t :: r ∧ t.k = q.1 ∧ t.s = q.2 ∧ r.map Tk.kn = ks := by
  cases l with
  | nil => cases h
  | cons t r =>
    simp only [List.map_cons, List.cons.injEq] at h
    obtain ⟨rfl, h⟩ := h
    exact ⟨t, r, rfl, rfl, rfl, h⟩
theorem take_sy {ks : List (Nat × Nme)} (hk : ∀ q, ks.head? = some q → sy q = false) : ∀ (a : List (Nat × Nme)) {l : List Tk}, l.map Tk.kn = a ++ ks → (∀ q ∈ a, sy q = true) → (l.takeWhile symT).map Tk.kn = a ∧ (l.dropWhile symT).map Tk.kn = ks
  | [], l, h, _ => by
    cases l with
    | nil => exact ⟨rfl, h⟩
    | cons t r =>
      have : symT t = false := by
        rw [symT_kn]
        refine hk _ ?_
        rw [List.nil_append] at h
        rw [← h]; rfl
      rw [List.takeWhile_cons, List.dropWhile_cons, this]
      exact ⟨rfl, h⟩
  | q :: a, l, h, ha => by
    obtain ⟨t, r, rfl, h1, h2, h3⟩ := kn_cons (by rw [List.cons_append] at h; exact h)
    have ht : symT t = true := by rw [symT_kn]; have : t.kn = q := Prod.ext h1 h2; rw [this]; exact ha q (by simp)
    obtain ⟨g1, g2⟩ := take_sy hk a h3 (fun x hx => ha x (by simp [hx]))
    rw [List.takeWhile_cons, List.dropWhile_cons, if_pos ht, if_pos ht]
    exact ⟨by rw [List.map_cons, g1]; exact congrArg (· :: a) (Prod.ext h1 h2), g2⟩
theorem dropW_le (l : List Tk) : (l.dropWhile symT).length ≤ l.length := (List.dropWhile_sublist symT).length_le
/-- Rules of one left side that stand together. -/
abbrev Gr := Nat × List Nat × List (List Nat)
def gather : List (Nat × List Nat) → List Gr
  | [] => []
  | r :: l => match gather l with
    | [] => [(r.1, r.2, [])]
    | (b, s, ss) :: q => if r.1 = b then (b, r.2, s :: ss) :: q else (r.1, r.2, []) :: (b, s, ss) :: q
def Gr.all (q : Gr) : List (List Nat) := q.2.1 :: q.2.2
theorem gather_none {r : Nat × List Nat} {l : List (Nat × List Nat)} (h : gather l = []) : gather (r :: l) = [(r.1, r.2, [])] := by rw [gather, h]
theorem gather_same {r : Nat × List Nat} {l : List (Nat × List Nat)} {s : List Nat} {ss : List (List Nat)} {q : List Gr} (h : gather l = (r.1, s, ss) :: q) : gather (r :: l) = (r.1, r.2, s :: ss) :: q := by rw [gather, h]; simp
theorem gather_other {r : Nat × List Nat} {l : List (Nat × List Nat)} {b : Nat} {s : List Nat} {ss : List (List Nat)} {q : List Gr} (h : gather l = (b, s, ss) :: q) (hne : ¬ r.1 = b) : gather (r :: l) = (r.1, r.2, []) :: (b, s, ss) :: q := by rw [gather, h]; simp only; rw [if_neg hne]
theorem gather_flat : ∀ R : List (Nat × List Nat), (gather R).flatMap (fun q => q.all.map fun ns => (q.1, ns)) = R
  | [] => rfl
  | r :: l => by
    have ih := gather_flat l
    cases hg : gather l with
    | nil => rw [hg] at ih; simp only [List.flatMap_nil] at ih; rw [gather_none hg]; simp [Gr.all, ← ih]
    | cons q0 q =>
      obtain ⟨b, s, ss⟩ := q0
      rw [hg] at ih
      by_cases e : r.1 = b
      · subst e
        rw [gather_same hg]
        rw [List.flatMap_cons] at ih ⊢
        rw [← ih]
        simp [Gr.all]
      · rw [gather_other hg e, List.flatMap_cons, ih]
        simp [Gr.all]
theorem gather_mem {R : List (Nat × List Nat)} {q : Gr} (hq : q ∈ gather R) {ns : List Nat} (hn : ns ∈ q.all) : (q.1, ns) ∈ R := by
  have h := gather_flat R
  rw [← h]
  exact List.mem_flatMap.2 ⟨q, hq, List.mem_map.2 ⟨ns, hn, rfl⟩⟩
theorem mem_gather {R : List (Nat × List Nat)} {r : Nat × List Nat} (hr : r ∈ R) : ∃ q ∈ gather R, q.1 = r.1 := by
  have h := gather_flat R
  rw [← h] at hr
  obtain ⟨q, hq, hm⟩ := List.mem_flatMap.1 hr
  obtain ⟨ns, _, rfl⟩ := List.mem_map.1 hm
  exact ⟨q, hq, rfl⟩
theorem firsts_gather (f : Nat → Nme) : ∀ (R : List (Nat × List Nat)) (acc : List Nme), firstsOf acc ((gather R).map fun q => f q.1) = firstsOf acc (R.map fun r => f r.1)
  | [], acc => rfl
  | r :: l, acc => by
    have ih := firsts_gather f l
    rw [List.map_cons, firstsOf, ← ih]
    cases hg : gather l with
    | nil => rw [gather_none hg]; rfl
    | cons q0 q =>
      obtain ⟨b, s, ss⟩ := q0
      by_cases e : r.1 = b
      · subst e
        rw [gather_same hg, List.map_cons, List.map_cons, firstsOf, firstsOf]
        congr 1
        by_cases hc : acc.contains (f r.1) = true
        · simp only [hc, if_true]
        · simp only [hc]
          simp
      · rw [gather_other hg e]
        rfl
def PR.kn (r : PR) : Nme × List (List (Nat × Nme)) := (r.left.s, r.sides.map fun s => s.l.map Tk.kn)
namespace PG
def pk (g : PG) (q : Gr) : Nme × List (List (Nat × Nme)) := (g.nm q.1, q.all.map g.kns)
def tl (g : PG) (ss : List (List Nat)) : List (Nat × Nme) := ss.flatMap fun s => (4, [124]) :: g.kns s
def gk (g : PG) (q : Gr) : List (Nat × Nme) := (1, g.nm q.1) :: (3, [58]) :: (g.kns q.2.1 ++ (g.tl q.2.2 ++ [(5, [59])]))
theorem kns_sy (g : PG) (s : List Nat) : ∀ q ∈ g.kns s, sy q = true := by
  intro q hq
  obtain ⟨x, _, rfl⟩ := List.mem_map.1 hq
  exact kn_sy x
theorem tl_len (g : PG) : ∀ ss : List (List Nat), ss.length ≤ (g.tl ss).length
  | [] => by simp
  | s :: ss => by have := tl_len g ss; simp [tl] at this ⊢; omega
theorem tl_head (g : PG) {ss : List (List Nat)} {q : Nat × Nme} {ks : List (Nat × Nme)} (hq : sy q = false) : ∀ u, (g.tl ss ++ q :: ks).head? = some u → sy u = false := by
  cases ss with
  | nil => intro u hu; injection hu with hu; subst hu; exact hq
  | cons s ss => intro u hu; injection hu with hu; subst hu; rfl
theorem rk_gather (g : PG) : ∀ (R : List (Nat × List Nat)) (k : Nat), k ≠ 0 → (∀ r ∈ R, r.1 ≠ 0 ∧ okName (g.nm r.1) = true) → g.rk k R ++ [(5, [59])] =
    match gather R with
    | [] => [(5, [59])]
    | (b, s, ss) :: q => if b = k then (4, [124]) :: (g.kns s ++ (g.tl ss ++ [(5, [59])])) ++ q.flatMap g.gk else (5, [59]) :: ((b, s, ss) :: q).flatMap g.gk
  | [], k, _, _ => rfl
  | r :: l, k, hk, h => by
    obtain ⟨h0, hn⟩ := h r (by simp)
    have ih := rk_gather g l r.1 h0 (fun x hx => h x (by simp [hx]))
    have hkn : kn (g.nm r.1) = (1, g.nm r.1) := by unfold kn; rw [if_pos hn]
    cases hg : gather l with
    | nil =>
      rw [hg] at ih
      rw [gather_none hg, rk, List.append_assoc, ih, hkn, if_neg hk]
      simp only
      by_cases e : r.1 = k
      · rw [if_pos e, if_pos e]; simp [tl]
      · rw [if_neg e, if_neg e]; simp [gk, tl]
    | cons q0 q =>
      obtain ⟨b, s, ss⟩ := q0
      rw [hg] at ih
      simp only at ih
      by_cases e1 : r.1 = b
      · subst e1
        rw [if_pos rfl] at ih
        rw [gather_same hg, rk, List.append_assoc, ih, hkn, if_neg hk]
        simp only
        by_cases e : r.1 = k
        · rw [if_pos e, if_pos e]; simp [tl]
        · rw [if_neg e, if_neg e]; simp [gk, tl]
      · rw [if_neg (fun e => e1 e.symm)] at ih
        rw [gather_other hg e1, rk, List.append_assoc, ih, hkn, if_neg hk]
        simp only
        by_cases e : r.1 = k
        · rw [if_pos e, if_pos e]; simp [tl]
        · rw [if_neg e, if_neg e]; simp [gk, tl]
theorem rk_all (g : PG) {R : List (Nat × List Nat)} (h : ∀ r ∈ R, r.1 ≠ 0 ∧ okName (g.nm r.1) = true) (hne : R ≠ []) : g.rk 0 R ++ [(5, [59])] = (gather R).flatMap g.gk := by
  cases R with
  | nil => exact absurd rfl hne
  | cons r l =>
    obtain ⟨h0, hn⟩ := h r (by simp)
    have ih := g.rk_gather l r.1 h0 (fun x hx => h x (by simp [hx]))
    have hkn : kn (g.nm r.1) = (1, g.nm r.1) := by unfold kn; rw [if_pos hn]
    cases hg : gather l with
    | nil =>
      rw [hg] at ih
      rw [gather_none hg, rk, List.append_assoc, ih, hkn, if_neg h0, if_pos rfl]
      simp [gk, tl]
    | cons q0 q =>
      obtain ⟨b, s, ss⟩ := q0
      rw [hg] at ih
      simp only at ih
      by_cases e1 : r.1 = b
      · subst e1
        rw [if_pos rfl] at ih
        rw [gather_same hg, rk, List.append_assoc, ih, hkn, if_neg h0, if_pos rfl]
        simp [gk, tl]
      · rw [if_neg (fun e => e1 e.symm)] at ih
        rw [gather_other hg e1, rk, List.append_assoc, ih, hkn, if_neg h0, if_pos rfl]
        simp [gk, tl]
theorem sides_of (g : PG) {q : Nat × Nme} {ks : List (Nat × Nme)} (hq : sy q = false) (h4 : q.1 ≠ 4) : ∀ (ss : List (List Nat)) (f : Nat) (a : List PS) (l : List Tk), l.map Tk.kn = g.tl ss ++ q :: ks → ss.length < f →
    ∃ S l2, sidesL f a l = (a ++ S, l2) ∧ S.map (fun s => s.l.map Tk.kn) = ss.map g.kns ∧ l2.map Tk.kn = q :: ks
  | [], f, a, l, h, hf => by
    cases f with
    | zero => omega
    | succ f =>
      refine ⟨[], l, ?_, rfl, h⟩
      unfold sidesL
      rw [isK_of h, if_neg (by simpa using h4)]
      simp
  | s :: ss, f, a, l, h, hf => by
    cases f with
    | zero => omega
    | succ f =>
      have h' : l.map Tk.kn = (4, [124]) :: (g.kns s ++ (g.tl ss ++ q :: ks)) := by rw [h]; simp [tl]
      obtain ⟨t, r, rfl, h1, h2, h3⟩ := kn_cons h'
      obtain ⟨k1, k2⟩ := take_sy (g.tl_head hq) (g.kns s) h3 (g.kns_sy s)
      obtain ⟨S, l2, e1, e2, e3⟩ := sides_of g hq h4 ss f (a ++ [sideL r]) (r.dropWhile symT) k2 (by simp at hf; omega)
      refine ⟨sideL r :: S, l2, ?_, ?_, e3⟩
      · unfold sidesL
        rw [isK_of h', if_pos (by rfl), List.drop_succ_cons, List.drop_zero, e1]
        simp
      · rw [List.map_cons, List.map_cons, e2]
        congr 1
theorem oneR_of (g : PG) {q : Gr} {ks : List (Nat × Nme)} {l : List Tk} (h : l.map Tk.kn = g.gk q ++ ks) : ∃ r l2, oneR l = .ok (r, l2) ∧ r.kn = g.pk q ∧ l2.map Tk.kn = ks := by
  obtain ⟨t, r, rfl, t1, t2, t3⟩ := kn_cons (show l.map Tk.kn = (1, g.nm q.1) :: ((3, [58]) :: (g.kns q.2.1 ++ (g.tl q.2.2 ++ (5, [59]) :: ks))) by rw [h]; simp [gk])
  have h3 := isK_of (k := 3) t3
  obtain ⟨u, r', rfl, u1, u2, u3⟩ := kn_cons t3
  obtain ⟨k1, k2⟩ := take_sy (g.tl_head (by rfl)) (g.kns q.2.1) u3 (g.kns_sy _)
  have hlen : q.2.2.length < (u :: r').length := by
    have h1 := congrArg List.length k2
    have h2 := g.tl_len q.2.2
    have h3 := dropW_le r'
    simp at h1 ⊢
    omega
  obtain ⟨S, l2, e1, e2, e3⟩ := g.sides_of (q := (5, [59])) (by rfl) (by decide) q.2.2 (u :: r').length [sideL r'] (r'.dropWhile symT) k2 hlen
  have h5 := isK_of (k := 5) e3
  obtain ⟨v, r2, rfl, v1, v2, v3⟩ := kn_cons e3
  refine ⟨⟨t, [sideL r'] ++ S⟩, r2, ?_, ?_, v3⟩
  · unfold oneR
    simp only
    rw [if_neg (by simp [t1]), h3, if_pos (by rfl), List.drop_succ_cons, List.drop_zero, e1]
    simp only
    rw [h5, if_pos (by rfl)]
    rfl
  · unfold PR.kn pk Gr.all
    simp only [List.singleton_append, List.map_cons]
    rw [e2]
    refine Prod.ext t2 ?_
    simp only
    congr 1
theorem more_of (g : PG) : ∀ (G : List Gr) (f : Nat) (a : List PR) (l : List Tk), l.map Tk.kn = G.flatMap g.gk ++ [(0, [])] → G.length < f → ∃ rs, moreR f a l = .ok (a ++ rs) ∧ rs.map PR.kn = G.map g.pk
  | [], f, a, l, h, hf => by
    cases f with
    | zero => omega
    | succ f =>
      refine ⟨[], ?_, rfl⟩
      unfold moreR
      rw [isK_of h, if_pos (by rfl)]
      simp
  | q :: G, f, a, l, h, hf => by
    cases f with
    | zero => omega
    | succ f =>
      have h' : l.map Tk.kn = g.gk q ++ (G.flatMap g.gk ++ [(0, [])]) := by rw [h]; simp
      have h0 : isK 0 l = false := by
        rw [isK_of (show l.map Tk.kn = (1, g.nm q.1) :: _ by rw [h']; rfl)]
        rfl
      obtain ⟨r, l2, e1, e2, e3⟩ := g.oneR_of h'
      obtain ⟨rs, e4, e5⟩ := more_of g G f (a ++ [r]) l2 e3 (by simp at hf; omega)
      refine ⟨r :: rs, ?_, by rw [List.map_cons, List.map_cons, e2, e5]⟩
      unfold moreR
      rw [h0, if_neg (by simp), e1]
      simp only
      rw [e4]
      simp
theorem gk_len (g : PG) : ∀ G : List Gr, G.length ≤ (G.flatMap g.gk).length
  | [] => by simp
  | q :: G => by have := gk_len g G; rw [List.flatMap_cons, List.length_append, List.length_cons]; simp only [gk, List.length_cons, List.length_append]; omega
theorem start_of (g : PG) {n : Nme} {ks : List (Nat × Nme)} {a1 a3 : Nme} (f : Nat) (x : Txt) {l : List Tk} (h : l.map Tk.kn = (8, a1) :: (1, n) :: (6, a3) :: ks) :
    ∃ t st l', headsL (f + 2) x l = .ok ({ x with marks := x.marks ++ [t.p], starts := x.starts ++ [st] }, l') ∧ l'.map Tk.kn = ks ∧ st.s = n ∧ t ∈ l := by
  have h6 := isK_of (k := 6) h
  obtain ⟨t, r, rfl, t1, t2, t3⟩ := kn_cons h
  have r1 := isK_of (k := 1) t3
  obtain ⟨st, r', rfl, s1, s2, s3⟩ := kn_cons t3
  have r6 := isK_of (k := 6) s3
  obtain ⟨u, r'', rfl, u1, u2, u3⟩ := kn_cons s3
  refine ⟨t, st, r'', ?_, u3, s2, by simp⟩
  have t1 : t.k = 8 := t1
  have e1 : headL x (t :: st :: u :: r'') = .ok ({ x with marks := x.marks ++ [t.p], starts := x.starts ++ [st] }, u :: r'') := by
    unfold headL
    simp only
    rw [if_neg (by rw [t1]; decide), if_pos t1, r1, if_pos (by rfl)]
    rfl
  rw [headsL, h6, if_neg (by simp), e1]
  simp only
  rw [headsL, r6, if_pos (by rfl)]
  rfl
structure Formed (g : PG) (x : Txt) : Prop where
  decl : x.decl.map Tk.kn = g.T.map kn
  start : ∃ m st, x.marks = [m] ∧ x.starts = [st] ∧ st.s = g.nm g.s ∧ ∀ t ∈ x.decl, t.p < m
  rules : x.rules.map PR.kn = (gather g.R).map g.pk
theorem form_of (g : PG) {l : List Tk} (hs : okName (g.nm g.s) = true) (h : l.map Tk.kn = g.hk ++ ((gather g.R).flatMap g.gk ++ [(0, [])])) (hp : l.Pairwise (fun a b => a.p < b.p)) (hne : gather g.R ≠ []) : ∃ x, formL l = .ok x ∧ Formed g x := by
  have hkn : kn (g.nm g.s) = (1, g.nm g.s) := by unfold kn; rw [if_pos hs]
  have hlen : (gather g.R).length < l.length + 1 := by
    have h1 := congrArg List.length h
    have h2 := g.gk_len (gather g.R)
    simp only [List.length_append, List.length_map, List.length_singleton] at h1
    omega
  have fin : ∀ (x : Txt) (l1 : List Tk), headsL (l.length + 1) ⟨[], [], [], []⟩ l = .ok (x, l1) → l1.map Tk.kn = (gather g.R).flatMap g.gk ++ [(0, [])] → x.decl.map Tk.kn = g.T.map kn → (∃ m st, x.marks = [m] ∧ x.starts = [st] ∧ st.s = g.nm g.s ∧ ∀ t ∈ x.decl, t.p < m) → ∃ x, formL l = .ok x ∧ Formed g x := by
    intro x l1 hh h1 hd hst
    cases hg : gather g.R with
    | nil => exact absurd hg hne
    | cons q G =>
      rw [hg, List.flatMap_cons, List.append_assoc] at h1
      rw [hg] at hlen
      obtain ⟨r, l2, e1, e2, e3⟩ := g.oneR_of h1
      obtain ⟨rs, e4, e5⟩ := g.more_of G (l.length + 1) [r] l2 e3 (by simp at hlen; omega)
      refine ⟨{ x with rules := [r] ++ rs }, ?_, ⟨hd, hst, ?_⟩⟩
      · unfold formL
        rw [hh]
        simp only
        rw [e1]
        simp only
        rw [e4]
      · rw [hg]
        simp only [List.singleton_append, List.map_cons]
        rw [e2, e5]
  unfold hk at h
  rw [hkn] at h
  by_cases hT : g.T = []
  · rw [if_pos hT] at h
    have h' : l.map Tk.kn = (8, [37, 115, 116, 97, 114, 116]) :: (1, g.nm g.s) :: (6, [37, 37]) :: ((gather g.R).flatMap g.gk ++ [(0, [])]) := by rw [h]; simp
    obtain ⟨n, hn⟩ : ∃ n, l.length + 1 = n + 2 := ⟨l.length - 1, by have := congrArg List.length h'; simp at this; omega⟩
    obtain ⟨t, st, l', e1, e2, e3, _⟩ := g.start_of n ⟨[], [], [], []⟩ h'
    refine fin ⟨[], [t.p], [st], []⟩ l' (by rw [hn]; exact e1) e2 (by rw [hT]; rfl) ⟨t.p, st, rfl, rfl, e3, by intro u hu; cases hu⟩
  · rw [if_neg hT] at h
    have h' : l.map Tk.kn = (7, [37, 116, 111, 107, 101, 110]) :: (g.T.map kn ++ ((8, [37, 115, 116, 97, 114, 116]) :: (1, g.nm g.s) :: (6, [37, 37]) :: ((gather g.R).flatMap g.gk ++ [(0, [])]))) := by rw [h]; simp
    have h6 := isK_of (k := 6) h'
    obtain ⟨n, hn⟩ : ∃ n, l.length + 1 = n + 2 + 1 := ⟨l.length - 2, by have := congrArg List.length h'; simp at this; omega⟩
    obtain ⟨t0, r, rfl, a1, a2, a3⟩ := kn_cons h'
    have a1 : t0.k = 7 := a1
    obtain ⟨k1, k2⟩ := take_sy (by intro u hu; injection hu with hu; subst hu; rfl) (g.T.map kn) a3 (by intro q hq; obtain ⟨s, _, rfl⟩ := List.mem_map.1 hq; exact kn_sy s)
    obtain ⟨t, st, l', e1, e2, e3, e4⟩ := g.start_of n ⟨[] ++ r.takeWhile symT, [], [], []⟩ k2
    have hemp : (r.takeWhile symT).isEmpty = false := by
      cases hh : r.takeWhile symT with
      | nil => rw [hh] at k1; exact absurd (List.map_eq_nil_iff.1 k1.symm) hT
      | cons _ _ => rfl
    have hhd : headL ⟨[], [], [], []⟩ (t0 :: r) = .ok (⟨[] ++ r.takeWhile symT, [], [], []⟩, r.dropWhile symT) := by
      unfold headL
      simp only
      rw [if_pos a1, hemp, if_neg (by decide)]
    refine fin ⟨r.takeWhile symT, [t.p], [st], []⟩ l' ?_ e2 k1 ⟨t.p, st, rfl, rfl, e3, ?_⟩
    · rw [hn, headsL, h6, if_neg (by decide), hhd]
      exact e1
    · intro u hu
      have hpr := (List.pairwise_cons.1 hp).2
      rw [← List.takeWhile_append_dropWhile (p := symT) (l := r)] at hpr
      exact (List.pairwise_append.1 hpr).2.2 u (by simpa using hu) t e4
end PG
end Go.Proofs.YtnpjhndgdlihjaaDoor

namespace Go.Proofs.YtnpjhndgdlihjaaDoor
open Go.RowKit
set_option linter.unusedVariables false
theorem idx_get {L : List Nme} (h : L.Nodup) {i : Nat} {s : Nme} (hs : L[i]? = some s) : L.idxOf s = i := by
  obtain ⟨hi, e⟩ := List.getElem?_eq_some_iff.1 hs
  have hm : s ∈ L := List.mem_of_getElem? hs
  have hj := List.idxOf_lt_length_of_mem hm
  have e2 := List.getElem_idxOf hj
  have hp := List.pairwise_iff_getElem.1 h
  rcases Nat.lt_trichotomy (L.idxOf s) i with h1 | h1 | h1
  · exact absurd (e2.trans e.symm) (hp _ _ hj hi h1)
  · exact h1
  · exact absurd (e.trans e2.symm) (hp _ _ hi hj h1)
namespace PG
variable {g : PG}
theorem nm_T (g : PG) {a : Nat} (h1 : 1 ≤ a) (h2 : a ≤ g.T.length) : ∃ s, g.T[a - 1]? = some s ∧ g.nm a = s := by
  refine ⟨g.T[a - 1]'(by omega), List.getElem?_eq_getElem _, ?_⟩
  unfold nm
  rw [List.getD_eq_getElem?_getD, List.getElem?_append_left (by omega), List.getElem?_eq_getElem (by omega)]
  rfl
theorem nm_N (g : PG) {a : Nat} (h1 : g.T.length < a) (h2 : a ≤ g.T.length + g.N.length) : ∃ s, g.N[a - 1 - g.T.length]? = some s ∧ g.nm a = s := by
  refine ⟨g.N[a - 1 - g.T.length]'(by omega), List.getElem?_eq_getElem _, ?_⟩
  unfold nm
  rw [List.getD_eq_getElem?_getD, List.getElem?_append_right (by omega), List.getElem?_eq_getElem (by omega)]
  rfl
theorem Good.nd (h : g.Good) : g.T.Nodup ∧ g.N.Nodup ∧ ∀ s ∈ g.T, s ∉ g.N := by
  obtain ⟨h1, h2, h3⟩ := List.nodup_append.1 h.g7
  exact ⟨h1, h2, fun s hs hn => h3 s hs s hn rfl⟩
theorem Good.find (h : g.Good) {a : Nat} (h1 : 1 ≤ a) (h2 : a ≤ g.T.length + g.N.length) : findL g.T g.N (g.nm a) = a := by
  obtain ⟨n1, n2, n3⟩ := h.nd
  by_cases ht : a ≤ g.T.length
  · obtain ⟨s, e1, e2⟩ := g.nm_T h1 ht
    rw [e2, findL_T (List.mem_of_getElem? e1), idx_get n1 e1]
    omega
  · obtain ⟨s, e1, e2⟩ := g.nm_N (by omega) h2
    have hm := List.mem_of_getElem? e1
    rw [e2, findL_N (fun hs => n3 s hs hm) hm, idx_get n2 e1]
    omega
theorem Good.inj (h : g.Good) {a c : Nat} (a1 : 1 ≤ a) (a2 : a ≤ g.T.length + g.N.length) (c1 : 1 ≤ c) (c2 : c ≤ g.T.length + g.N.length) (e : g.nm a = g.nm c) : a = c := by
  rw [← h.find a1 a2, e, h.find c1 c2]
/-- A symbol: a terminal's name, or a nonterminal's. -/
theorem Good.mem (h : g.Good) {a : Nat} (h1 : 1 ≤ a) (h2 : a ≤ g.T.length + g.N.length) : g.nm a ∈ g.T ∨ (g.T.length < a ∧ g.nm a ∈ g.N ∧ okName (g.nm a) = true) := by
  by_cases ht : a ≤ g.T.length
  · obtain ⟨s, e1, e2⟩ := g.nm_T h1 ht
    rw [e2]
    exact .inl (List.mem_of_getElem? e1)
  · obtain ⟨s, e1, e2⟩ := g.nm_N (by omega) h2
    rw [e2]
    exact .inr ⟨by omega, List.mem_of_getElem? e1, h.g6 s (List.mem_of_getElem? e1)⟩
theorem Good.okS (h : g.Good) {a : Nat} (h1 : 1 ≤ a) (h2 : a ≤ g.T.length + g.N.length) : okS (g.nm a) := by
  rcases h.mem h1 h2 with hm | ⟨_, _, hm⟩
  · exact h.g5 _ hm
  · show (okName _ || quotedB _) = true
    rw [hm]
    rfl
theorem Good.non (h : g.Good) {a : Nat} (h1 : g.T.length < a) (h2 : a ≤ g.T.length + g.N.length) : g.nm a ∈ g.N ∧ okName (g.nm a) = true ∧ g.nm a ∉ g.T := by
  obtain ⟨s, e1, e2⟩ := g.nm_N h1 h2
  have hm := List.mem_of_getElem? e1
  rw [e2]
  exact ⟨hm, h.g6 s hm, fun hs => h.nd.2.2 s hs hm⟩
/-- The first rule of a nonterminal. -/
def F (g : PG) (m : Nat) : Nat := g.R.findIdx (fun r => r.1 == g.T.length + 1 + m)
theorem Good.f_lt (h : g.Good) {m : Nat} (hm : m < g.N.length) : g.F m < g.R.length ∧ ∀ r, g.R[g.F m]? = some r → r.1 = g.T.length + 1 + m := by
  obtain ⟨r, hr, he⟩ := h.g11 m hm
  have hlt : g.F m < g.R.length := List.findIdx_lt_length_of_exists ⟨r, hr, by simp [he]⟩
  refine ⟨hlt, fun r' hr' => ?_⟩
  obtain ⟨hi, e⟩ := List.getElem?_eq_some_iff.1 hr'
  have := List.findIdx_getElem (p := fun r : Nat × List Nat => r.1 == g.T.length + 1 + m) (w := hlt)
  have e2 : g.R[g.F m] = r' := e
  unfold F at e2
  rw [e2] at this
  simpa using this
theorem Good.f_le (h : g.Good) {m i : Nat} {r : Nat × List Nat} (hr : g.R[i]? = some r) (he : r.1 = g.T.length + 1 + m) : g.F m ≤ i := by
  obtain ⟨hi, e⟩ := List.getElem?_eq_some_iff.1 hr
  by_cases hlt : i < g.F m
  · have := List.not_of_lt_findIdx (p := fun r : Nat × List Nat => r.1 == g.T.length + 1 + m) hlt
    rw [e] at this
    simp [he] at this
  · omega
theorem Good.firsts (h : g.Good) : ∀ (n i j : Nat), i + n = g.R.length → j ≤ g.N.length → (∀ m, m < g.N.length → (m < j ↔ g.F m < i)) → firstsOf (g.N.take j) ((g.R.drop i).map fun r => g.nm r.1) = g.N
  | 0, i, j, hi, hj, hm => by
    rw [List.drop_of_length_le (by omega)]
    show g.N.take j = g.N
    rw [List.take_of_length_le]
    by_cases hlt : j < g.N.length
    · have h1 := (h.f_lt hlt).1
      have := (hm j hlt).2 (by omega)
      omega
    · omega
  | n + 1, i, j, hi, hj, hm => by
    have hlt : i < g.R.length := by omega
    have hr := List.getElem?_eq_getElem hlt
    generalize g.R[i] = r at hr
    have hd : g.R.drop i = r :: g.R.drop (i + 1) := by
      rw [List.drop_eq_getElem_cons hlt]
      rw [List.getElem?_eq_getElem hlt] at hr
      injection hr with hr
      rw [hr]
    obtain ⟨⟨r1, r2⟩, _⟩ := h.g9 r (List.mem_of_getElem? hr)
    obtain ⟨m, hme⟩ : ∃ m, r.1 = g.T.length + 1 + m := ⟨r.1 - g.T.length - 1, by omega⟩
    have hml : m < g.N.length := by omega
    obtain ⟨s, s1, s2⟩ := g.nm_N r1 r2
    have hidx : r.1 - 1 - g.T.length = m := by omega
    rw [hidx] at s1
    have hfm := h.f_le hr hme
    rw [hd, List.map_cons, firstsOf, s2]
    have hsame : ∀ m', m' < g.N.length → g.F m' = i → m' = m := by
      intro m' hm' e
      have := (h.f_lt hm').2 r (by rw [e]; exact hr)
      omega
    by_cases hj' : m < j
    · have hin : (g.N.take j).contains s = true := by
        rw [List.contains_iff_mem]
        exact List.mem_of_getElem? (by rw [List.getElem?_take, if_pos hj']; exact s1)
      rw [hin, if_pos rfl]
      refine Good.firsts h n (i + 1) j (by omega) hj ?_
      intro m' hm'
      rw [hm m' hm']
      constructor
      · intro hh; omega
      · intro hh
        by_cases e : g.F m' = i
        · have := hsame m' hm' e
          subst this
          exact (hm m' hm').1 hj'
        · omega
    · have hfe : g.F m = i := by
        by_cases e : g.F m < i
        · exact absurd ((hm m hml).2 e) hj'
        · omega
      have hmj : m = j := by
        by_cases e : j < m
        · have h1 := h.g12 j m e hml
          have h1 : g.F j < g.F m := h1
          have := (hm j (by omega)).2 (by omega)
          omega
        · omega
      subst hmj
      have hout : (g.N.take m).contains s = false := by
        rw [← Bool.not_eq_true, List.contains_iff_mem]
        intro hh
        obtain ⟨k, hk⟩ := List.mem_iff_getElem?.1 hh
        rw [List.getElem?_take] at hk
        split at hk
        · rename_i hkm
          have a1 := idx_get h.nd.2.1 hk
          have a2 := idx_get h.nd.2.1 s1
          omega
        · cases hk
      rw [hout, if_neg (by decide)]
      have htake : g.N.take m ++ [s] = g.N.take (m + 1) := by
        rw [List.take_succ_eq_append_getElem hml]
        rw [List.getElem?_eq_getElem hml] at s1
        injection s1 with s1
        rw [s1]
      rw [htake]
      refine Good.firsts h n (i + 1) (m + 1) (by omega) (by omega) ?_
      intro m' hm'
      constructor
      · intro hh
        by_cases e : m' = m
        · subst e; omega
        · have := (hm m' hm').1 (by omega); omega
      · intro hh
        by_cases e : g.F m' = i
        · have := hsame m' hm' e; omega
        · have := (hm m' hm').2 (by omega); omega
theorem firsts_len : ∀ (l acc : List Nme), acc.length ≤ (firstsOf acc l).length
  | [], acc => Nat.le_refl _
  | a :: l, acc => by
    rw [firstsOf]
    refine Nat.le_trans ?_ (firsts_len l _)
    split
    · exact Nat.le_refl _
    · simp
def rn (g : PG) (a : Nat) (ns : List Nat) : List Nme := g.nm a :: ns.map g.nm
theorem decl_of {lf : Nme → Bool} {st : Tk} {m : Nat} (hs : startT lf st = .ok ()) : ∀ (l : List Tk) (T0 : List Nme), (T0 ++ l.map Tk.s).Nodup → (T0 ++ l.map Tk.s).length ≤ 120 → (∀ t ∈ l, t.p < m) → declL lf (some (m, st)) l T0 = .ok (T0 ++ l.map Tk.s)
  | [], T0, _, _, _ => by unfold declL; rw [hs]; simp
  | t :: l, T0, h1, h2, h3 => by
    have hp := h3 t (by simp)
    unfold declL
    rw [if_neg (by omega)]
    have e : T0 ++ (t :: l).map Tk.s = (T0 ++ [t.s]) ++ l.map Tk.s := by simp
    have ht : t.s ∉ T0 := by
      intro hh
      exact (List.nodup_append.1 h1).2.2 t.s hh t.s (by simp) rfl
    have hd : declT T0 t = .ok (T0 ++ [t.s]) := by
      unfold declT
      rw [if_neg (by simpa using ht), if_neg (by simp at h2; omega)]
    rw [hd]
    simp only
    rw [decl_of hs l (T0 ++ [t.s]) (e ▸ h1) (e ▸ h2) (fun u hu => h3 u (by simp [hu])), e]
theorem syms_of {lf : Nme → Bool} {b : Bd} : ∀ (l : List Tk) (k : Nat), (∀ t ∈ l, t.s ∈ b.T ∨ (t.k = 1 ∧ lf t.s = true)) → k + l.length ≤ 8 → symsB lf b k l = .ok b
  | [], k, _, _ => rfl
  | t :: l, k, h, hk => by
    simp at hk
    have e : symbolB lf b t k = .ok b := by
      unfold symbolB
      rw [if_neg (by omega)]
      by_cases hm : t.s ∈ b.T
      · rw [if_pos (by simpa using hm)]
      · rw [if_neg (by simpa using hm)]
        obtain ⟨h1, h2⟩ := (h t (by simp)).resolve_left hm
        rw [if_neg (by omega), if_pos h2]
    unfold symsB
    rw [e]
    exact syms_of l (k + 1) (fun u hu => h u (by simp [hu])) (by omega)
theorem kns_s {l : List Tk} {ns : List Nat} (h : l.map Tk.kn = g.kns ns) : l.map Tk.s = ns.map g.nm := by
  have := congrArg (List.map Prod.snd) h
  rw [List.map_map] at this
  have e1 : Prod.snd ∘ Tk.kn = Tk.s := rfl
  rw [e1] at this
  rw [this]
  unfold kns
  rw [List.map_map, List.map_map]
  rfl
/-- A right side that may stand. -/
def Sd (g : PG) (ns : List Nat) : Prop := ns.length ≤ 8 ∧ ∀ a ∈ ns, 1 ≤ a ∧ a ≤ g.T.length + g.N.length
theorem Good.side (h : g.Good) {lf : Nme → Bool} (hlf : ∀ a, g.T.length < a → a ≤ g.T.length + g.N.length → lf (g.nm a) = true) {b : Bd} (hb : b.T = g.T) {a : Nat} {s : PS} {ns : List Nat} (hs : s.l.map Tk.kn = g.kns ns) (hn : g.Sd ns) (hl : b.R.length < 300) (hm : g.rn a ns ∉ b.R) :
    sideB lf b (g.nm a) s = .ok { b with R := b.R ++ [g.rn a ns] } := by
  have hlen : s.l.length = ns.length := by have := congrArg List.length hs; simpa [kns] using this
  have e : symsB lf b 0 s.l = .ok b := by
    refine syms_of s.l 0 ?_ (by have := hn.1; omega)
    intro t ht
    have hk : t.kn ∈ g.kns ns := by rw [← hs]; exact List.mem_map_of_mem ht
    unfold kns at hk
    rw [List.map_map] at hk
    obtain ⟨c, hc, he⟩ := List.mem_map.1 hk
    obtain ⟨c1, c2⟩ := hn.2 c hc
    have e2 : t.s = g.nm c := (congrArg Prod.snd he).symm
    have e1 : t.k = (kn (g.nm c)).1 := (congrArg Prod.fst he).symm
    rw [e2, hb]
    rcases h.mem c1 c2 with hh | ⟨h1, h2, h3⟩
    · exact .inl hh
    · refine .inr ⟨?_, hlf c h1 c2⟩
      rw [e1]
      unfold kn
      rw [if_pos h3]
  have e3 : g.nm a :: s.l.map Tk.s = g.rn a ns := by rw [kns_s hs]; rfl
  unfold sideB
  rw [if_neg (by omega), e]
  simp only
  rw [e3, if_neg (by simpa using hm)]
theorem Good.sides (h : g.Good) {lf : Nme → Bool} (hlf : ∀ a, g.T.length < a → a ≤ g.T.length + g.N.length → lf (g.nm a) = true) {a : Nat} : ∀ (nss : List (List Nat)) (ss : List PS) (b : Bd), b.T = g.T → ss.map (fun s => s.l.map Tk.kn) = nss.map g.kns → (∀ ns ∈ nss, g.Sd ns) → (b.R ++ nss.map (g.rn a)).Nodup → (b.R ++ nss.map (g.rn a)).length ≤ 300 →
    sidesB lf (g.nm a) b ss = .ok { b with R := b.R ++ nss.map (g.rn a) }
  | [], ss, b, hb, hs, _, _, _ => by
    have : ss = [] := by simpa using hs
    subst this
    simp [sidesB]
  | ns :: nss, [], b, _, hs, _, _, _ => by simp at hs
  | ns :: nss, s :: ss, b, hb, hs, hn, h1, h2 => by
    simp only [List.map_cons, List.cons.injEq] at hs
    have e : b.R ++ (ns :: nss).map (g.rn a) = (b.R ++ [g.rn a ns]) ++ nss.map (g.rn a) := by simp
    have hm : g.rn a ns ∉ b.R := fun hh => (List.nodup_append.1 h1).2.2 _ hh (g.rn a ns) (by simp) rfl
    have e1 := h.side hlf hb (a := a) hs.1 (hn ns (by simp)) (by simp at h2; omega) hm
    unfold sidesB
    rw [e1]
    simp only
    rw [Good.sides h hlf nss ss { b with R := b.R ++ [g.rn a ns] } hb hs.2 (fun x hx => hn x (by simp [hx])) (e ▸ h1) (e ▸ h2), e]
def fl (g : PG) (q : Gr) : List (List Nme) := q.all.map (g.rn q.1)
theorem Good.rules (h : g.Good) {lf : Nme → Bool} (hlf : ∀ a, g.T.length < a → a ≤ g.T.length + g.N.length → lf (g.nm a) = true) : ∀ (G : List Gr) (rs : List PR) (b : Bd), b.T = g.T → rs.map PR.kn = G.map g.pk → (∀ q ∈ G, (g.T.length < q.1 ∧ q.1 ≤ g.T.length + g.N.length) ∧ ∀ ns ∈ q.all, g.Sd ns) →
    (firstsOf b.N (G.map fun q => g.nm q.1)).length ≤ 120 → (b.R ++ G.flatMap g.fl).Nodup → (b.R ++ G.flatMap g.fl).length ≤ 300 →
    rulesB lf g.T.length b rs = .ok ⟨g.T, firstsOf b.N (G.map fun q => g.nm q.1), b.R ++ G.flatMap g.fl⟩
  | [], rs, b, hb, hr, _, _, _, _ => by
    have : rs = [] := by simpa using hr
    subst this
    unfold rulesB
    cases b
    simp [firstsOf] at *
    exact hb
  | q :: G, [], b, _, hr, _, _, _, _ => by simp at hr
  | q :: G, r :: rs, b, hb, hr, hq, h1, h2, h3 => by
    simp only [List.map_cons, List.cons.injEq] at hr
    obtain ⟨hr1, hr2⟩ := hr
    obtain ⟨⟨a1, a2⟩, hns⟩ := hq q (by simp)
    have e1 : r.left.s = g.nm q.1 := congrArg Prod.fst hr1
    have e2 : r.sides.map (fun s => s.l.map Tk.kn) = q.all.map g.kns := congrArg Prod.snd hr1
    obtain ⟨n1, n2, n3⟩ := h.non a1 a2
    rw [List.map_cons, firstsOf] at h1
    have hlen := firsts_len (G.map fun q => g.nm q.1) (if b.N.contains (g.nm q.1) then b.N else b.N ++ [g.nm q.1])
    have el : leftB g.T.length b r.left = .ok { b with N := if b.N.contains (g.nm q.1) then b.N else b.N ++ [g.nm q.1] } := by
      unfold leftB
      rw [e1, hb, List.take_length, if_neg (by simpa using n3)]
      by_cases hc : b.N.contains (g.nm q.1) = true
      · rw [if_pos hc, if_pos hc, ← hb]
      · rw [if_neg hc, if_neg hc]
        rw [if_neg hc] at hlen
        simp only [List.length_append, List.length_singleton] at hlen
        rw [if_neg hc] at h1
        rw [if_neg (by omega), ← hb]
    have e : b.R ++ (q :: G).flatMap g.fl = (b.R ++ q.all.map (g.rn q.1)) ++ G.flatMap g.fl := by simp [fl]
    rw [e] at h2 h3
    have es := h.sides hlf (a := q.1) q.all r.sides { b with N := if b.N.contains (g.nm q.1) then b.N else b.N ++ [g.nm q.1] } hb e2 hns (List.nodup_append.1 h2).1 (by rw [List.length_append] at h3; exact Nat.le_trans (Nat.le_add_right _ _) h3)
    unfold rulesB ruleB
    rw [el]
    simp only
    rw [e1, es]
    simp only
    rw [Good.rules h hlf G rs { b with N := if b.N.contains (g.nm q.1) then b.N else b.N ++ [g.nm q.1], R := b.R ++ q.all.map (g.rn q.1) } hb hr2 (fun x hx => hq x (by simp [hx])) h1 h2 h3]
    rw [List.map_cons, firstsOf, e]
/-- What is shown is read as it was. -/
theorem Good.parse (h : g.Good) (hlen : g.text.length ≤ 8192) : parseL g.text = .ok g := by
  have hRne : g.R ≠ [] := by
    intro e
    obtain ⟨r, hr, _⟩ := h.g11 (g.s - g.T.length - 1) (by have := h.g8; omega)
    rw [e] at hr
    cases hr
  have hnon : ∀ r ∈ g.R, r.1 ≠ 0 ∧ okName (g.nm r.1) = true := fun r hr => ⟨by have := (h.g9 r hr).1.1; omega, (h.non (h.g9 r hr).1.1 (h.g9 r hr).1.2).2.1⟩
  obtain ⟨hs1, hs2, hs3⟩ := h.non h.g8.1 h.g8.2
  have hlx := g.text_lx (sz := g.text.length) (by show (okName _ || quotedB _) = true; rw [hs2]; rfl) (fun s hs => h.g5 s hs) (fun r hr => ⟨(hnon r hr).1, by show (okName _ || quotedB _) = true; rw [(hnon r hr).2]; rfl, fun a ha => h.okS ((h.g9 r hr).2 a ha).1 ((h.g9 r hr).2 a ha).2⟩) hRne
  obtain ⟨ts, t1, t2, t3, _⟩ := hlx 0 (g.text.length + 1) (by omega) (by omega)
  have htok : tokens g.text = .ok ts := by unfold tokens; rw [if_neg (by omega)]; exact t1
  have hks : g.rk 0 g.R ++ [(5, [59]), (0, [])] = (gather g.R).flatMap g.gk ++ [(0, [])] := by
    rw [← g.rk_all hnon hRne]; simp
  rw [hks] at t2
  have hgne : gather g.R ≠ [] := by
    intro e
    have := gather_flat g.R
    rw [e] at this
    exact hRne this.symm
  obtain ⟨x, hf, hx⟩ := g.form_of hs2 t2 t3 hgne
  obtain ⟨m, st, x1, x2, x3, x4⟩ := hx.start
  have hlefts : x.rules.map (fun r => r.left.s) = (gather g.R).map fun q => g.nm q.1 := by
    have := congrArg (List.map Prod.fst) hx.rules
    rw [List.map_map, List.map_map] at this
    exact this
  have hlf : ∀ a, g.T.length < a → a ≤ g.T.length + g.N.length → leftOf x (g.nm a) = true := by
    intro a a1 a2
    obtain ⟨r, hr, he⟩ := h.g11 (a - g.T.length - 1) (by omega)
    obtain ⟨q, hq, hqe⟩ := mem_gather hr
    have hm : g.nm a ∈ x.rules.map (fun r => r.left.s) := by
      rw [hlefts]
      exact List.mem_map.2 ⟨q, hq, by rw [hqe, he]; congr 1; omega⟩
    obtain ⟨r', hr', he'⟩ := List.mem_map.1 hm
    unfold leftOf
    rw [List.any_eq_true]
    exact ⟨r', hr', by simpa using he'⟩
  have hst : startT (leftOf x) st = .ok () := by
    unfold startT
    rw [x3, hlf g.s h.g8.1 h.g8.2]
    rfl
  have hdecl : x.decl.map Tk.s = g.T := by
    have := congrArg (List.map Prod.snd) hx.decl
    rw [List.map_map, List.map_map] at this
    have e1 : Prod.snd ∘ Tk.kn = Tk.s := rfl
    have e2 : Prod.snd ∘ kn = id := rfl
    rw [e1, e2, List.map_id] at this
    exact this
  have hheads : headsB x = .ok g.T := by
    have hd := decl_of (m := m) hst x.decl [] (by rw [hdecl]; exact h.nd.1) (by rw [hdecl]; exact h.g1) x4
    rw [hdecl] at hd
    unfold headsB markT
    rw [x1, x2]
    simp only
    rw [hd]
    rfl
  have hflat : (gather g.R).flatMap g.fl = g.R.map fun r => g.rn r.1 r.2 := by
    have := congrArg (List.map fun r : Nat × List Nat => g.rn r.1 r.2) (gather_flat g.R)
    rw [← this, List.map_flatMap]
    congr 1
    funext q
    unfold fl
    rw [List.map_map]
    rfl
  have hall : ∀ q ∈ gather g.R, (g.T.length < q.1 ∧ q.1 ≤ g.T.length + g.N.length) ∧ ∀ ns ∈ q.all, g.Sd ns := by
    intro q hq
    have h0 := gather_mem hq (ns := q.2.1) (by simp [Gr.all])
    refine ⟨(h.g9 _ h0).1, fun ns hn => ?_⟩
    have hm := gather_mem hq hn
    exact ⟨h.g4 _ hm, (h.g9 _ hm).2⟩
  have hfirst : firstsOf [] ((gather g.R).map fun q => g.nm q.1) = g.N := by
    rw [firsts_gather g.nm g.R []]
    have := h.firsts g.R.length 0 0 (by omega) (by omega) (fun m _ => by omega)
    simpa using this
  have hnd : ([] ++ (gather g.R).flatMap g.fl).Nodup := by
    rw [List.nil_append, hflat]
    refine List.pairwise_map.2 (List.Pairwise.imp_of_mem ?_ h.g10)
    intro r r' hr hr' hne e
    apply hne
    unfold rn at e
    simp only [List.cons.injEq] at e
    obtain ⟨e1, e2⟩ := e
    obtain ⟨⟨b1, b2⟩, b3⟩ := h.g9 r hr
    obtain ⟨⟨d1, d2⟩, d3⟩ := h.g9 r' hr'
    refine Prod.ext (h.inj (by omega) b2 (by omega) d2 e1) ?_
    have hf : ∀ l : List Nat, (∀ a ∈ l, 1 ≤ a ∧ a ≤ g.T.length + g.N.length) → (l.map g.nm).map (findL g.T g.N) = l := by
      intro l hl
      rw [List.map_map]
      refine (List.map_congr_left (fun a ha => ?_)).trans (List.map_id l)
      exact h.find (hl a ha).1 (hl a ha).2
    rw [← hf r.2 b3, e2, hf r'.2 d3]
  have hrules := h.rules hlf (gather g.R) x.rules ⟨g.T, [], []⟩ rfl hx.rules hall (by rw [hfirst]; exact h.g2) hnd (by rw [List.nil_append, hflat, List.length_map]; exact h.g3)
  have hbuild : buildL x = .ok g := by
    unfold buildL
    rw [hheads]
    simp only
    rw [hrules]
    simp only
    unfold gramL
    rw [x2]
    simp only
    rw [x3, hfirst, List.nil_append, hflat, h.find (by have := h.g8; omega) h.g8.2]
    rw [List.map_map]
    have hR : g.R.map (ruleL2 g.T g.N ∘ fun r => g.rn r.1 r.2) = g.R := by
      refine (List.map_congr_left (fun r hr => ?_)).trans (List.map_id g.R)
      obtain ⟨⟨b1, b2⟩, b3⟩ := h.g9 r hr
      show (findL g.T g.N (g.nm r.1), (r.2.map g.nm).map (findL g.T g.N)) = r
      rw [h.find (by omega) b2, List.map_map]
      refine Prod.ext rfl ?_
      exact (List.map_congr_left (fun a ha => h.find (b3 a ha).1 (b3 a ha).2)).trans (List.map_id r.2)
    rw [hR]
  unfold parseL
  rw [htok]
  simp only
  rw [hf]
  exact hbuild
end PG
end Go.Proofs.YtnpjhndgdlihjaaDoor
