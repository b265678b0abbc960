/- Grammars, plainly: what is asked of them, and how they are shown. -/
import Derived.Test.YtdbmeocpjopdhaaG3
namespace Go.Proofs.Ytdbmeocpjopdhaa
open Go.RowKit
set_option linter.unusedVariables false
/-- A rule: v is its right side as it lies. -/
structure Ru where
  left : Int
  v : Value
  right : List Int
structure Gm where
  T : List ByteArray
  N : List ByteArray
  s : Int
  R : List Ru
def okN (s : ByteArray) : Bool := okName s.data.toList
def okT (s : ByteArray) : Bool := okName s.data.toList || quotedB s.data.toList
def shortR (r : Ru) : Bool := decide (r.right.length ≤ 8)
def sameR (a b : Ru) : Bool := a.left == b.left && a.right == b.right
/-- Ascending. -/
def Asc (l : List Int) : Prop := ∀ (i : Nat) (x y : Int), l[i]? = some x → l[i + 1]? = some y → x ≤ y
/-- No two of a list are the same. -/
def Un (l : List Ru) : Prop := ∀ (i j : Nat) (x r : Ru), j < i → l[j]? = some x → l[i]? = some r → sameR x r = false
namespace Gm
def term (g : Gm) (s : Int) : Bool := decide (1 ≤ s) && decide (s ≤ (g.T.length : Int))
def non (g : Gm) (s : Int) : Bool := decide ((g.T.length : Int) < s) && decide (s ≤ (g.T.length : Int) + (g.N.length : Int))
def sym (g : Gm) (s : Int) : Bool := g.term s || g.non s
def few (g : Gm) : Bool := (decide (g.T.length ≤ 120) && decide (g.N.length ≤ 120)) && (decide (g.R.length ≤ 300) && g.R.all shortR)
def form (g : Gm) : Bool := g.T.all okT && g.N.all okN
def once (g : Gm) : Bool := decide ((g.T ++ g.N).Nodup)
def knownR (g : Gm) (r : Ru) : Bool := g.non r.left && r.right.all g.sym
def known (g : Gm) : Bool := g.non g.s && g.R.all g.knownR
open Classical in
noncomputable def unlike (g : Gm) : Bool := decide (Un g.R)
def left (k : Int) (r : Ru) : Bool := r.left == k
def each (g : Gm) : Bool := (List.range g.N.length).all fun i => g.R.any (left ((g.T.length : Int) + 1 + i))
noncomputable def check (g : Gm) : Int := if g.few then (if g.form then (if g.once then (if g.known then (if g.unlike then (if g.each then 0 else 9) else 8) else 1) else 8) else 10) else 7
/-- The first rule of a nonterminal; behind all, if it has none. -/
def first (g : Gm) (i : Nat) : Nat := g.R.findIdx (left ((g.T.length : Int) + 1 + i))
def firsts (g : Gm) : List Int := (List.range g.N.length).map fun i => (g.first i : Int)
open Classical in
noncomputable def ordered (g : Gm) : Bool := decide (Asc g.firsts)
def name (g : Gm) (s : Int) : ByteArray := if s = 0 then ⟨#[36]⟩ else if s < 1 ∨ (g.T.length : Int) + (g.N.length : Int) < s then ⟨#[]⟩ else (g.T ++ g.N).getD (s - 1).toNat ⟨#[]⟩
def rightL (g : Gm) (l : List Int) : List UInt8 := l.flatMap fun s => 32 :: (g.name s).data.toList
def ruleL (g : Gm) (k : Int) (l : List Int) : List UInt8 := (g.name k).data.toList ++ ([32, 58] ++ g.rightL l)
def rulesL (g : Gm) : Int → List Ru → List UInt8
  | _, [] => []
  | k, r :: l => (if r.left = k then [10, 9, 124] ++ g.rightL r.right else (if k = 0 then [] else [10, 9, 59, 10]) ++ g.ruleL r.left r.right) ++ g.rulesL r.left l
def blanksL (l : List ByteArray) : List UInt8 := l.flatMap fun s => 32 :: s.data.toList
def startL (g : Gm) : List UInt8 := [37, 115, 116, 97, 114, 116, 32] ++ ((g.name g.s).data.toList ++ [10, 37, 37, 10])
def headsL (g : Gm) : List UInt8 := if g.T = [] then g.startL else [37, 116, 111, 107, 101, 110] ++ (blanksL g.T ++ ([10] ++ g.startL))
noncomputable def showL (g : Gm) : List UInt8 := if g.check = 0 ∧ g.ordered = true then g.headsL ++ (g.rulesL 0 g.R ++ [10, 9, 59, 10]) else []
/-- No text is long. -/
def small (g : Gm) : Prop := (∀ s ∈ g.T, s.size ≤ 1048576) ∧ (∀ s ∈ g.N, s.size ≤ 1048576) ∧ g.T.length ≤ 1048576 ∧ g.N.length ≤ 1048576 ∧ g.R.length ≤ 1048576 ∧ ∀ r ∈ g.R, r.right.length ≤ 1048576
theorem name_size {g : Gm} (h : g.small) (s : Int) : (g.name s).size ≤ 1048576 := by
  unfold name
  split
  · decide
  split
  · decide
  · rw [List.getD_eq_getElem?_getD]
    cases hx : (g.T ++ g.N)[(s - 1).toNat]? with
    | none => decide
    | some a =>
      have hm := List.mem_of_getElem? hx
      rcases List.mem_append.1 hm with hm | hm
      · exact h.1 _ hm
      · exact h.2.1 _ hm
end Gm
/-- A text out of its bytes. -/
def str (l : List UInt8) : ByteArray := ⟨l.toArray⟩
theorem str_data (a : ByteArray) : str a.data.toList = a := by unfold str; simp
theorem data_str (l : List UInt8) : (str l).data.toList = l := by unfold str; simp
theorem str_append (a b : List UInt8) : str a ++ str b = str (a ++ b) := by
  apply ByteArray.ext
  unfold str
  simp
theorem str_size (l : List UInt8) : (str l).size = l.length := by unfold str; rfl
theorem append_str (l : List UInt8) (a : ByteArray) : str l ++ a = str (l ++ a.data.toList) := by rw [← str_append, str_data]
end Go.Proofs.Ytdbmeocpjopdhaa
