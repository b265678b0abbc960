/- The word machine as a plain function: bytes, states, levels. No program in sight. -/
import Derived.Lib.Strings
namespace Go.Proofs.Ytpadnckmheippaa
open Go
set_option linter.unusedVariables false

/-- A part of a word. -/
inductive PT where
  | mk (k : Int) (text op : List UInt8) (kids : List PT) (cmds : Value)
def PT.k : PT → Int | .mk k _ _ _ _ => k
def PT.text : PT → List UInt8 | .mk _ t _ _ _ => t
def PT.op : PT → List UInt8 | .mk _ _ o _ _ => o
def PT.kids : PT → List PT | .mk _ _ _ l _ => l
def PT.cmds : PT → Value | .mk _ _ _ _ c => c
def noCmds : Value := .slice none 0 0
def PT.leaf (k : Int) (t : List UInt8) : PT := .mk k t [] [] noCmds

def cNone : Nat := 0
/-- The class of a byte. -/
def classOf (c : UInt8) : Nat :=
  if c = 0 then 0 else if c = 32 ∨ c = 9 then 1 else if c = 10 then 2
  else if c = 38 ∨ c = 124 ∨ c = 59 ∨ c = 60 ∨ c = 62 ∨ c = 40 ∨ c = 41 then 5
  else if c = 39 ∨ c = 34 ∨ c = 92 ∨ c = 96 then 6
  else if c = 36 then 7
  else if 48 ≤ c ∧ c ≤ 57 then 3
  else if c = 95 ∨ (97 ≤ c ||| 32 ∧ c ||| 32 ≤ 122) then 4
  else 8
/-- Is it a parameter of one sign? -/
def special (c : UInt8) : Bool := [64, 42, 35, 63, 45, 36, 33].contains c
def quotes (c : UInt8) : Bool := [36, 96, 34, 92].contains c
def single1 (c : UInt8) : Bool := [45, 61, 63, 43].contains c

/-- What is open. -/
structure LV where
  place : Nat := 0
  parts : List PT := []
  lit : List UInt8 := []
  name : List UInt8 := []
  op : List UInt8 := []
/-- The machine. -/
structure MS where
  lower : List LV := []
  top : LV := {}
  kind : Nat := 0
  took : List UInt8 := []
  plain : List UInt8 := []
  exp : Bool := false
  quoted : Bool := false
  buf : List UInt8 := []
  deep : Nat := 0
  length : Bool := false
  cut : UInt8 := 0

def LV.flush (l : LV) : LV := if l.lit = [] then l else { l with parts := l.parts ++ [PT.leaf 1 l.lit], lit := [] }
namespace MS
def turn (m : MS) (k : Nat) : MS := { m with kind := k }
def lits (m : MS) (b : List UInt8) : MS := { m with top := { m.top with lit := m.top.lit ++ b }, took := m.took ++ b }
def add (m : MS) (p : PT) : MS := { m with top := { m.top.flush with parts := m.top.flush.parts ++ [p] } }
def push (m : MS) (l : LV) : MS := { m with lower := m.lower ++ [m.top], top := l, kind := 0 }
def closed (l : LV) : PT := if l.place = 2 then .mk 5 l.name l.op l.parts noCmds else .mk 4 [] [] l.parts noCmds
def pop (m : MS) : MS := (({ m with lower := m.lower.dropLast, top := m.lower.getLastD {} }).add (closed m.top.flush)).turn 0

/-- A byte of a level itself. -/
def text (m : MS) (c : UInt8) : MS × Nat :=
  let k := classOf c
  if c = 0 ∨ c = 96 then (m.turn 17, 3)
  else if m.top.place = 0 ∧ (k = 1 ∨ k = 2 ∨ k = 5) then (({ m with top := m.top.flush }).turn 16, 1)
  else if (m.top.place = 1 ∧ c = 34) ∨ (m.top.place = 2 ∧ c = 125) then (m.pop, 0)
  else if c = 92 then (({ m with quoted := true }).turn 1, 0)
  else if c = 39 ∧ m.top.place ≠ 1 then (({ m with quoted := true, buf := [] }).turn 12, 0)
  else if c = 34 then (({ m with quoted := true }).push { place := 1 }, 0)
  else if c = 36 then (m.turn 2, 0)
  else (m.lits [c], 0)
def escaped (m : MS) (c : UInt8) : MS × Nat :=
  if c = 0 ∨ c = 10 then (m.turn 17, 3)
  else if m.top.place = 1 ∧ quotes c = false then ((m.lits [92, c]).turn 0, 0)
  else ((({ m with took := m.took ++ [c] }).add (.leaf 2 [c])).turn 0, 0)
def dollar (m : MS) (c : UInt8) : MS × Nat :=
  let k := classOf c
  if c = 123 then (({ m with exp := true }).turn 5, 0)
  else if c = 40 then (({ m with exp := true }).turn 3, 0)
  else if k = 4 then (({ m with exp := true, buf := [c] }).turn 4, 0)
  else if k = 3 ∨ special c then ((({ m with exp := true }).add (.leaf 5 [c])).turn 0, 0)
  else ((m.lits [36]).turn 0).text c
def bare (m : MS) (c : UInt8) : MS × Nat :=
  let k := classOf c
  if k = 4 ∨ k = 3 then ({ m with buf := m.buf ++ [c] }, 0)
  else ((m.add (.leaf 5 m.buf)).turn 0).text c
def opened (m : MS) (c : UInt8) : MS × Nat :=
  if c = 40 then (({ m with buf := [], deep := 0 }).turn 13, 0) else (m.turn 15, 2)
def single (m : MS) (c : UInt8) : MS × Nat :=
  if c = 0 then (m.turn 17, 3)
  else if c = 39 then ((m.add (.leaf 3 m.buf)).turn 0, 0)
  else ({ m with buf := m.buf ++ [c], took := m.took ++ [c] }, 0)
def arith (m : MS) (c : UInt8) : MS × Nat :=
  if c = 0 then (m.turn 17, 3)
  else if c = 41 ∧ m.deep = 0 then (m.turn 14, 0)
  else if c = 41 then ({ m with deep := m.deep - 1, buf := m.buf ++ [c] }, 0)
  else if c = 40 then ({ m with deep := m.deep + 1, buf := m.buf ++ [c] }, 0)
  else ({ m with buf := m.buf ++ [c] }, 0)
def arithEnd (m : MS) (c : UInt8) : MS × Nat :=
  if c ≠ 41 then (m.turn 17, 3) else ((m.add (.leaf 7 m.buf)).turn 0, 0)
def parameter (m : MS) (c : UInt8) : MS × Nat :=
  let m' : MS := { m with buf := [c] }
  if classOf c = 4 then (m'.turn 7, 0)
  else if classOf c = 3 then (m'.turn 8, 0)
  else if special c then (m'.turn 9, 0)
  else (m'.turn 17, 3)
def head (m : MS) (c : UInt8) : MS × Nat :=
  if c = 35 then (({ m with length := true }).turn 6, 0) else ({ m with length := false }).parameter c
def hash (m : MS) (c : UInt8) : MS × Nat :=
  if c = 125 then ((m.add (.leaf 5 [35])).turn 0, 0) else m.parameter c
def operator (m : MS) (op : List UInt8) : MS := m.push { place := 2, name := m.buf, op := op }
def behind (m : MS) (c : UInt8) : MS × Nat :=
  if c = 125 then ((m.add (.mk 5 m.buf (if m.length then [108, 101, 110] else []) [] noCmds)).turn 0, 0)
  else if m.length then (m.turn 17, 3)
  else if c = 58 then (m.turn 10, 0)
  else if c = 37 ∨ c = 35 then (({ m with cut := c }).turn 11, 0)
  else if single1 c then (m.operator [c], 0)
  else (m.turn 17, 3)
def named (m : MS) (c : UInt8) : MS × Nat :=
  let k := classOf c
  if k = 3 ∨ (k = 4 ∧ m.kind = 7) then ({ m with buf := m.buf ++ [c] }, 0)
  else (m.turn 9).behind c
def colon (m : MS) (c : UInt8) : MS × Nat :=
  if single1 c = false then (m.turn 17, 3) else (m.operator [58, c], 0)
def double (m : MS) (c : UInt8) : MS × Nat :=
  if c = m.cut then (m.operator [c, c], 0) else (m.operator [m.cut]).text c

/-- What is done with the next byte. -/
def next (m : MS) (c : UInt8) : MS × Nat :=
  match m.kind with
  | 0 => m.text c | 1 => m.escaped c | 2 => m.dollar c | 3 => m.opened c | 4 => m.bare c | 5 => m.head c | 6 => m.hash c | 7 => m.named c | 8 => m.named c
  | 9 => m.behind c | 10 => m.colon c | 11 => m.double c | 12 => m.single c | 13 => m.arith c | 14 => m.arithEnd c | 16 => (m, 1) | _ => (m, 3)
def feed (m : MS) (c : UInt8) : MS × Nat :=
  let r := m.next c
  if r.2 = 0 then ({ r.1 with plain := r.1.plain ++ [c] }, 0) else r
end MS
end Go.Proofs.Ytpadnckmheippaa
