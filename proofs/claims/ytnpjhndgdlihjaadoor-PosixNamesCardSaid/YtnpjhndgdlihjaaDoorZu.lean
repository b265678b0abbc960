/- The POSIX grammar's text, read by the kernel. The POSIX grammar, as the program has it. The program computes at all. -/
import Derived.Test.YtnpjhndgdlihjaaDoorZc
import Derived.Test.YtnpjhndgdlihjaaDoorZs
import Derived.Test.YtnpjhndgdlihjaaDoorZt
import Derived.Test.YtnpjhndgdlihjaaDoorZl
import Derived.Test.YtnpjhndgdlihjaaDoorZa
namespace Go.Proofs.YtnpjhndgdlihjaaDoor
open Go.RowKit
set_option linter.unusedVariables false
set_option maxRecDepth 1000000
def posixT : List UInt8 := [37, 116, 111, 107, 101, 110, 32, 87, 79, 82, 68, 32, 65, 83, 83, 73, 71, 78, 32, 78, 65, 77, 69, 32, 78, 85, 77, 32, 78, 69, 87, 76, 73, 78, 69, 32, 39, 38, 38, 39, 32, 39, 124, 124, 39, 32, 39, 59, 59, 39, 32, 39, 59, 39, 32, 39, 38, 39, 32, 39, 124, 39, 32, 39, 40, 39, 32, 39, 41, 39, 10, 37, 116, 111, 107, 101, 110, 32, 39, 60, 39, 32, 39, 62, 39, 32, 39, 62, 62, 39, 32, 39, 60, 60, 39, 32, 39, 60, 60, 45, 39, 32, 39, 60, 38, 39, 32, 39, 62, 38, 39, 32, 39, 60, 62, 39, 32, 39, 62, 124, 39, 10, 37, 116, 111, 107, 101, 110, 32, 73, 102, 32, 84, 104, 101, 110, 32, 69, 108, 115, 101, 32, 69, 108, 105, 102, 32, 70, 105, 32, 68, 111, 32, 68, 111, 110, 101, 32, 67, 97, 115, 101, 32, 69, 115, 97, 99, 32, 87, 104, 105, 108, 101, 32, 85, 110, 116, 105, 108, 32, 70, 111, 114, 32, 76, 98, 114, 97, 99, 101, 32, 82, 98, 114, 97, 99, 101, 32, 66, 97, 110, 103, 32, 73, 110, 10, 37, 115, 116, 97, 114, 116, 32, 117, 110, 105, 116, 10, 37, 37, 10, 117, 110, 105, 116, 32, 58, 32, 99, 111, 109, 112, 108, 101, 116, 101, 32, 78, 69, 87, 76, 73, 78, 69, 32, 59, 10, 99, 111, 109, 112, 108, 101, 116, 101, 32, 58, 32, 108, 105, 115, 116, 32, 124, 32, 108, 105, 115, 116, 32, 115, 101, 112, 111, 112, 32, 59, 10, 108, 105, 115, 116, 32, 58, 32, 108, 105, 115, 116, 32, 115, 101, 112, 111, 112, 32, 97, 110, 100, 111, 114, 32, 124, 32, 97, 110, 100, 111, 114, 32, 59, 10, 97, 110, 100, 111, 114, 32, 58, 32, 112, 105, 112, 101, 108, 105, 110, 101, 32, 124, 32, 97, 110, 100, 111, 114, 32, 39, 38, 38, 39, 32, 108, 105, 110, 101, 98, 114, 101, 97, 107, 32, 112, 105, 112, 101, 108, 105, 110, 101, 32, 124, 32, 97, 110, 100, 111, 114, 32, 39, 124, 124, 39, 32, 108, 105, 110, 101, 98, 114, 101, 97, 107, 32, 112, 105, 112, 101, 108, 105, 110, 101, 32, 59, 10, 112, 105, 112, 101, 108, 105, 110, 101, 32, 58, 32, 112, 105, 112, 101, 115, 32, 124, 32, 66, 97, 110, 103, 32, 112, 105, 112, 101, 115, 32, 59, 10, 112, 105, 112, 101, 115, 32, 58, 32, 99, 111, 109, 109, 97, 110, 100, 32, 124, 32, 112, 105, 112, 101, 115, 32, 39, 124, 39, 32, 108, 105, 110, 101, 98, 114, 101, 97, 107, 32, 99, 111, 109, 109, 97, 110, 100, 32, 59, 10, 99, 111, 109, 109, 97, 110, 100, 32, 58, 32, 115, 105, 109, 112, 108, 101, 32, 124, 32, 99, 111, 109, 112, 111, 117, 110, 100, 32, 124, 32, 99, 111, 109, 112, 111, 117, 110, 100, 32, 114, 101, 100, 105, 114, 115, 32, 124, 32, 102, 117, 110, 99, 116, 105, 111, 110, 32, 59, 10, 99, 111, 109, 112, 111, 117, 110, 100, 32, 58, 32, 98, 114, 97, 99, 101, 32, 124, 32, 115, 117, 98, 115, 104, 101, 108, 108, 32, 124, 32, 102, 111, 114, 99, 32, 124, 32, 99, 97, 115, 101, 99, 32, 124, 32, 105, 102, 99, 32, 124, 32, 119, 104, 105, 108, 101, 99, 32, 124, 32, 117, 110, 116, 105, 108, 99, 32, 59, 10, 115, 117, 98, 115, 104, 101, 108, 108, 32, 58, 32, 39, 40, 39, 32, 99, 108, 105, 115, 116, 32, 39, 41, 39, 32, 59, 10, 99, 108, 105, 115, 116, 32, 58, 32, 108, 105, 110, 101, 98, 114, 101, 97, 107, 32, 116, 101, 114, 109, 32, 124, 32, 108, 105, 110, 101, 98, 114, 101, 97, 107, 32, 116, 101, 114, 109, 32, 115, 101, 112, 32, 59, 10, 116, 101, 114, 109, 32, 58, 32, 116, 101, 114, 109, 32, 115, 101, 112, 32, 97, 110, 100, 111, 114, 32, 124, 32, 97, 110, 100, 111, 114, 32, 59, 10, 102, 111, 114, 99, 32, 58, 32, 70, 111, 114, 32, 78, 65, 77, 69, 32, 100, 111, 103, 114, 111, 117, 112, 32, 124, 32, 70, 111, 114, 32, 78, 65, 77, 69, 32, 115, 101, 113, 115, 101, 112, 32, 100, 111, 103, 114, 111, 117, 112, 10, 32, 124, 32, 70, 111, 114, 32, 78, 65, 77, 69, 32, 108, 105, 110, 101, 98, 114, 101, 97, 107, 32, 73, 110, 32, 115, 101, 113, 115, 101, 112, 32, 100, 111, 103, 114, 111, 117, 112, 32, 124, 32, 70, 111, 114, 32, 78, 65, 77, 69, 32, 108, 105, 110, 101, 98, 114, 101, 97, 107, 32, 73, 110, 32, 119, 111, 114, 100, 115, 32, 115, 101, 113, 115, 101, 112, 32, 100, 111, 103, 114, 111, 117, 112, 32, 59, 10, 119, 111, 114, 100, 115, 32, 58, 32, 119, 111, 114, 100, 115, 32, 87, 79, 82, 68, 32, 124, 32, 87, 79, 82, 68, 32, 59, 10, 99, 97, 115, 101, 99, 32, 58, 32, 67, 97, 115, 101, 32, 87, 79, 82, 68, 32, 108, 105, 110, 101, 98, 114, 101, 97, 107, 32, 73, 110, 32, 108, 105, 110, 101, 98, 114, 101, 97, 107, 32, 99, 97, 115, 101, 108, 105, 115, 116, 32, 69, 115, 97, 99, 10, 32, 124, 32, 67, 97, 115, 101, 32, 87, 79, 82, 68, 32, 108, 105, 110, 101, 98, 114, 101, 97, 107, 32, 73, 110, 32, 108, 105, 110, 101, 98, 114, 101, 97, 107, 32, 99, 97, 115, 101, 108, 105, 115, 116, 110, 115, 32, 69, 115, 97, 99, 32, 124, 32, 67, 97, 115, 101, 32, 87, 79, 82, 68, 32, 108, 105, 110, 101, 98, 114, 101, 97, 107, 32, 73, 110, 32, 108, 105, 110, 101, 98, 114, 101, 97, 107, 32, 69, 115, 97, 99, 32, 59, 10, 99, 97, 115, 101, 108, 105, 115, 116, 110, 115, 32, 58, 32, 99, 97, 115, 101, 108, 105, 115, 116, 32, 99, 97, 115, 101, 105, 116, 101, 109, 110, 115, 32, 124, 32, 99, 97, 115, 101, 105, 116, 101, 109, 110, 115, 32, 59, 10, 99, 97, 115, 101, 108, 105, 115, 116, 32, 58, 32, 99, 97, 115, 101, 108, 105, 115, 116, 32, 99, 97, 115, 101, 105, 116, 101, 109, 32, 124, 32, 99, 97, 115, 101, 105, 116, 101, 109, 32, 59, 10, 99, 97, 115, 101, 105, 116, 101, 109, 110, 115, 32, 58, 32, 112, 97, 116, 116, 101, 114, 110, 32, 39, 41, 39, 32, 108, 105, 110, 101, 98, 114, 101, 97, 107, 32, 124, 32, 112, 97, 116, 116, 101, 114, 110, 32, 39, 41, 39, 32, 99, 108, 105, 115, 116, 10, 32, 124, 32, 39, 40, 39, 32, 112, 97, 116, 116, 101, 114, 110, 32, 39, 41, 39, 32, 108, 105, 110, 101, 98, 114, 101, 97, 107, 32, 124, 32, 39, 40, 39, 32, 112, 97, 116, 116, 101, 114, 110, 32, 39, 41, 39, 32, 99, 108, 105, 115, 116, 32, 59, 10, 99, 97, 115, 101, 105, 116, 101, 109, 32, 58, 32, 112, 97, 116, 116, 101, 114, 110, 32, 39, 41, 39, 32, 108, 105, 110, 101, 98, 114, 101, 97, 107, 32, 39, 59, 59, 39, 32, 108, 105, 110, 101, 98, 114, 101, 97, 107, 32, 124, 32, 112, 97, 116, 116, 101, 114, 110, 32, 39, 41, 39, 32, 99, 108, 105, 115, 116, 32, 39, 59, 59, 39, 32, 108, 105, 110, 101, 98, 114, 101, 97, 107, 10, 32, 124, 32, 39, 40, 39, 32, 112, 97, 116, 116, 101, 114, 110, 32, 39, 41, 39, 32, 108, 105, 110, 101, 98, 114, 101, 97, 107, 32, 39, 59, 59, 39, 32, 108, 105, 110, 101, 98, 114, 101, 97, 107, 32, 124, 32, 39, 40, 39, 32, 112, 97, 116, 116, 101, 114, 110, 32, 39, 41, 39, 32, 99, 108, 105, 115, 116, 32, 39, 59, 59, 39, 32, 108, 105, 110, 101, 98, 114, 101, 97, 107, 32, 59, 10, 112, 97, 116, 116, 101, 114, 110, 32, 58, 32, 87, 79, 82, 68, 32, 124, 32, 112, 97, 116, 116, 101, 114, 110, 32, 39, 124, 39, 32, 87, 79, 82, 68, 32, 59, 10, 105, 102, 99, 32, 58, 32, 73, 102, 32, 99, 108, 105, 115, 116, 32, 84, 104, 101, 110, 32, 99, 108, 105, 115, 116, 32, 101, 108, 115, 101, 112, 97, 114, 116, 32, 70, 105, 32, 124, 32, 73, 102, 32, 99, 108, 105, 115, 116, 32, 84, 104, 101, 110, 32, 99, 108, 105, 115, 116, 32, 70, 105, 32, 59, 10, 101, 108, 115, 101, 112, 97, 114, 116, 32, 58, 32, 69, 108, 105, 102, 32, 99, 108, 105, 115, 116, 32, 84, 104, 101, 110, 32, 99, 108, 105, 115, 116, 32, 124, 32, 69, 108, 105, 102, 32, 99, 108, 105, 115, 116, 32, 84, 104, 101, 110, 32, 99, 108, 105, 115, 116, 32, 101, 108, 115, 101, 112, 97, 114, 116, 32, 124, 32, 69, 108, 115, 101, 32, 99, 108, 105, 115, 116, 32, 59, 10, 119, 104, 105, 108, 101, 99, 32, 58, 32, 87, 104, 105, 108, 101, 32, 99, 108, 105, 115, 116, 32, 100, 111, 103, 114, 111, 117, 112, 32, 59, 10, 117, 110, 116, 105, 108, 99, 32, 58, 32, 85, 110, 116, 105, 108, 32, 99, 108, 105, 115, 116, 32, 100, 111, 103, 114, 111, 117, 112, 32, 59, 10, 102, 117, 110, 99, 116, 105, 111, 110, 32, 58, 32, 78, 65, 77, 69, 32, 39, 40, 39, 32, 39, 41, 39, 32, 108, 105, 110, 101, 98, 114, 101, 97, 107, 32, 102, 117, 110, 98, 111, 100, 121, 32, 59, 10, 102, 117, 110, 98, 111, 100, 121, 32, 58, 32, 99, 111, 109, 112, 111, 117, 110, 100, 32, 124, 32, 99, 111, 109, 112, 111, 117, 110, 100, 32, 114, 101, 100, 105, 114, 115, 32, 59, 10, 98, 114, 97, 99, 101, 32, 58, 32, 76, 98, 114, 97, 99, 101, 32, 99, 108, 105, 115, 116, 32, 82, 98, 114, 97, 99, 101, 32, 59, 10, 100, 111, 103, 114, 111, 117, 112, 32, 58, 32, 68, 111, 32, 99, 108, 105, 115, 116, 32, 68, 111, 110, 101, 32, 59, 10, 115, 105, 109, 112, 108, 101, 32, 58, 32, 112, 114, 101, 102, 105, 120, 32, 99, 109, 100, 119, 111, 114, 100, 32, 115, 117, 102, 102, 105, 120, 32, 124, 32, 112, 114, 101, 102, 105, 120, 32, 99, 109, 100, 119, 111, 114, 100, 32, 124, 32, 112, 114, 101, 102, 105, 120, 32, 124, 32, 99, 109, 100, 110, 97, 109, 101, 32, 115, 117, 102, 102, 105, 120, 32, 124, 32, 99, 109, 100, 110, 97, 109, 101, 32, 59, 10, 99, 109, 100, 110, 97, 109, 101, 32, 58, 32, 87, 79, 82, 68, 32, 124, 32, 78, 65, 77, 69, 32, 59, 10, 99, 109, 100, 119, 111, 114, 100, 32, 58, 32, 87, 79, 82, 68, 32, 59, 10, 112, 114, 101, 102, 105, 120, 32, 58, 32, 114, 101, 100, 105, 114, 32, 124, 32, 112, 114, 101, 102, 105, 120, 32, 114, 101, 100, 105, 114, 32, 124, 32, 65, 83, 83, 73, 71, 78, 32, 124, 32, 112, 114, 101, 102, 105, 120, 32, 65, 83, 83, 73, 71, 78, 32, 59, 10, 115, 117, 102, 102, 105, 120, 32, 58, 32, 114, 101, 100, 105, 114, 32, 124, 32, 115, 117, 102, 102, 105, 120, 32, 114, 101, 100, 105, 114, 32, 124, 32, 87, 79, 82, 68, 32, 124, 32, 115, 117, 102, 102, 105, 120, 32, 87, 79, 82, 68, 32, 59, 10, 114, 101, 100, 105, 114, 115, 32, 58, 32, 114, 101, 100, 105, 114, 32, 124, 32, 114, 101, 100, 105, 114, 115, 32, 114, 101, 100, 105, 114, 32, 59, 10, 114, 101, 100, 105, 114, 32, 58, 32, 105, 111, 102, 105, 108, 101, 32, 124, 32, 78, 85, 77, 32, 105, 111, 102, 105, 108, 101, 32, 124, 32, 105, 111, 104, 101, 114, 101, 32, 124, 32, 78, 85, 77, 32, 105, 111, 104, 101, 114, 101, 32, 59, 10, 105, 111, 102, 105, 108, 101, 32, 58, 32, 39, 60, 39, 32, 87, 79, 82, 68, 32, 124, 32, 39, 60, 38, 39, 32, 87, 79, 82, 68, 32, 124, 32, 39, 62, 39, 32, 87, 79, 82, 68, 32, 124, 32, 39, 62, 38, 39, 32, 87, 79, 82, 68, 32, 124, 32, 39, 62, 62, 39, 32, 87, 79, 82, 68, 32, 124, 32, 39, 60, 62, 39, 32, 87, 79, 82, 68, 32, 124, 32, 39, 62, 124, 39, 32, 87, 79, 82, 68, 32, 59, 10, 105, 111, 104, 101, 114, 101, 32, 58, 32, 39, 60, 60, 39, 32, 87, 79, 82, 68, 32, 124, 32, 39, 60, 60, 45, 39, 32, 87, 79, 82, 68, 32, 59, 10, 110, 101, 119, 108, 105, 110, 101, 115, 32, 58, 32, 78, 69, 87, 76, 73, 78, 69, 32, 124, 32, 110, 101, 119, 108, 105, 110, 101, 115, 32, 78, 69, 87, 76, 73, 78, 69, 32, 59, 10, 108, 105, 110, 101, 98, 114, 101, 97, 107, 32, 58, 32, 110, 101, 119, 108, 105, 110, 101, 115, 32, 124, 32, 59, 10, 115, 101, 112, 111, 112, 32, 58, 32, 39, 38, 39, 32, 124, 32, 39, 59, 39, 32, 59, 10, 115, 101, 112, 32, 58, 32, 115, 101, 112, 111, 112, 32, 108, 105, 110, 101, 98, 114, 101, 97, 107, 32, 124, 32, 110, 101, 119, 108, 105, 110, 101, 115, 32, 59, 10, 115, 101, 113, 115, 101, 112, 32, 58, 32, 39, 59, 39, 32, 108, 105, 110, 101, 98, 114, 101, 97, 107, 32, 124, 32, 110, 101, 119, 108, 105, 110, 101, 115, 32, 59, 10]
/-- What the grammar is asked for: its counts, an operator's name, the start's. -/
def posixB (g : PG) : Bool := g.T.length == 38 && (g.T ++ g.N)[17]? == some [39, 60, 60, 45, 39] && (g.T ++ g.N)[g.s - 1]? == some [117, 110, 105, 116] && decide (1 ≤ g.s) && decide (g.s ≤ g.T.length + g.N.length)
theorem posix_run : (match parseL posixT with | .ok g => posixB g | .error _ => false) = true := by decide +kernel
theorem posix_ok : ∃ g, parseL posixT = .ok g ∧ posixB g = true := by
  have h := posix_run
  cases hp : parseL posixT with
  | error e => rw [hp] at h; cases h
  | ok g => rw [hp] at h; exact ⟨g, rfl, h⟩
end Go.Proofs.YtnpjhndgdlihjaaDoor

namespace Go.Proofs.YtnpjhndgdlihjaaDoor
open Go.RowKit
set_option linter.unusedVariables false
/-- The grammar, as it lies. -/
def GramEnd (w : World) (e : Ending) (w' : World) : Prop := Below w.heap.size w w' ∧ ∃ tv nv Rv R g, parseL posixT = .ok g ∧ posixB g = true ∧ e = .returned (.agg #[tv, nv, Rv, .int .i64 g.s]) ∧ Has w w' tv nv Rv g R
theorem posix_size {s : ByteArray} (h : s.data.toList = posixT) : s.size ≤ 4611686018427387904 := by
  have : s.size = posixT.length := by rw [← h]; exact (Array.length_toList (xs := s.data)).symm
  rw [this]
  have : posixT.length = 2375 := by decide +kernel
  omega
theorem set4_blk {w : World} {b : Nat} {t : TypeId} {x0 x1 x2 x3 y0 y1 y2 y3 : Value} (h : Blk w b t #[x0, x1, x2, x3]) : Blk ((((w.setCell ⟨b, 0, none⟩ y0).setCell ⟨b, 1, none⟩ y1).setCell ⟨b, 2, none⟩ y2).setCell ⟨b, 3, none⟩ y3) b t #[y0, y1, y2, y3] := by
  simpa using (((h.set_ 0 y0).set_ 1 y1).set_ 2 y2).set_ 3 y3
set_option maxRecDepth 1000000 in
set_option maxHeartbeats 3200000 in
theorem pGram_any {w : World} (hm : HasMax w) : Calls Tryd.prog 12 #[] w (GramEnd w) := by
  obtain ⟨g, hg, hb⟩ := posix_ok
  have hbA : Below w.heap.size w (w.alloc (.cells ZG 30)) := below_alloc w _
  have HP : Hid (∀ s : ByteArray, s.data.toList = posixT → Calls Tryd.prog 22 #[.string s] (w.alloc (.cells ZG 30)) (PEnd (w.alloc (.cells ZG 30)) (.ok g))) := Lib.hid (fun s hs => by
    have h := parse_any s (posix_size hs) (w.alloc (.cells ZG 30)) (hm.later hbA)
    rw [hs, hg] at h
    exact h)
  have HG := Lib.hid (And.intro hg hb)
  clear hg hb hm hbA
  unfold ZG at HP
  go_enter Tryd.func12, Tryd.ntmps12
  go_wp2_with (go_at_call 22; refine (HP.out _ ?_).mono ?_)
  · kernel_rfl
  rintro e w1 ⟨hb1, tv, nv, Rv, R, rfl, hhas⟩
  have hsz := hb1.size
  simp at hsz
  have hlt : w.heap.size < w1.heap.size := by omega
  have ck0 : Blk w1 w.heap.size 30 #[.slice none 0 0, .slice none 0 0, .slice none 0 0, .int .i64 0] := (Blk.new w 30 _).below hb1 (by simp)
  have c0 := ck0.cell 0
  have c1 := ck0.cell 1
  have c2 := ck0.cell 2
  have c3 := ck0.cell 3
  have f0 := ck0.frozen 0
  have f1 := ck0.frozen 1
  have f2 := ck0.frozen 2
  have f3 := ck0.frozen 3
  simp at c0 c1 c2 c3
  have HK := Lib.hid ck0
  have HH := Lib.hid hhas
  have HB := Lib.hid hb1
  obtain ⟨A1, c1', rfl⟩ := own_shape hhas.ft
  obtain ⟨A2, c2', rfl⟩ := own_shape hhas.fn
  obtain ⟨A3, c3', rfl⟩ := own_shape hhas.fR
  clear hb1 hhas ck0
  go_wp2
  have hbk := Lib.hid ((set4_blk (y0 := .slice A1 g.T.length c1') (y1 := .slice A2 g.N.length c2') (y2 := .slice A3 R.length c3') (y3 := .int .i64 g.s) HK.out).alloc (.cells #[.slice A1 g.T.length c1', .slice A2 g.N.length c2', .slice A3 R.length c3', .int .i64 g.s] 30))
  have z0 := hbk.out.cell 0
  have z1 := hbk.out.cell 1
  have z2 := hbk.out.cell 2
  have z3 := hbk.out.cell 3
  simp only [show (#[Value.slice A1 g.T.length c1', .slice A2 g.N.length c2', .slice A3 R.length c3', .int .i64 g.s] : Array Value)[0]? = some (.slice A1 g.T.length c1') from rfl, show (#[Value.slice A1 g.T.length c1', .slice A2 g.N.length c2', .slice A3 R.length c3', .int .i64 g.s] : Array Value)[1]? = some (.slice A2 g.N.length c2') from rfl, show (#[Value.slice A1 g.T.length c1', .slice A2 g.N.length c2', .slice A3 R.length c3', .int .i64 g.s] : Array Value)[2]? = some (.slice A3 R.length c3') from rfl, show (#[Value.slice A1 g.T.length c1', .slice A2 g.N.length c2', .slice A3 R.length c3', .int .i64 g.s] : Array Value)[3]? = some (.int .i64 g.s) from rfl] at z0 z1 z2 z3
  refine bodyPost_ret (v := .agg #[.slice A1 g.T.length c1', .slice A2 g.N.length c2', .slice A3 R.length c3', .int .i64 g.s]) (by simp [results, Tryd.results12, go_sem, z0, z1, z2, z3]) rfl ?_
  have hX : Chg (fun k => k = w.heap.size) w1 ((((((w1.setCell ⟨w.heap.size, 0, none⟩ (.slice A1 g.T.length c1')).setCell ⟨w.heap.size, 1, none⟩ (.slice A2 g.N.length c2')).setCell ⟨w.heap.size, 2, none⟩ (.slice A3 R.length c3')).setCell ⟨w.heap.size, 3, none⟩ (.int .i64 g.s)).alloc (.cells #[.slice A1 g.T.length c1', .slice A2 g.N.length c2', .slice A3 R.length c3', .int .i64 g.s] 30))) :=
    (((((Chg.refl (fun k => k = w.heap.size) w1).set (p := ⟨w.heap.size, 0, none⟩) (.inr rfl) _).set (p := ⟨w.heap.size, 1, none⟩) (.inr rfl) _).set (p := ⟨w.heap.size, 2, none⟩) (.inr rfl) _).set (p := ⟨w.heap.size, 3, none⟩) (.inr rfl) _).alloc _
  refine ⟨((below_alloc w _).trans (HB.out.mono (by simp))).trans (hX.below (Nat.le_of_lt hlt) (fun k hk e => by omega)), _, _, _, R, g, HG.out.1, HG.out.2, rfl, (HH.out.chg hX (fun k hk e => by simp at hk; omega)).mono (by simp)⟩
end Go.Proofs.YtnpjhndgdlihjaaDoor

namespace Go.Proofs.YtnpjhndgdlihjaaDoor
open Go.RowKit
set_option linter.unusedVariables false
theorem name_ofP {g : PG} {l : List Ru} {s : Int} {x : Nme} (h1 : 1 ≤ s) (h : (g.T ++ g.N)[(s - 1).toNat]? = some x) : (Gm.ofP g l).name s = str x := by
  have hlt := (List.getElem?_eq_some_iff.1 h).1
  rw [List.length_append] at hlt
  have e : ((Gm.ofP g l).T ++ (Gm.ofP g l).N) = (g.T ++ g.N).map str := by
    show g.T.map str ++ g.N.map str = _
    rw [List.map_append]
  unfold Gm.name
  rw [if_neg (by omega), if_neg (by show ¬(s < 1 ∨ ((g.T.map str).length : Int) + ((g.N.map str).length : Int) < s); simp only [List.length_map]; omega), e, List.getD_eq_getElem?_getD, List.getElem?_map, h]
  rfl
theorem below_drew3 (w : World) : Below w.heap.size w w.drew := ⟨rfl, rfl, rfl, Nat.le_refl _, fun _ _ => rfl⟩
theorem res_in : resI ⟨#[105, 110]⟩ = 38 := by
  unfold resI
  simp only [Lib.toList_data]
  decide +kernel
set_option maxRecDepth 100000 in
set_option maxHeartbeats 3200000 in
theorem awake_any {w : World} (hm : HasMax w) (ht : HasTabs w) : Calls Tryd.prog 5 #[] w (fun e w' => e = .returned (.bool true) ∧ Below w.heap.size w w') := by
  have HP := Lib.hid (pGram_any hm)
  have HT := Lib.hid (fun y (hy : Below w.heap.size w y) => ht.later hy)
  clear hm ht
  go_enter Tryd.func5, Tryd.ntmps5
  go_wp2_with fail
  refine HP.out.mono ?_
  rintro e w1 ⟨hb1, tv, nv, Rv, R, g, hg, hB, rfl, hhas⟩
  have hgr := Has.gram hhas (parse_good hg)
  unfold posixB at hB
  simp only [Bool.and_eq_true, decide_eq_true_eq, beq_iff_eq] at hB
  obtain ⟨⟨⟨⟨hT38, hn1⟩, hn2⟩, hs1⟩, hs2⟩ := hB
  clear hT38
  obtain ⟨S, hS⟩ : ∃ S : Int, S = (g.s : Int) := ⟨_, rfl⟩
  have e1 : (Gm.ofP g (R.map RuG.ru)).name 18 = str [39, 60, 60, 45, 39] := name_ofP (by decide) hn1
  have e2 : (Gm.ofP g (R.map RuG.ru)).name S = str [117, 110, 105, 116] := name_ofP (by omega) (by rw [show (S - 1).toNat = g.s - 1 by omega]; exact hn2)
  have HS0 : Hid (-9223372036854775808 ≤ S) := Lib.hid (by omega)
  obtain ⟨A1, c1, rfl⟩ := own_shape hhas.ft
  obtain ⟨A2, c2, rfl⟩ := own_shape hhas.fn
  obtain ⟨A3, c3, rfl⟩ := own_shape hhas.fR
  rw [← hS] at hgr ⊢
  generalize g.T.length = nT at *
  generalize g.N.length = nN at *
  generalize R.length = nR at *
  generalize Gm.ofP g (R.map RuG.ru) = gm at hgr e1 e2
  obtain ⟨n1, hN1⟩ : ∃ n1, n1 = str [39, 60, 60, 45, 39] := ⟨_, rfl⟩
  obtain ⟨n2, hN2⟩ : ∃ n2, n2 = str [117, 110, 105, 116] := ⟨_, rfl⟩
  obtain ⟨n3, hN3⟩ : ∃ n3, n3 = spT 23 := ⟨_, rfl⟩
  rw [← hN1] at e1
  rw [← hN2] at e2
  have q1 : (n1.toList == [39, 60, 60, 45, 39]) = true := by rw [hN1, Lib.toList_data]; decide +kernel
  have q2 : (n2.toList == [117, 110, 105, 116]) = true := by rw [hN2, Lib.toList_data]; decide +kernel
  have q3 : (n3.toList == [105, 102]) = true := by rw [hN3, Lib.toList_data]; decide +kernel
  have HGR := Lib.hid hgr
  have HE1 := Lib.hid e1
  have HE2 := Lib.hid e2
  have HE3 := Lib.hid hN3
  clear hhas hg hn1 hn2 hs1 hs2 hS e1 e2 hgr hN1 hN2 hN3
  have HBX := Lib.hid (below_alloc w1 (.cells #[.slice A1 nT c1, .slice A2 nN c2, .slice A3 nR c3, .int .i64 S] 30))
  have HB3 := Lib.hid (hb1.trans (HBX.out.mono hb1.size))
  have HF3 := Lib.hid (Blk.new w1 30 #[.slice A1 nT c1, .slice A2 nN c2, .slice A3 nR c3, .int .i64 S])
  have HG3 := Lib.hid (HGR.out.later HBX.out)
  clear hb1
  go_wp2_with fail
  generalize (w1.alloc (.cells #[.slice A1 nT c1, .slice A2 nN c2, .slice A3 nR c3, .int .i64 S] 30)) = W at *
  obtain ⟨I, hI1, hI2⟩ : ∃ I : World → Prop, (∀ w', I w' → Below W.heap.size W w') ∧ (∀ w', Below W.heap.size W w' → I w') := ⟨_, fun _ h => h, fun _ h => h⟩
  have hI : I W.drew := hI2 _ (below_drew3 W)
  have hne : Nonempty (Wd I) := ⟨⟨_, hI⟩⟩
  have XI := Lib.hid (fun x : Wd I => hI1 _ x.ok)
  have XJ := Lib.hid hI2
  clear hI1 hI2
  have g0 := fun y : Wd I => (HF3.out.below (XI.out y) HF3.out.lt).cell 0
  have g1 := fun y : Wd I => (HF3.out.below (XI.out y) HF3.out.lt).cell 1
  have g2 := fun y : Wd I => (HF3.out.below (XI.out y) HF3.out.lt).cell 2
  have g3 := fun y : Wd I => (HF3.out.below (XI.out y) HF3.out.lt).cell 3
  simp at g0 g1 g2 g3
  have TY := Lib.hid (fun y : Wd I => HT.out y.w (HB3.out.trans ((XI.out y).mono HB3.out.size)))
  have CO := Lib.hid (fun y : Wd I => wd_call (I := I) (v := .int .i64 18) ((pOp_any 13 (TY.out y)).mono fun e w' hh => ⟨hh.1, hh.2 ▸ y.ok⟩))
  have CR := Lib.hid (fun y : Wd I => wd_call (I := I) (v := .int .i64 38) ((pRes_any ⟨#[105, 110]⟩ (TY.out y)).mono fun e w' hh => ⟨by rw [← res_in]; exact hh.1, hh.2 ▸ y.ok⟩))
  have CS := Lib.hid (fun y : Wd I => wd_call (I := I) (v := .string n3) ((pSpell_any 23 (by decide) (TY.out y)).mono fun e w' hh => ⟨by rw [HE3.out]; exact hh.1, hh.2 ▸ y.ok⟩))
  have CN := Lib.hid (fun y : Wd I => wd_call (I := I) (v := .string n1) ((gname_any (HG3.out.later (XI.out y)) 18 (by decide)).mono fun e w' hh => ⟨by rw [← HE1.out]; exact hh.1, XJ.out _ ((XI.out y).trans (hh.2.mono (XI.out y).size))⟩))
  have CM := Lib.hid (fun y : Wd I => wd_call (I := I) (v := .string n2) ((gname_any (HG3.out.later (XI.out y)) S HS0.out).mono fun e w' hh => ⟨by rw [← HE2.out]; exact hh.1, XJ.out _ ((XI.out y).trans (hh.2.mono (XI.out y).size))⟩))
  refine wp_region_wd I (by kernel_rfl) (by kernel_rfl) hI ?_
  repeat (go_big_quiet_step (first | (go_at_call 6; exact CO.out _) | (go_at_call 8; exact CR.out _) | (go_at_call 10; exact CS.out _) | (go_at_call 19; first | (with_reducible exact CN.out _) | (with_reducible exact CM.out _))))
  refine wpQuiet_nil ?_
  intro _ hw'
  obtain ⟨x, rfl⟩ := hw'
  have HBE := Lib.hid (HB3.out.trans ((XI.out x).mono HB3.out.size))
  clear g0 g1 g2 g3
  go_wp2
  go_ret
  exact ⟨rfl, HBE.out⟩
end Go.Proofs.YtnpjhndgdlihjaaDoor
