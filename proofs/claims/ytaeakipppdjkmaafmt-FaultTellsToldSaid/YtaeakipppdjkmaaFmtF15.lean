/- The document's answers of layer 2. -/
import Derived.Test.YtaeakipppdjkmaaFmtF13
namespace Go.Proofs.YtaeakipppdjkmaaFmt
open Go.RowKit Go.Extern.Stop Go.Stop Go.Extern
set_option linter.unusedVariables false
theorem rcode_other (e a : Int) (A : Option Addr) (n c : Nat) (w : World) : Calls Tryf.prog 15 #[.agg #[.int .i64 e, .int .i64 a, .slice A n c, .bool true]] w (RetB w (.int .i64 1)) := by
  go_enter Tryf.func15, Tryf.ntmps15
  go_wp2
  go_ret
  exact ⟨rfl, below_alloc _ _⟩
theorem rcode_own (e a : Int) (A : Option Addr) (n c : Nat) (w : World) : Calls Tryf.prog 15 #[.agg #[.int .i64 e, .int .i64 a, .slice A n c, .bool false]] w (RetB w (.int .i64 e)) := by
  go_enter Tryf.func15, Tryf.ntmps15
  go_wp2
  go_ret
  exact ⟨rfl, below_alloc _ _⟩
theorem rat_other (e a : Int) (A : Option Addr) (n c : Nat) (w : World) : Calls Tryf.prog 16 #[.agg #[.int .i64 e, .int .i64 a, .slice A n c, .bool true]] w (RetB w (.int .i64 (-1))) := by
  go_enter Tryf.func16, Tryf.ntmps16
  go_wp2
  go_ret
  exact ⟨rfl, below_alloc _ _⟩
theorem rat_zero (a : Int) (A : Option Addr) (n c : Nat) (w : World) : Calls Tryf.prog 16 #[.agg #[.int .i64 0, .int .i64 a, .slice A n c, .bool false]] w (RetB w (.int .i64 (-1))) := by
  go_enter Tryf.func16, Tryf.ntmps16
  go_wp2
  go_ret
  exact ⟨rfl, below_alloc _ _⟩
theorem rat_own (e a : Int) (he : (e == 0) = false) (A : Option Addr) (n c : Nat) (w : World) : Calls Tryf.prog 16 #[.agg #[.int .i64 e, .int .i64 a, .slice A n c, .bool false]] w (RetB w (.int .i64 a)) := by
  go_enter Tryf.func16, Tryf.ntmps16
  go_wp2
  go_ret
  exact ⟨rfl, below_alloc _ _⟩
theorem ris_other (e a is : Int) (A : Option Addr) (n c : Nat) (w : World) : Calls Tryf.prog 18 #[.agg #[.int .i64 e, .int .i64 a, .slice A n c, .bool true], .int .i64 is] w (RetB w (.bool false)) := by
  go_enter Tryf.func18, Tryf.ntmps18
  go_wp2
  go_ret
  exact ⟨rfl, below_alloc _ _⟩
theorem ris_own (e a is : Int) (A : Option Addr) (n c : Nat) (w : World) : Calls Tryf.prog 18 #[.agg #[.int .i64 e, .int .i64 a, .slice A n c, .bool false], .int .i64 is] w (RetB w (.bool (e == is))) := by
  go_enter Tryf.func18, Tryf.ntmps18
  go_wp2
  go_ret
  exact ⟨rfl, below_alloc _ _⟩
theorem rname_zero (e a : Int) (o : Bool) (A : Option Addr) (c : Nat) (w : World) : Calls Tryf.prog 17 #[.agg #[.int .i64 e, .int .i64 a, .slice A 0 c, .bool o]] w (RetB w (.string ⟨#[]⟩)) := by
  go_enter Tryf.func17, Tryf.ntmps17
  go_wp2
  go_ret
  exact ⟨rfl, below_alloc _ _⟩
set_option maxHeartbeats 1000000 in
theorem rname_other (e a : Int) (b n c : Nat) (m : ByteArray) (w : World) (hn : n ≤ 100) (hm : w.cell? ⟨b, n, none⟩ = some (.string m)) : Calls Tryf.prog 17 #[.agg #[.int .i64 e, .int .i64 a, .slice (some ⟨b, 0, none⟩) (n + 1) c, .bool true]] w (RetB w (.string m)) := by
  have hb : b < w.heap.size := World.block_lt_of_cell? w _ hm
  have h1 : decide ((n : Int) + 1 = 0) = false := by simp; omega
  have h2 : (((n : Int) + 1) == 0) = false := by simp; omega
  go_enter Tryf.func17, Tryf.ntmps17
  go_wp2
  go_ret
  exact ⟨rfl, below_alloc _ _⟩
set_option maxHeartbeats 1000000 in
theorem rname_own (e a : Int) (he : (e == 0) = false) (b n c : Nat) (m : ByteArray) (w : World) (hn : n ≤ 100) (hm : w.cell? ⟨b, n, none⟩ = some (.string m)) : Calls Tryf.prog 17 #[.agg #[.int .i64 e, .int .i64 a, .slice (some ⟨b, 0, none⟩) (n + 1) c, .bool false]] w (RetB w (.string m)) := by
  have hb : b < w.heap.size := World.block_lt_of_cell? w _ hm
  have h1 : decide ((n : Int) + 1 = 0) = false := by simp; omega
  have h2 : (((n : Int) + 1) == 0) = false := by simp; omega
  go_enter Tryf.func17, Tryf.ntmps17
  go_wp2
  go_ret
  exact ⟨rfl, below_alloc _ _⟩
/-- The last name, of an error that is none of nil. -/
theorem rname_any {w : World} {B : Nat} {nv : Value} {ns : List Value} {nm : Option ByteArray} (h : w.ownsRow B 9 1 nv ns.length ns) (hl : LastOf ns nm) (hn : ns.length ≤ 100) (e a : Int) (o : Bool) (he : o = false → (e == 0) = false) :
    Calls Tryf.prog 17 #[.agg #[.int .i64 e, .int .i64 a, nv, .bool o]] w (RetB w (.string (nm.getD ⟨#[]⟩))) := by
  rcases hl with ⟨rfl, rfl⟩ | ⟨l, m, rfl, rfl⟩
  · rcases own_form h with ⟨rfl, _⟩ | ⟨b, c, rfl, _⟩
    · exact rname_zero e a o none 0 w
    · exact rname_zero e a o _ c w
  · rcases own_form h with ⟨_, h0⟩ | ⟨b, c, rfl, _⟩
    · simp at h0
    · have hc := own_cell h l.length (by simp)
      simp at hc
      have e1 : (l ++ [Value.string m]).length = l.length + 1 := by simp
      rw [e1] at hn ⊢
      cases o with
      | true => exact rname_other e a b l.length c m w (by omega) hc
      | false => exact rname_own e a (he rfl) b l.length c m w (by omega) hc
end Go.Proofs.YtaeakipppdjkmaaFmt
