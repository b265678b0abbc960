/- An error's text: how long it is. -/
import Derived.Test.YtaeakipppdjkmaaFmtF5
import Derived.Deep.QuietTactic
import Derived.BigQuiet
namespace Go.Proofs.YtaeakipppdjkmaaFmt
open Go.RowKit Go.Extern.Stop Go.Stop Go.Extern
set_option linter.unusedVariables false
theorem methPerr (h : Value) (w : World) : (Go.method 225 45 h "Error").run Tryf.prog w = .ok (49, h) w := by kernel_rfl
theorem methNerr (h : Value) (w : World) : (Go.method 225 48 h "Error").run Tryf.prog w = .ok (51, h) w := by kernel_rfl
theorem methWerr (h : Value) (w : World) : (Go.method 225 53 h "Error").run Tryf.prog w = .ok (53, h) w := by kernel_rfl
theorem methSerr (h : Value) (w : World) : (Go.method 225 62 h "Error").run Tryf.prog w = .ok (55, h) w := by kernel_rfl
def okText : ByteArray := ⟨#[99, 111, 110, 99, 104, 58, 32, 97, 110, 32, 101, 114, 114, 111, 114]⟩
/-- The text of an error of this program. -/
inductive Tx (w : World) : Value → ByteArray → Prop where
  | place (b : Nat) (e p : Int) (h0 : w.cell? ⟨b, 0, none⟩ = some (.int .i64 e)) (h1 : w.cell? ⟨b, 1, none⟩ = some (.int .i64 p)) : Tx w (.iface 45 (.pointer (some ⟨b, 0, none⟩))) okText
  | estr (b : Nat) (m : ByteArray) (h0 : w.cell? ⟨b, 0, none⟩ = some (.string m)) : Tx w (.iface 62 (.pointer (some ⟨b, 0, none⟩))) m
  | wrap (b : Nat) (m : ByteArray) (h0 : w.cell? ⟨b, 0, none⟩ = some (.string m)) : Tx w (.iface 53 (.pointer (some ⟨b, 0, none⟩))) m
  | named (b : Nat) (m : ByteArray) (x : Value) (L : ByteArray) (h0 : w.cell? ⟨b, 0, none⟩ = some (.string m)) (h1 : w.cell? ⟨b, 1, none⟩ = some x) (hL : m.size + 2 + L.size ≤ 4611686018427387904) (hx : Tx w x L) : Tx w (.iface 48 (.pointer (some ⟨b, 0, none⟩))) (m ++ ⟨#[58, 32]⟩ ++ L)
theorem Tx.form {w : World} {v : Value} {L : ByteArray} (h : Tx w v L) : ∃ T b, v = .iface T (.pointer (some ⟨b, 0, none⟩)) := by
  cases h <;> exact ⟨_, _, rfl⟩
theorem Tx.later {w w' : World} {v : Value} {L : ByteArray} (h : Tx w v L) (hb : Below w.heap.size w w') : Tx w' v L := by
  have c : ∀ {b i : Nat} {u : Value}, w.cell? ⟨b, i, none⟩ = some u → w'.cell? ⟨b, i, none⟩ = some u := fun {b i u} hc => (hb.cell (p := ⟨b, i, none⟩) (World.block_lt_of_cell? w _ hc)).trans hc
  induction h with
  | place b e p h0 h1 => exact .place b e p (c h0) (c h1)
  | estr b m h0 => exact .estr b m (c h0)
  | wrap b m h0 => exact .wrap b m (c h0)
  | named b m x L h0 h1 hL hx ih => exact .named b m x L (c h0) (c h1) hL ih
theorem oerr_any (e : Int) (w : World) : Calls Tryf.prog 48 #[.int .i64 e] w fun en w' => en = .returned (.string ⟨#[99, 111, 110, 99, 104, 58, 32, 97, 110, 32, 101, 114, 114, 111, 114]⟩) ∧ w' = w := by
  go_enter Tryf.func48, Tryf.ntmps48
  go_wp2
  go_ret
  exact ⟨rfl, rfl⟩
theorem perr_any (b : Nat) (e : Int) (w : World) (h0 : w.cell? ⟨b, 0, none⟩ = some (.int .i64 e)) : Calls Tryf.prog 49 #[.pointer (some ⟨b, 0, none⟩)] w fun en w' => en = .returned (.string ⟨#[99, 111, 110, 99, 104, 58, 32, 97, 110, 32, 101, 114, 114, 111, 114]⟩) ∧ w' = w := by
  go_enter Tryf.func49, Tryf.ntmps49
  go_wp2
  go_ret
  exact ⟨rfl, rfl⟩
theorem werr_any (b : Nat) (m : ByteArray) (w : World) (h0 : w.cell? ⟨b, 0, none⟩ = some (.string m)) : Calls Tryf.prog 53 #[.pointer (some ⟨b, 0, none⟩)] w fun en w' => en = .returned (.string m) ∧ w' = w := by
  go_enter Tryf.func53, Tryf.ntmps53
  go_wp2
  go_ret
  exact ⟨rfl, rfl⟩
theorem serr_any (b : Nat) (m : ByteArray) (w : World) (h0 : w.cell? ⟨b, 0, none⟩ = some (.string m)) : Calls Tryf.prog 55 #[.pointer (some ⟨b, 0, none⟩)] w fun en w' => en = .returned (.string m) ∧ w' = w := by
  go_enter Tryf.func55, Tryf.ntmps55
  go_wp2
  go_ret
  exact ⟨rfl, rfl⟩
def TextOf (w : World) (m : ByteArray) (e : Ending) (w' : World) : Prop := e = .returned (.string m) ∧ ∃ j, w' = w.drewN j
theorem cell_drewN (w : World) (n : Nat) (a : Addr) : (w.drewN n).cell? a = w.cell? a := by simp
set_option maxHeartbeats 1000000 in
theorem nerr_step (b : Nat) (m : ByteArray) (T : TypeId) (h : Value) (L : ByteArray) (f : FuncId) (w : World) (h0 : w.cell? ⟨b, 0, none⟩ = some (.string m)) (h1 : w.cell? ⟨b, 1, none⟩ = some (.iface T h)) (hL : m.size + 2 + L.size ≤ 4611686018427387904)
    (hm : ∀ w, (Go.method 225 T h "Error").run Tryf.prog w = .ok (f, h) w)
    (hcf : ∀ w, (callFunc f #[h]).run Tryf.prog w = .ok (.enter f #[h]) w)
    (hx : ∀ k, Calls Tryf.prog f #[h] (w.drewN k) (TextOf (w.drewN k) L)) : Calls Tryf.prog 51 #[.pointer (some ⟨b, 0, none⟩)] w (TextOf w (m ++ ⟨#[58, 32]⟩ ++ L)) := by
  have s1 : (m ++ (⟨#[58, 32]⟩ : ByteArray)).size = m.size + 2 := by rw [ByteArray.size_append]; rfl
  have HX := Lib.hid hx
  have l1 : m.size + 2 ≤ 9223372036854775807 := by omega
  have l2 : ¬ 9223372036854775807 < m.size + 2 := by omega
  have l3 : m.size + 2 + L.size ≤ 9223372036854775807 := by omega
  have l4 : ¬ 9223372036854775807 < m.size + 2 + L.size := by omega
  clear hx
  go_enter Tryf.func51, Tryf.ntmps51
  go_wp2
  go_quiet (exact Calls.quiet_of (HX.out _))
  go_wp2
  go_ret
  exact ⟨rfl, _, rfl⟩
theorem cf_p (h : Value) (w : World) : (callFunc 49 #[h]).run Tryf.prog w = .ok (.enter 49 #[h]) w := by kernel_rfl
theorem cf_n (h : Value) (w : World) : (callFunc 51 #[h]).run Tryf.prog w = .ok (.enter 51 #[h]) w := by kernel_rfl
theorem cf_w (h : Value) (w : World) : (callFunc 53 #[h]).run Tryf.prog w = .ok (.enter 53 #[h]) w := by kernel_rfl
theorem cf_s (h : Value) (w : World) : (callFunc 55 #[h]).run Tryf.prog w = .ok (.enter 55 #[h]) w := by kernel_rfl
def ErrFn (w : World) (v : Value) (m : ByteArray) : Prop := ∃ T h f, v = .iface T h ∧ (∀ w, (Go.method 225 T h "Error").run Tryf.prog w = .ok (f, h) w) ∧ (∀ w, (callFunc f #[h]).run Tryf.prog w = .ok (.enter f #[h]) w) ∧ ∀ k, Calls Tryf.prog f #[h] (w.drewN k) (TextOf (w.drewN k) m)
theorem same_text {w : World} {m : ByteArray} {f : FuncId} {a : Array Value} (h : Calls Tryf.prog f a w fun e w' => e = .returned (.string m) ∧ w' = w) : Calls Tryf.prog f a w (TextOf w m) :=
  h.mono fun e w' ⟨h1, h2⟩ => ⟨h1, 0, h2⟩
theorem err_any {w : World} {v : Value} {m : ByteArray} (h : Tx w v m) : ErrFn w v m := by
  induction h with
  | place b e p h0 h1 => exact ⟨_, _, 49, rfl, methPerr _, cf_p _, fun k => same_text (perr_any b e _ (by rw [cell_drewN]; exact h0))⟩
  | estr b m h0 => exact ⟨_, _, 55, rfl, methSerr _, cf_s _, fun k => same_text (serr_any b m _ (by rw [cell_drewN]; exact h0))⟩
  | wrap b m h0 => exact ⟨_, _, 53, rfl, methWerr _, cf_w _, fun k => same_text (werr_any b m _ (by rw [cell_drewN]; exact h0))⟩
  | named b m x L h0 h1 hL hx ih =>
    obtain ⟨T, h, f, rfl, hm, hcf, hc⟩ := ih
    refine ⟨_, _, 51, rfl, methNerr _, cf_n _, fun k => ?_⟩
    exact nerr_step b m T h L f (w.drewN k) (by rw [cell_drewN]; exact h0) (by rw [cell_drewN]; exact h1) hL hm hcf (fun j => by rw [World.drewN_drewN]; exact hc _)
end Go.Proofs.YtaeakipppdjkmaaFmt
