/- errors.as over a chain of errors, at the place's target. -/
import Derived.Test.YtaeakipppdjkmaaFmtF2
import Derived.Below
import Derived.Lib.Hide
import Derived.Shelf.Abstract
import Derived.Deep.LoopGhost
import Derived.WalkKit
namespace Go.Proofs.YtaeakipppdjkmaaFmt
open Go.RowKit Go.Extern.Stop Go.Stop Go.Extern
set_option linter.unusedVariables false
/-- An error that this program makes: how deep, and the place at its end. -/
inductive Ch (w : World) : Value → Nat → Option Nat → Prop where
  | place (b : Nat) (e p : Int) (h0 : w.cell? ⟨b, 0, none⟩ = some (.int .i64 e)) (h1 : w.cell? ⟨b, 1, none⟩ = some (.int .i64 p)) : Ch w (.iface 45 (.pointer (some ⟨b, 0, none⟩))) 0 (some b)
  | estr (b : Nat) (m : ByteArray) (h0 : w.cell? ⟨b, 0, none⟩ = some (.string m)) : Ch w (.iface 62 (.pointer (some ⟨b, 0, none⟩))) 0 none
  | named (b : Nat) (m : ByteArray) (x : Value) (d : Nat) (r : Option Nat) (h0 : w.cell? ⟨b, 0, none⟩ = some (.string m)) (h1 : w.cell? ⟨b, 1, none⟩ = some x) (hx : Ch w x d r) : Ch w (.iface 48 (.pointer (some ⟨b, 0, none⟩))) (d + 1) r
  | wrap (b : Nat) (m : ByteArray) (x : Value) (d : Nat) (r : Option Nat) (h0 : w.cell? ⟨b, 0, none⟩ = some (.string m)) (h1 : w.cell? ⟨b, 1, none⟩ = some x) (hx : Ch w x d r) : Ch w (.iface 53 (.pointer (some ⟨b, 0, none⟩))) (d + 1) r
theorem Ch.form {w : World} {v : Value} {d : Nat} {r : Option Nat} (h : Ch w v d r) : ∃ T b, v = .iface T (.pointer (some ⟨b, 0, none⟩)) := by
  cases h <;> exact ⟨_, _, rfl⟩
theorem Ch.later {w w' : World} {v : Value} {d : Nat} {r : Option Nat} (h : Ch w v d r) (hb : Below w.heap.size w w') : Ch w' v d r := by
  have c : ∀ {b i : Nat} {u : Value}, w.cell? ⟨b, i, none⟩ = some u → w'.cell? ⟨b, i, none⟩ = some u := fun {b i u} hc => (hb.cell (p := ⟨b, i, none⟩) (World.block_lt_of_cell? w _ hc)).trans hc
  induction h with
  | place b e p h0 h1 => exact .place b e p (c h0) (c h1)
  | estr b m h0 => exact .estr b m (c h0)
  | named b m x d r h0 h1 hx ih => exact .named b m x d r (c h0) (c h1) ih
  | wrap b m x d r h0 h1 hx ih => exact .wrap b m x d r (c h0) (c h1) ih
def AsEnd (w : World) (t : Addr) (r : Option Nat) (e : Ending) (w' : World) : Prop :=
  match r with
  | some p => e = .returned (.bool true) ∧ ∃ y, Below w.heap.size w y ∧ w' = y.setCell t (.pointer (some ⟨p, 0, none⟩))
  | none => e = .returned (.bool false) ∧ Below w.heap.size w w'
theorem methAssign (h : Value) (w : World) : (Go.method 225 77 (.agg #[h]) "AssignableTo").run Tryf.prog w = .ok (60, .agg #[h]) w := by kernel_rfl
theorem methNunw (h : Value) (w : World) : (Go.method 225 48 h "Unwrap").run Tryf.prog w = .ok (52, h) w := by kernel_rfl
theorem methWunw (h : Value) (w : World) : (Go.method 225 53 h "Unwrap").run Tryf.prog w = .ok (54, h) w := by kernel_rfl
set_option maxRecDepth 100000 in
set_option maxHeartbeats 1600000 in
theorem asL_any {w : World} {v : Value} {d : Nat} {r : Option Nat} (h : Ch w v d r) (t a : Addr) (old : Value) (ha : w.cell? a = some (.pointer (some t))) (ht : w.cell? t = some old) (hf : w.frozen? t = false) :
    Calls Tryf.prog 28 #[v, .iface 65 (.pointer (some t)), .agg #[.pointer (some ⟨1, 65, none⟩), .pointer (some a), .int .u64 150], .iface 77 (.agg #[.pointer (some ⟨1, 45, none⟩)])] w (AsEnd w t r) := by
  have hTO := @run_callFunc_extern Tryf.prog 23 _ ReflectliteType.typeOf Tryf.func23 (by kernel_rfl) (by kernel_rfl) (by kernel_rfl) (by kernel_rfl)
  have hAS := @run_callFunc_extern Tryf.prog 60 _ (ReflectliteType.relation "AssignableTo" ReflectliteType.assignableTo) Tryf.func60 (by kernel_rfl) (by kernel_rfl) (by kernel_rfl) (by kernel_rfl)
  have hVE := @run_callFunc_extern Tryf.prog 29 _ (ReflectliteValue.method (ReflectliteValue.valueError "reflectlite.Value.Elem" 0) ReflectliteValue.elem) Tryf.func29 (by kernel_rfl) (by kernel_rfl) (by kernel_rfl) (by kernel_rfl)
  have hVO := @run_callFunc_extern Tryf.prog 25 _ (fun args => ReflectliteValue.unpack (args.getD 0 (.tuple #[]))) Tryf.func25 (by kernel_rfl) (by kernel_rfl) (by kernel_rfl) (by kernel_rfl)
  have hVS := @run_callFunc_extern Tryf.prog 30 _ ReflectliteValue.set Tryf.func30 (by kernel_rfl) (by kernel_rfl) (by kernel_rfl) (by kernel_rfl)
  have tlt := World.block_lt_of_cell? w _ ht
  have hBW : Below w.heap.size w (w.alloc (.cells #[.pointer (some ⟨1, 65, none⟩), .pointer (some a), .int .u64 150] 69)) := (Below.refl _ w).alloc (Nat.le_refl _) _
  have HCH := Lib.hid (h.later hBW)
  have ha' := (hBW.cell (p := a) (World.block_lt_of_cell? w _ ha)).trans ha
  have ht' := (hBW.cell (p := t) tlt).trans ht
  have hf' : (w.alloc (.cells #[.pointer (some ⟨1, 65, none⟩), .pointer (some a), .int .u64 150] 69)).frozen? t = false := by
    have := hBW.frozen (p := t) tlt
    rw [this]; exact hf
  have c0 : (w.alloc (.cells #[.pointer (some ⟨1, 65, none⟩), .pointer (some a), .int .u64 150] 69)).cell? ⟨w.heap.size, 0, none⟩ = some (.pointer (some ⟨1, 65, none⟩)) := by simp
  have c1 : (w.alloc (.cells #[.pointer (some ⟨1, 65, none⟩), .pointer (some a), .int .u64 150] 69)).cell? ⟨w.heap.size, 1, none⟩ = some (.pointer (some a)) := by simp
  have c2 : (w.alloc (.cells #[.pointer (some ⟨1, 65, none⟩), .pointer (some a), .int .u64 150] 69)).cell? ⟨w.heap.size, 2, none⟩ = some (.int .u64 150) := by simp
  clear h
  go_enter Tryf.func28, Tryf.ntmps28
  go_wp2
  generalize hW : w.alloc (.cells #[.pointer (some ⟨1, 65, none⟩), .pointer (some a), .int .u64 150] 69) = W0 at *
  have HW := Lib.hid hBW
  clear hBW hW ht ha hf
  go_loopg [0] d (fun gg err wr => wr = W0 ∧ ∃ d', d' ≤ gg ∧ Hid (Ch W0 err d' r))
  case atStart => exact ⟨rfl, d, Nat.le_refl _, HCH⟩
  case round =>
    obtain ⟨rfl, d', hg, HC⟩ := hrel
    clear HCH
    have hch := HC.out
    clear HC
    have t6 := methAssign
    cases hch with
    | estr b m h0 =>
      have t1 := typeOf_s
      have t2 := assign_sp
      have t3 := noAs_s
      have t4 := un_s
      have t5 := uns_s
      go_wp2
      go_ret
      exact ⟨rfl, HW.out⟩
    | place b e p h0 h1 =>
      have t1 := typeOf_p
      have t2 := assign_pp
      have t3 := valueOf_p
      have t4 := elemV_pp a t wr ha'
      have t5 := set_p t ⟨wr.heap.size, 0, none⟩ ⟨b, 0, none⟩ old (wr.alloc (.cells #[.pointer (some ⟨b, 0, none⟩)] 45)) (by simp) ((((Below.refl _ wr).alloc (Nat.le_refl _) _).cell (p := t) (World.block_lt_of_cell? wr _ ht')).trans ht') ((((Below.refl _ wr).alloc (Nat.le_refl _) _).frozen (p := t) (World.block_lt_of_cell? wr _ ht')).trans hf')
      go_wp2
      go_ret
      exact ⟨rfl, _, (HW.out).alloc (by have := HW.out.size; omega) _, rfl⟩
    | named b m x d'' r h0 h1 hx =>
      have t1 := typeOf_n
      have t2 := assign_np
      have t3 := noAs_n
      have t4 := un_n
      have t5 := methNunw
      have HX := Lib.hid hx
      obtain ⟨T', b', rfl⟩ := hx.form
      clear hx
      go_wp2
      go_roundg d''
      case measure => omega
      case rel => exact ⟨rfl, d'', Nat.le_refl _, HX⟩
    | wrap b m x d'' r h0 h1 hx =>
      have t1 := typeOf_w
      have t2 := assign_wp
      have t3 := noAs_w
      have t4 := un_w
      have t5 := methWunw
      have HX := Lib.hid hx
      obtain ⟨T', b', rfl⟩ := hx.form
      clear hx
      go_wp2
      go_roundg d''
      case measure => omega
      case rel => exact ⟨rfl, d'', Nat.le_refl _, HX⟩
end Go.Proofs.YtaeakipppdjkmaaFmt
