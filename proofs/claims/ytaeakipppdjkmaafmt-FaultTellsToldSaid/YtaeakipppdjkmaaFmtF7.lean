/- errors.Is at a number, over a chain of errors. -/
import Derived.Test.YtaeakipppdjkmaaFmtF6
namespace Go.Proofs.YtaeakipppdjkmaaFmt
open Go.RowKit Go.Extern.Stop Go.Stop Go.Extern
set_option linter.unusedVariables false
theorem typeOf_e (v : Value) (w : World) : (ReflectliteType.typeOf #[.iface 22 v]).run Tryf.prog w = .ok (.iface 77 (.agg #[.pointer (some ⟨1, 22, none⟩)])) w := by kernel_rfl
def compEntry : Array Value → Sem Value := ReflectliteType.method fun t => do Rtype.noPackHeld "Comparable" t; pure (.bool (← typeInfo t).comparable)
theorem comp_e (w : World) : (compEntry #[.agg #[.pointer (some ⟨1, 22, none⟩)]]).run Tryf.prog w = .ok (.bool true) w := by kernel_rfl
theorem methComp (v : Value) (w : World) : (Go.method 225 77 v "Comparable").run Tryf.prog w = .ok (61, v) w := by kernel_rfl
theorem methIs (v : Value) (w : World) : (Go.method 225 45 v "Is").run Tryf.prog w = .ok (50, v) w := by kernel_rfl
theorem is_p (v : Value) (xT : TypeId) (w : World) : (Instr.typeAssert (.iface 45 v) xT 79 true).run Tryf.prog w = .ok (.tuple #[.iface 45 v, .bool true]) w := run_typeAssert_hasB Tryf.underlying79 (by kernel_rfl) v xT w
theorem noIs_n (v : Value) (xT : TypeId) (w : World) : (Instr.typeAssert (.iface 48 v) xT 79 true).run Tryf.prog w = .ok (.tuple #[.nilIface, .bool false]) w := run_typeAssert_lacksB Tryf.underlying79 (by kernel_rfl) (by kernel_rfl) v xT w
theorem noIs_w (v : Value) (xT : TypeId) (w : World) : (Instr.typeAssert (.iface 53 v) xT 79 true).run Tryf.prog w = .ok (.tuple #[.nilIface, .bool false]) w := run_typeAssert_lacksB Tryf.underlying79 (by kernel_rfl) (by kernel_rfl) v xT w
theorem noIs_s (v : Value) (xT : TypeId) (w : World) : (Instr.typeAssert (.iface 62 v) xT 79 true).run Tryf.prog w = .ok (.tuple #[.nilIface, .bool false]) w := run_typeAssert_lacksB Tryf.underlying79 (by kernel_rfl) (by kernel_rfl) v xT w
set_option maxRecDepth 100000 in
theorem pis_any (b : Nat) (e0 e : Int) (w : World) (h0 : w.cell? ⟨b, 0, none⟩ = some (.int .i64 e0)) :
    Calls Tryf.prog 50 #[.pointer (some ⟨b, 0, none⟩), .iface 22 (.int .i64 e)] w fun en w' => en = .returned (.bool (e == e0)) ∧ w' = w := by
  have ta : ∀ (v : Value) (w : World), (Instr.typeAssert (.iface 22 v) 24 22 true).run Tryf.prog w = .ok (.tuple #[v, .bool true]) w := fun v w => by kernel_rfl
  go_enter Tryf.func50, Tryf.ntmps50
  go_wp2
  go_ret
  exact ⟨rfl, rfl⟩
/-- What errors.Is answers: by the place at the chain's end. -/
def IsAns (w : World) (r : Option Nat) (e : Int) (A : Bool) : Prop :=
  match r with
  | some p => ∃ e0 : Int, w.cell? ⟨p, 0, none⟩ = some (.int .i64 e0) ∧ (e == e0) = A
  | none => A = false
set_option maxRecDepth 100000 in
set_option maxHeartbeats 3200000 in
theorem isL_any {w : World} {v : Value} {d : Nat} {r : Option Nat} (h : Ch w v d r) (e : Int) (A : Bool) (hA : IsAns w r e A) :
    Calls Tryf.prog 24 #[v, .iface 22 (.int .i64 e), .bool true] w fun en w' => en = .returned (.bool A) ∧ w' = w := by
  have q1 : ∀ (vx vy : Value) (w : World), (binOp .eql 24 (.iface 45 vx) (.iface 22 vy)).run Tryf.prog w = .ok (.bool false) w := fun vx vy w => run_eql_iface_types 45 22 vx vy Tryf.underlying24 (by decide) w
  have q2 : ∀ (vx vy : Value) (w : World), (binOp .eql 24 (.iface 48 vx) (.iface 22 vy)).run Tryf.prog w = .ok (.bool false) w := fun vx vy w => run_eql_iface_types 48 22 vx vy Tryf.underlying24 (by decide) w
  have q3 : ∀ (vx vy : Value) (w : World), (binOp .eql 24 (.iface 53 vx) (.iface 22 vy)).run Tryf.prog w = .ok (.bool false) w := fun vx vy w => run_eql_iface_types 53 22 vx vy Tryf.underlying24 (by decide) w
  have q4 : ∀ (vx vy : Value) (w : World), (binOp .eql 24 (.iface 62 vx) (.iface 22 vy)).run Tryf.prog w = .ok (.bool false) w := fun vx vy w => run_eql_iface_types 62 22 vx vy Tryf.underlying24 (by decide) w
  have HCH := Lib.hid h
  have HA := Lib.hid hA
  clear h hA
  go_enter Tryf.func24, Tryf.ntmps24
  go_wp2
  go_loopg [0] d (fun gg err wr => wr = w ∧ ∃ d', d' ≤ gg ∧ Hid (Ch w err d' r))
  case atStart => exact ⟨rfl, d, Nat.le_refl _, HCH⟩
  case round =>
    obtain ⟨rfl, d', hg, HC⟩ := hrel
    clear HCH
    have hch := HC.out
    clear HC
    cases hch with
    | estr b m h0 =>
      have t3 := noIs_s
      have t4 := un_s
      have t5 := uns_s
      obtain rfl : A = false := HA.out
      go_wp2
      go_ret
      exact ⟨rfl, rfl⟩
    | place b e0 p h0 h1 =>
      have t3 := is_p
      have t4 := un_p
      have t5 := uns_p
      have t6 := methIs
      have HP := Lib.hid (pis_any b e0 e wr h0)
      obtain ⟨e0', c0, hA'⟩ := HA.out
      have : e0' = e0 := by rw [h0] at c0; simpa using c0.symm
      subst this
      clear HA
      cases A with
      | true =>
        go_wp2_with (go_at_call 50; refine (HP.out).mono ?_; rintro en w' ⟨rfl, rfl⟩; rw [hA'])
        go_ret
        exact ⟨rfl, rfl⟩
      | false =>
        go_wp2_with (go_at_call 50; refine (HP.out).mono ?_; rintro en w' ⟨rfl, rfl⟩; rw [hA'])
        go_ret
        exact ⟨rfl, rfl⟩
    | named b m x d'' r h0 h1 hx =>
      have t3 := noIs_n
      have t4 := un_n
      have t5 := methNunw
      have HX := Lib.hid hx
      obtain ⟨T', b', rfl⟩ := hx.form
      clear hx
      go_wp2
      go_roundg d''
      case measure => omega
      case rel => exact ⟨rfl, d'', Nat.le_refl _, HX⟩
    | wrap b m x d'' r h0 h1 hx =>
      have t3 := noIs_w
      have t4 := un_w
      have t5 := methWunw
      have HX := Lib.hid hx
      obtain ⟨T', b', rfl⟩ := hx.form
      clear hx
      go_wp2
      go_roundg d''
      case measure => omega
      case rel => exact ⟨rfl, d'', Nat.le_refl _, HX⟩
set_option maxRecDepth 100000 in
set_option maxHeartbeats 3200000 in
theorem is_any {w : World} {v : Value} {d : Nat} {r : Option Nat} (h : Ch w v d r) (e : Int) (A : Bool) (hA : IsAns w r e A) :
    Calls Tryf.prog 13 #[v, .iface 22 (.int .i64 e)] w fun en w' => en = .returned (.bool A) ∧ w' = w := by
  have h8 := @run_callFunc_extern Tryf.prog 23 _ ReflectliteType.typeOf Tryf.func23 (by kernel_rfl) (by kernel_rfl) (by kernel_rfl) (by kernel_rfl)
  have h32 := @run_callFunc_extern Tryf.prog 61 _ compEntry Tryf.func61 (by kernel_rfl) (by kernel_rfl) (by kernel_rfl) (by kernel_rfl)
  have tT := typeOf_e
  have cT := comp_e
  have mR := methComp
  have HC := Lib.hid (isL_any h e A hA)
  obtain ⟨T, b, rfl⟩ := h.form
  clear h hA
  go_enter Tryf.func13, Tryf.ntmps13
  go_wp2_with (go_at_call 24; refine (HC.out).mono ?_; rintro en w' ⟨rfl, rfl⟩)
  go_ret
  exact ⟨rfl, rfl⟩
end Go.Proofs.YtaeakipppdjkmaaFmt
