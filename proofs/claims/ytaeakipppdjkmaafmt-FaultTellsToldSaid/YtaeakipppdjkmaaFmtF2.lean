/- errors.as at the place's target, over a chain of errors. -/
import Derived.Test.YtaeakipppdjkmaaFmtF1
namespace Go.Proofs.YtaeakipppdjkmaaFmt
open Go.RowKit Go.Extern.Stop Go.Stop Go.Extern
set_option linter.unusedVariables false
theorem rlm (z : Sem Value) (f : TypeId → Addr → Nat → Nat → Sem Value) (v : Value) :
    ReflectliteValue.method z f #[v] = (do match ← ReflectliteValue.parts v with | none => z | some (t, a, fl) => f t a fl (fl % 32)) := rfl
theorem parts_pp (a : Addr) (w : World) : (ReflectliteValue.parts (.agg #[.pointer (some ⟨1, 65, none⟩), .pointer (some a), .int .u64 150])).run Tryf.prog w = .ok (some (65, a, 150)) w := by kernel_rfl
theorem isNil_pp (a p : Addr) (W : World) (ha : W.cell? a = some (.pointer (some p))) :
    (ReflectliteValue.method (ReflectliteValue.valueError "reflectlite.Value.IsNil" 0) ReflectliteValue.isNil #[.agg #[.pointer (some ⟨1, 65, none⟩), .pointer (some a), .int .u64 150]]).run Tryf.prog W = .ok (.bool false) W := by
  rw [rlm]
  simp only [Sem.run_bind, parts_pp, Result.andThen]
  simp [ReflectliteValue.isNil, loadVar, isAgg, underlying, Tryf.underlying65, ha, Result.andThen]
theorem elemOf_pp (w : World) : (Rtype.elem? 65).run Tryf.prog w = .ok (some 45) w := by kernel_rfl
theorem mk_p (p : Addr) (w : World) : (ReflectliteValue.mk 45 p ReflectliteValue.flagAddr).run Tryf.prog w = .ok (.agg #[.pointer (some ⟨1, 45, none⟩), .pointer (some p), .int .u64 406]) w := by kernel_rfl
theorem elemV_pp (a p : Addr) (W : World) (ha : W.cell? a = some (.pointer (some p))) :
    (ReflectliteValue.method (ReflectliteValue.valueError "reflectlite.Value.Elem" 0) ReflectliteValue.elem #[.agg #[.pointer (some ⟨1, 65, none⟩), .pointer (some a), .int .u64 150]]).run Tryf.prog W
      = .ok (.agg #[.pointer (some ⟨1, 45, none⟩), .pointer (some p), .int .u64 406]) W := by
  rw [rlm]
  simp only [Sem.run_bind, parts_pp, Result.andThen]
  simp [ReflectliteValue.elem, loadVar, isAgg, underlying, Tryf.underlying65, ha, Result.andThen, elemOf_pp, mk_p]
theorem rls (v x : Value) : ReflectliteValue.set #[v, x] = (do
    let (some (dst, a, fl), some (src, b, _)) := (← ReflectliteValue.parts v, ← ReflectliteValue.parts x)
      | unsupported (.noEntry "extern/(internal/reflectlite.Value).Set.zeroValue")
    if fl / ReflectliteValue.flagAddr % 2 == 0 then unsupported (.noEntry "extern/(internal/reflectlite.Value).Set.unaddressable")
    let val ← loadVar src b
    if ← Rtype.directlyAssignable dst src then storeVar dst a val
    else if ← Rtype.implements dst src then
      if (← Rtype.kind src) == 20 then
        match val with
        | .nilIface => unsupported (.noEntry "extern/reflectlite: a nil value of one interface type handed on as a value of another")
        | _ => storeVar dst a val
      else storeVar dst a (.iface src val)
    else panicString ("reflectlite.Set: value of type " ++ (← Rtype.spelt src) ++ " is not assignable to type " ++ (← Rtype.spelt dst))
    pure (.tuple #[])) := rfl
theorem parts_pa (a : Addr) (w : World) : (ReflectliteValue.parts (.agg #[.pointer (some ⟨1, 45, none⟩), .pointer (some a), .int .u64 406])).run Tryf.prog w = .ok (some (45, a, 406)) w := by kernel_rfl
theorem parts_p (a : Addr) (w : World) : (ReflectliteValue.parts (.agg #[.pointer (some ⟨1, 45, none⟩), .pointer (some a), .int .u64 150])).run Tryf.prog w = .ok (some (45, a, 150)) w := by kernel_rfl
theorem direct_p (w : World) : (Rtype.directlyAssignable 45 45).run Tryf.prog w = .ok true w := by kernel_rfl
theorem set_p (ta b e : Addr) (old : Value) (W : World) (hb : W.cell? b = some (.pointer (some e))) (ht : W.cell? ta = some old) (hf : W.frozen? ta = false) :
    (ReflectliteValue.set #[.agg #[.pointer (some ⟨1, 45, none⟩), .pointer (some ta), .int .u64 406], .agg #[.pointer (some ⟨1, 45, none⟩), .pointer (some b), .int .u64 150]]).run Tryf.prog W
      = .ok (.tuple #[]) (W.setCell ta (.pointer (some e))) := by
  rw [rls]
  simp only [Sem.run_bind, parts_pa, parts_p, Result.andThen]
  simp [ReflectliteValue.flagAddr, loadVar, isAgg, underlying, Tryf.underlying45, hb, Result.andThen, direct_p, storeVar, Value.cells, storeCells, Addr.add]
  rw [run_store Tryf.prog W ta _ _ (by rfl)]
  simp [ht, hf]
theorem noAs_n (v : Value) (xT : TypeId) (w : World) : (Instr.typeAssert (.iface 48 v) xT 89 true).run Tryf.prog w = .ok (.tuple #[.nilIface, .bool false]) w := run_typeAssert_lacksB Tryf.underlying89 (by kernel_rfl) (by kernel_rfl) v xT w
theorem noAs_w (v : Value) (xT : TypeId) (w : World) : (Instr.typeAssert (.iface 53 v) xT 89 true).run Tryf.prog w = .ok (.tuple #[.nilIface, .bool false]) w := run_typeAssert_lacksB Tryf.underlying89 (by kernel_rfl) (by kernel_rfl) v xT w
theorem noAs_s (v : Value) (xT : TypeId) (w : World) : (Instr.typeAssert (.iface 62 v) xT 89 true).run Tryf.prog w = .ok (.tuple #[.nilIface, .bool false]) w := run_typeAssert_lacksB Tryf.underlying89 (by kernel_rfl) (by kernel_rfl) v xT w
theorem noAs_p (v : Value) (xT : TypeId) (w : World) : (Instr.typeAssert (.iface 45 v) xT 89 true).run Tryf.prog w = .ok (.tuple #[.nilIface, .bool false]) w := run_typeAssert_lacksB Tryf.underlying89 (by kernel_rfl) (by kernel_rfl) v xT w
theorem un_n (v : Value) (xT : TypeId) (w : World) : (Instr.typeAssert (.iface 48 v) xT 82 true).run Tryf.prog w = .ok (.tuple #[.iface 48 v, .bool true]) w := run_typeAssert_hasB Tryf.underlying82 (by kernel_rfl) v xT w
theorem un_w (v : Value) (xT : TypeId) (w : World) : (Instr.typeAssert (.iface 53 v) xT 82 true).run Tryf.prog w = .ok (.tuple #[.iface 53 v, .bool true]) w := run_typeAssert_hasB Tryf.underlying82 (by kernel_rfl) v xT w
theorem un_s (v : Value) (xT : TypeId) (w : World) : (Instr.typeAssert (.iface 62 v) xT 82 true).run Tryf.prog w = .ok (.tuple #[.nilIface, .bool false]) w := run_typeAssert_lacksB Tryf.underlying82 (by kernel_rfl) (by kernel_rfl) v xT w
theorem un_p (v : Value) (xT : TypeId) (w : World) : (Instr.typeAssert (.iface 45 v) xT 82 true).run Tryf.prog w = .ok (.tuple #[.nilIface, .bool false]) w := run_typeAssert_lacksB Tryf.underlying82 (by kernel_rfl) (by kernel_rfl) v xT w
theorem uns_s (v : Value) (xT : TypeId) (w : World) : (Instr.typeAssert (.iface 62 v) xT 84 true).run Tryf.prog w = .ok (.tuple #[.nilIface, .bool false]) w := run_typeAssert_lacksB Tryf.underlying84 (by kernel_rfl) (by kernel_rfl) v xT w
theorem uns_p (v : Value) (xT : TypeId) (w : World) : (Instr.typeAssert (.iface 45 v) xT 84 true).run Tryf.prog w = .ok (.tuple #[.nilIface, .bool false]) w := run_typeAssert_lacksB Tryf.underlying84 (by kernel_rfl) (by kernel_rfl) v xT w
theorem nunw_any (b : Nat) (x : Value) (w : World) (h : w.cell? ⟨b, 1, none⟩ = some x) : Calls Tryf.prog 52 #[.pointer (some ⟨b, 0, none⟩)] w fun e w' => e = .returned x ∧ w' = w := by
  go_enter Tryf.func52, Tryf.ntmps52
  go_wp2
  go_ret
  exact ⟨rfl, rfl⟩
theorem wunw_any (b : Nat) (x : Value) (w : World) (h : w.cell? ⟨b, 1, none⟩ = some x) : Calls Tryf.prog 54 #[.pointer (some ⟨b, 0, none⟩)] w fun e w' => e = .returned x ∧ w' = w := by
  go_enter Tryf.func54, Tryf.ntmps54
  go_wp2
  go_ret
  exact ⟨rfl, rfl⟩
end Go.Proofs.YtaeakipppdjkmaaFmt
