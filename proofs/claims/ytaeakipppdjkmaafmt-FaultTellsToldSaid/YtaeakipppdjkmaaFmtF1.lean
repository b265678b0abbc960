/- errors.As at this program's two targets: facts on the entries for reflection; a nil error. -/
import Derived.Test.YtaeakipppdjkmaaFmtRows
import Derived.WalkKit
import Derived.LaidEql
import Derived.Stop.Asserts
import Derived.RowKitTokens
namespace Go.Proofs.YtaeakipppdjkmaaFmt
open Go.RowKit Go.Extern.Stop Go.Stop Go.Extern
set_option linter.unusedVariables false
theorem as_nil (t : Value) (w : World) : Calls Tryf.prog 22 #[.nilIface, t] w fun e w' => e = .returned (.bool false) ∧ w' = w := by
  go_enter Tryf.func22, Tryf.ntmps22
  go_wp2
  go_ret
  exact ⟨rfl, rfl⟩
theorem valueOf_pp (t : Addr) (w : World) : (ReflectliteValue.unpack (.iface 65 (.pointer (some t)))).run Tryf.prog w
    = .ok (.agg #[.pointer (some ⟨1, 65, none⟩), .pointer (some ⟨w.heap.size, 0, none⟩), .int .u64 150]) (w.alloc (.cells #[.pointer (some t)] 65)) := by kernel_rfl
theorem type_pp (a : Addr) (w : World) : (ReflectliteValue.methodAny (ReflectliteValue.valueError "reflectlite.Value.Type" 0) (fun t _ _ _ => ReflectliteType.toType t) #[.agg #[.pointer (some ⟨1, 65, none⟩), .pointer (some a), .int .u64 150]]).run Tryf.prog w
    = .ok (.iface 77 (.agg #[.pointer (some ⟨1, 65, none⟩)])) w := by kernel_rfl
theorem kind_pp (w : World) : ((ReflectliteType.abiMethod fun t => (fun a : Nat => Value.int IntKind.u8 (a : Int)) <$> Rtype.kind t) #[.pointer (some ⟨1, 65, none⟩)]).run Tryf.prog w = .ok (.int .u8 22) w := by kernel_rfl
theorem kind_p (w : World) : ((ReflectliteType.abiMethod fun t => (fun a : Nat => Value.int IntKind.u8 (a : Int)) <$> Rtype.kind t) #[.pointer (some ⟨1, 45, none⟩)]).run Tryf.prog w = .ok (.int .u8 22) w := by kernel_rfl
theorem elem_pp (w : World) : (ReflectliteType.method ReflectliteType.elem #[.agg #[.pointer (some ⟨1, 65, none⟩)]]).run Tryf.prog w = .ok (.iface 77 (.agg #[.pointer (some ⟨1, 45, none⟩)])) w := by kernel_rfl
theorem implements_p (w : World) : (ReflectliteType.relation "Implements" ReflectliteType.implements_ #[.agg #[.pointer (some ⟨1, 45, none⟩)], .iface 77 (.agg #[.pointer (some ⟨1, 24, none⟩)])]).run Tryf.prog w = .ok (.bool true) w := by kernel_rfl
theorem typeOf_p (v : Value) (w : World) : (ReflectliteType.typeOf #[.iface 45 v]).run Tryf.prog w = .ok (.iface 77 (.agg #[.pointer (some ⟨1, 45, none⟩)])) w := by kernel_rfl
theorem typeOf_n (v : Value) (w : World) : (ReflectliteType.typeOf #[.iface 48 v]).run Tryf.prog w = .ok (.iface 77 (.agg #[.pointer (some ⟨1, 48, none⟩)])) w := by kernel_rfl
theorem typeOf_w (v : Value) (w : World) : (ReflectliteType.typeOf #[.iface 53 v]).run Tryf.prog w = .ok (.iface 77 (.agg #[.pointer (some ⟨1, 53, none⟩)])) w := by kernel_rfl
theorem typeOf_s (v : Value) (w : World) : (ReflectliteType.typeOf #[.iface 62 v]).run Tryf.prog w = .ok (.iface 77 (.agg #[.pointer (some ⟨1, 62, none⟩)])) w := by kernel_rfl
theorem assign_pp (w : World) : (ReflectliteType.relation "AssignableTo" ReflectliteType.assignableTo #[.agg #[.pointer (some ⟨1, 45, none⟩)], .iface 77 (.agg #[.pointer (some ⟨1, 45, none⟩)])]).run Tryf.prog w = .ok (.bool true) w := by kernel_rfl
theorem assign_np (w : World) : (ReflectliteType.relation "AssignableTo" ReflectliteType.assignableTo #[.agg #[.pointer (some ⟨1, 48, none⟩)], .iface 77 (.agg #[.pointer (some ⟨1, 45, none⟩)])]).run Tryf.prog w = .ok (.bool false) w := by kernel_rfl
theorem assign_wp (w : World) : (ReflectliteType.relation "AssignableTo" ReflectliteType.assignableTo #[.agg #[.pointer (some ⟨1, 53, none⟩)], .iface 77 (.agg #[.pointer (some ⟨1, 45, none⟩)])]).run Tryf.prog w = .ok (.bool false) w := by kernel_rfl
theorem assign_sp (w : World) : (ReflectliteType.relation "AssignableTo" ReflectliteType.assignableTo #[.agg #[.pointer (some ⟨1, 62, none⟩)], .iface 77 (.agg #[.pointer (some ⟨1, 45, none⟩)])]).run Tryf.prog w = .ok (.bool false) w := by kernel_rfl
theorem valueOf_p (e : Addr) (w : World) : (ReflectliteValue.unpack (.iface 45 (.pointer (some e)))).run Tryf.prog w
    = .ok (.agg #[.pointer (some ⟨1, 45, none⟩), .pointer (some ⟨w.heap.size, 0, none⟩), .int .u64 150]) (w.alloc (.cells #[.pointer (some e)] 45)) := by kernel_rfl
end Go.Proofs.YtaeakipppdjkmaaFmt
