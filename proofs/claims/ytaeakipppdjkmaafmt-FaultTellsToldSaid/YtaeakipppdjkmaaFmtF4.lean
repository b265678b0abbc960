/- errors.As over a chain of errors, at the place's target. -/
import Derived.Test.YtaeakipppdjkmaaFmtF3
namespace Go.Proofs.YtaeakipppdjkmaaFmt
open Go.RowKit Go.Extern.Stop Go.Stop Go.Extern
set_option linter.unusedVariables false
theorem methKind (h : Value) (w : World) : (Go.method 225 77 (.agg #[h]) "Kind").run Tryf.prog w = .ok (45, h) w := by kernel_rfl
theorem methElem (h : Value) (w : World) : (Go.method 225 77 (.agg #[h]) "Elem").run Tryf.prog w = .ok (62, .agg #[h]) w := by kernel_rfl
theorem methImpl (h : Value) (w : World) : (Go.method 225 77 (.agg #[h]) "Implements").run Tryf.prog w = .ok (63, .agg #[h]) w := by kernel_rfl
theorem AsEnd.wide {w w1 : World} {t : Addr} {r : Option Nat} {e : Ending} {w' : World} (hb : Below w.heap.size w w1) (h : AsEnd w1 t r e w') : AsEnd w t r e w' := by
  cases r with
  | none => exact ⟨h.1, hb.trans (h.2.mono hb.size)⟩
  | some p => obtain ⟨e1, y, hy, hw⟩ := h; exact ⟨e1, y, hb.trans (hy.mono hb.size), hw⟩
set_option maxRecDepth 100000 in
set_option maxHeartbeats 4000000 in
theorem as_any {w : World} {v : Value} {d : Nat} {r : Option Nat} (h : Ch w v d r) (t : Addr) (old : Value) (hg : w.cell? ⟨0, 0, none⟩ = some (.iface 77 (.agg #[.pointer (some ⟨1, 24, none⟩)])))
    (ht : w.cell? t = some old) (hf : w.frozen? t = false) :
    Calls Tryf.prog 22 #[v, .iface 65 (.pointer (some t))] w (AsEnd w t r) := by
  have h25 := @run_callFunc_extern Tryf.prog 25 _ (fun args => ReflectliteValue.unpack (args.getD 0 (.tuple #[]))) Tryf.func25 (by kernel_rfl) (by kernel_rfl) (by kernel_rfl) (by kernel_rfl)
  have h26 := @run_callFunc_extern Tryf.prog 26 _ (ReflectliteValue.methodAny (ReflectliteValue.valueError "reflectlite.Value.Type" 0) (fun t _ _ _ => ReflectliteType.toType t)) Tryf.func26 (by kernel_rfl) (by kernel_rfl) (by kernel_rfl) (by kernel_rfl)
  have h27 := @run_callFunc_extern Tryf.prog 27 _ (ReflectliteValue.method (ReflectliteValue.valueError "reflectlite.Value.IsNil" 0) ReflectliteValue.isNil) Tryf.func27 (by kernel_rfl) (by kernel_rfl) (by kernel_rfl) (by kernel_rfl)
  have h45 := @run_callFunc_extern Tryf.prog 45 _ (ReflectliteType.abiMethod fun t => do pure (.int .u8 (← Rtype.kind t))) Tryf.func45 (by kernel_rfl) (by kernel_rfl) (by kernel_rfl) (by kernel_rfl)
  have h62 := @run_callFunc_extern Tryf.prog 62 _ (ReflectliteType.method ReflectliteType.elem) Tryf.func62 (by kernel_rfl) (by kernel_rfl) (by kernel_rfl) (by kernel_rfl)
  have h63 := @run_callFunc_extern Tryf.prog 63 _ (ReflectliteType.relation "Implements" ReflectliteType.implements_) Tryf.func63 (by kernel_rfl) (by kernel_rfl) (by kernel_rfl) (by kernel_rfl)
  have f6 := valueOf_pp
  have f7 := type_pp
  have mK := methKind
  have mE := methElem
  have mI := methImpl
  have k27 := kind_pp
  have k25 := kind_p
  have e27 := elem_pp
  have i25 := implements_p
  have n8 := isNil_pp ⟨w.heap.size, 0, none⟩ t ((w.alloc (.cells #[.pointer (some t)] 65)).alloc (.cells #[.pointer (some ⟨1, 65, none⟩), .pointer (some ⟨w.heap.size, 0, none⟩), .int .u64 150] 69)) (by simp)
  have hlt : 0 < w.heap.size := World.block_lt_of_cell? w _ hg
  have htl : t.block < w.heap.size := World.block_lt_of_cell? w _ ht
  have hB : Below w.heap.size w ((w.alloc (.cells #[.pointer (some t)] 65)).alloc (.cells #[.pointer (some ⟨1, 65, none⟩), .pointer (some ⟨w.heap.size, 0, none⟩), .int .u64 150] 69)) := ((Below.refl _ w).alloc (Nat.le_refl _) _).alloc (by simp) _
  have hg2 := (hB.cell (p := ⟨0, 0, none⟩) hlt).trans hg
  have ht2 := (hB.cell (p := t) htl).trans ht
  have hf2 := (hB.frozen (p := t) htl).trans hf
  have HC := asL_any (h.later hB) t ⟨w.heap.size, 0, none⟩ old (by simp) ht2 hf2
  have HC' := Lib.hid HC
  have HB := Lib.hid hB
  obtain ⟨T, b, rfl⟩ := h.form
  clear HC hB h
  go_enter Tryf.func22, Tryf.ntmps22
  cases r with
  | none =>
    go_wp2_with (go_at_call 28; refine (HC'.out).mono ?_; intro e w' hx; obtain ⟨rfl, hx2⟩ := hx; have HX := Lib.hid hx2; clear hx2)
    go_ret
    exact ⟨rfl, HB.out.trans (HX.out.mono HB.out.size)⟩
  | some p =>
    go_wp2_with (go_at_call 28; refine (HC'.out).mono ?_; intro e w' hx; obtain ⟨rfl, hx2⟩ := hx; have HX := Lib.hid hx2; clear hx2)
    go_ret
    obtain ⟨y, hy, hw⟩ := HX.out
    exact ⟨rfl, y, HB.out.trans (hy.mono HB.out.size), hw⟩
end Go.Proofs.YtaeakipppdjkmaaFmt
