/- errors.As at a place alone; a place's number and where it is. -/
import Derived.Test.YtdbmeocpjopdhaaDoorRows
import Derived.WalkKit
import Derived.LaidEql
import Derived.Stop.Asserts
import Derived.RowKitTokens
import Derived.Below
import Derived.Lib.Hide
import Derived.Shelf.Abstract
import Derived.Deep.LoopGhost
namespace Go.Proofs.YtdbmeocpjopdhaaDoor
open Go.RowKit Go.Extern.Stop Go.Stop Go.Extern
set_option linter.unusedVariables false
set_option linter.unusedVariables false
theorem as_nil (t : Value) (w : World) : Calls Tryd.prog 26 #[.nilIface, t] w fun e w' => e = .returned (.bool false) ∧ w' = w := by
  go_enter Tryd.func26, Tryd.ntmps26
  go_wp2
  go_ret
  exact ⟨rfl, rfl⟩
theorem valueOf_pp (t : Addr) (w : World) : (ReflectliteValue.unpack (.iface 83 (.pointer (some t)))).run Tryd.prog w
    = .ok (.agg #[.pointer (some ⟨2, 83, none⟩), .pointer (some ⟨w.heap.size, 0, none⟩), .int .u64 150]) (w.alloc (.cells #[.pointer (some t)] 83)) := by kernel_rfl
theorem type_pp (a : Addr) (w : World) : (ReflectliteValue.methodAny (ReflectliteValue.valueError "reflectlite.Value.Type" 0) (fun t _ _ _ => ReflectliteType.toType t) #[.agg #[.pointer (some ⟨2, 83, none⟩), .pointer (some a), .int .u64 150]]).run Tryd.prog w
    = .ok (.iface 119 (.agg #[.pointer (some ⟨2, 83, none⟩)])) w := by kernel_rfl
theorem kind_pp (w : World) : ((ReflectliteType.abiMethod fun t => (fun a : Nat => Value.int IntKind.u8 (a : Int)) <$> Rtype.kind t) #[.pointer (some ⟨2, 83, none⟩)]).run Tryd.prog w = .ok (.int .u8 22) w := by kernel_rfl
theorem kind_p (w : World) : ((ReflectliteType.abiMethod fun t => (fun a : Nat => Value.int IntKind.u8 (a : Int)) <$> Rtype.kind t) #[.pointer (some ⟨2, 71, none⟩)]).run Tryd.prog w = .ok (.int .u8 22) w := by kernel_rfl
theorem elem_pp (w : World) : (ReflectliteType.method ReflectliteType.elem #[.agg #[.pointer (some ⟨2, 83, none⟩)]]).run Tryd.prog w = .ok (.iface 119 (.agg #[.pointer (some ⟨2, 71, none⟩)])) w := by kernel_rfl
theorem implements_p (w : World) : (ReflectliteType.relation "Implements" ReflectliteType.implements_ #[.agg #[.pointer (some ⟨2, 71, none⟩)], .iface 119 (.agg #[.pointer (some ⟨2, 29, none⟩)])]).run Tryd.prog w = .ok (.bool true) w := by kernel_rfl
theorem typeOf_p (v : Value) (w : World) : (ReflectliteType.typeOf #[.iface 71 v]).run Tryd.prog w = .ok (.iface 119 (.agg #[.pointer (some ⟨2, 71, none⟩)])) w := by kernel_rfl
theorem assign_pp (w : World) : (ReflectliteType.relation "AssignableTo" ReflectliteType.assignableTo #[.agg #[.pointer (some ⟨2, 71, none⟩)], .iface 119 (.agg #[.pointer (some ⟨2, 71, none⟩)])]).run Tryd.prog w = .ok (.bool true) w := by kernel_rfl
theorem valueOf_p (e : Addr) (w : World) : (ReflectliteValue.unpack (.iface 71 (.pointer (some e)))).run Tryd.prog w
    = .ok (.agg #[.pointer (some ⟨2, 71, none⟩), .pointer (some ⟨w.heap.size, 0, none⟩), .int .u64 150]) (w.alloc (.cells #[.pointer (some e)] 71)) := by kernel_rfl
set_option linter.unusedVariables false
theorem rlm (z : Sem Value) (f : TypeId → Addr → Nat → Nat → Sem Value) (v : Value) :
    ReflectliteValue.method z f #[v] = (do match ← ReflectliteValue.parts v with | none => z | some (t, a, fl) => f t a fl (fl % 32)) := rfl
theorem parts_pp (a : Addr) (w : World) : (ReflectliteValue.parts (.agg #[.pointer (some ⟨2, 83, none⟩), .pointer (some a), .int .u64 150])).run Tryd.prog w = .ok (some (83, a, 150)) w := by kernel_rfl
theorem isNil_pp (a p : Addr) (W : World) (ha : W.cell? a = some (.pointer (some p))) :
    (ReflectliteValue.method (ReflectliteValue.valueError "reflectlite.Value.IsNil" 0) ReflectliteValue.isNil #[.agg #[.pointer (some ⟨2, 83, none⟩), .pointer (some a), .int .u64 150]]).run Tryd.prog W = .ok (.bool false) W := by
  rw [rlm]
  simp only [Sem.run_bind, parts_pp, Result.andThen]
  simp [ReflectliteValue.isNil, loadVar, isAgg, underlying, Tryd.underlying83, ha, Result.andThen]
theorem elemOf_pp (w : World) : (Rtype.elem? 83).run Tryd.prog w = .ok (some 71) w := by kernel_rfl
theorem mk_p (p : Addr) (w : World) : (ReflectliteValue.mk 71 p ReflectliteValue.flagAddr).run Tryd.prog w = .ok (.agg #[.pointer (some ⟨2, 71, none⟩), .pointer (some p), .int .u64 406]) w := by kernel_rfl
theorem elemV_pp (a p : Addr) (W : World) (ha : W.cell? a = some (.pointer (some p))) :
    (ReflectliteValue.method (ReflectliteValue.valueError "reflectlite.Value.Elem" 0) ReflectliteValue.elem #[.agg #[.pointer (some ⟨2, 83, none⟩), .pointer (some a), .int .u64 150]]).run Tryd.prog W
      = .ok (.agg #[.pointer (some ⟨2, 71, none⟩), .pointer (some p), .int .u64 406]) W := by
  rw [rlm]
  simp only [Sem.run_bind, parts_pp, Result.andThen]
  simp [ReflectliteValue.elem, loadVar, isAgg, underlying, Tryd.underlying83, ha, Result.andThen, elemOf_pp, mk_p]
theorem rls (v x : Value) : ReflectliteValue.set #[v, x] = (do
    let (some (dst, a, fl), some (src, b, _)) := (← ReflectliteValue.parts v, ← ReflectliteValue.parts x)
      | unsupported (.noEntry "extern/(internal/reflectlite.Value).Set.zeroValue")
    if fl / ReflectliteValue.flagAddr % 2 == 0 then unsupported (.noEntry "extern/(internal/reflectlite.Value).Set.unaddressable")
    let val ← loadVar src b
    if ← Rtype.directlyAssignable dst src then storeVar dst a val
    else if ← Rtype.implements dst src then
      if (← Rtype.kind src) == 20 then
        match val with
        | .nilIface => unsupported (.noEntry "extern/reflectlite: a nil value of one interface type handed on as a value of another")
        | _ => storeVar dst a val
      else storeVar dst a (.iface src val)
    else panicString ("reflectlite.Set: value of type " ++ (← Rtype.spelt src) ++ " is not assignable to type " ++ (← Rtype.spelt dst))
    pure (.tuple #[])) := rfl
theorem parts_pa (a : Addr) (w : World) : (ReflectliteValue.parts (.agg #[.pointer (some ⟨2, 71, none⟩), .pointer (some a), .int .u64 406])).run Tryd.prog w = .ok (some (71, a, 406)) w := by kernel_rfl
theorem parts_p (a : Addr) (w : World) : (ReflectliteValue.parts (.agg #[.pointer (some ⟨2, 71, none⟩), .pointer (some a), .int .u64 150])).run Tryd.prog w = .ok (some (71, a, 150)) w := by kernel_rfl
theorem direct_p (w : World) : (Rtype.directlyAssignable 71 71).run Tryd.prog w = .ok true w := by kernel_rfl
theorem set_p (ta b e : Addr) (old : Value) (W : World) (hb : W.cell? b = some (.pointer (some e))) (ht : W.cell? ta = some old) (hf : W.frozen? ta = false) :
    (ReflectliteValue.set #[.agg #[.pointer (some ⟨2, 71, none⟩), .pointer (some ta), .int .u64 406], .agg #[.pointer (some ⟨2, 71, none⟩), .pointer (some b), .int .u64 150]]).run Tryd.prog W
      = .ok (.tuple #[]) (W.setCell ta (.pointer (some e))) := by
  rw [rls]
  simp only [Sem.run_bind, parts_pa, parts_p, Result.andThen]
  simp [ReflectliteValue.flagAddr, loadVar, isAgg, underlying, Tryd.underlying71, hb, Result.andThen, direct_p, storeVar, Value.cells, storeCells, Addr.add]
  rw [run_store Tryd.prog W ta _ _ (by rfl)]
  simp [ht, hf]
/-- An error that this program makes: a place. -/
inductive Ch (w : World) : Value → Nat → Option Nat → Prop where
  | place (b : Nat) (e p : Int) (h0 : w.cell? ⟨b, 0, none⟩ = some (.int .i64 e)) (h1 : w.cell? ⟨b, 1, none⟩ = some (.int .i64 p)) : Ch w (.iface 71 (.pointer (some ⟨b, 0, none⟩))) 0 (some b)
theorem Ch.form {w : World} {v : Value} {d : Nat} {r : Option Nat} (h : Ch w v d r) : ∃ T b, v = .iface T (.pointer (some ⟨b, 0, none⟩)) := by
  cases h <;> exact ⟨_, _, rfl⟩
theorem Ch.later {w w' : World} {v : Value} {d : Nat} {r : Option Nat} (h : Ch w v d r) (hb : Below w.heap.size w w') : Ch w' v d r := by
  have c : ∀ {b i : Nat} {u : Value}, w.cell? ⟨b, i, none⟩ = some u → w'.cell? ⟨b, i, none⟩ = some u := fun {b i u} hc => (hb.cell (p := ⟨b, i, none⟩) (World.block_lt_of_cell? w _ hc)).trans hc
  cases h with
  | place b e p h0 h1 => exact .place b e p (c h0) (c h1)
def AsEnd (w : World) (t : Addr) (r : Option Nat) (e : Ending) (w' : World) : Prop :=
  match r with
  | some p => e = .returned (.bool true) ∧ ∃ y, Below w.heap.size w y ∧ w' = y.setCell t (.pointer (some ⟨p, 0, none⟩))
  | none => e = .returned (.bool false) ∧ Below w.heap.size w w'
theorem methAssign (h : Value) (w : World) : (Go.method 264 119 (.agg #[h]) "AssignableTo").run Tryd.prog w = .ok (101, .agg #[h]) w := by kernel_rfl
set_option maxRecDepth 100000 in
set_option maxHeartbeats 1600000 in
theorem asL_any {w : World} {v : Value} {d : Nat} {r : Option Nat} (h : Ch w v d r) (t a : Addr) (old : Value) (ha : w.cell? a = some (.pointer (some t))) (ht : w.cell? t = some old) (hf : w.frozen? t = false) :
    Calls Tryd.prog 57 #[v, .iface 83 (.pointer (some t)), .agg #[.pointer (some ⟨2, 83, none⟩), .pointer (some a), .int .u64 150], .iface 119 (.agg #[.pointer (some ⟨2, 71, none⟩)])] w (AsEnd w t r) := by
  have hTO := @run_callFunc_extern Tryd.prog 67 _ ReflectliteType.typeOf Tryd.func67 (by kernel_rfl) (by kernel_rfl) (by kernel_rfl) (by kernel_rfl)
  have hAS := @run_callFunc_extern Tryd.prog 101 _ (ReflectliteType.relation "AssignableTo" ReflectliteType.assignableTo) Tryd.func101 (by kernel_rfl) (by kernel_rfl) (by kernel_rfl) (by kernel_rfl)
  have hVE := @run_callFunc_extern Tryd.prog 68 _ (ReflectliteValue.method (ReflectliteValue.valueError "reflectlite.Value.Elem" 0) ReflectliteValue.elem) Tryd.func68 (by kernel_rfl) (by kernel_rfl) (by kernel_rfl) (by kernel_rfl)
  have hVO := @run_callFunc_extern Tryd.prog 54 _ (fun args => ReflectliteValue.unpack (args.getD 0 (.tuple #[]))) Tryd.func54 (by kernel_rfl) (by kernel_rfl) (by kernel_rfl) (by kernel_rfl)
  have hVS := @run_callFunc_extern Tryd.prog 69 _ ReflectliteValue.set Tryd.func69 (by kernel_rfl) (by kernel_rfl) (by kernel_rfl) (by kernel_rfl)
  have tlt := World.block_lt_of_cell? w _ ht
  have hBW : Below w.heap.size w (w.alloc (.cells #[.pointer (some ⟨2, 83, none⟩), .pointer (some a), .int .u64 150] 104)) := (Below.refl _ w).alloc (Nat.le_refl _) _
  have HCH := Lib.hid (h.later hBW)
  have ha' := (hBW.cell (p := a) (World.block_lt_of_cell? w _ ha)).trans ha
  have ht' := (hBW.cell (p := t) tlt).trans ht
  have hf' : (w.alloc (.cells #[.pointer (some ⟨2, 83, none⟩), .pointer (some a), .int .u64 150] 104)).frozen? t = false := by
    have := hBW.frozen (p := t) tlt
    rw [this]; exact hf
  have c0 : (w.alloc (.cells #[.pointer (some ⟨2, 83, none⟩), .pointer (some a), .int .u64 150] 104)).cell? ⟨w.heap.size, 0, none⟩ = some (.pointer (some ⟨2, 83, none⟩)) := by simp
  have c1 : (w.alloc (.cells #[.pointer (some ⟨2, 83, none⟩), .pointer (some a), .int .u64 150] 104)).cell? ⟨w.heap.size, 1, none⟩ = some (.pointer (some a)) := by simp
  have c2 : (w.alloc (.cells #[.pointer (some ⟨2, 83, none⟩), .pointer (some a), .int .u64 150] 104)).cell? ⟨w.heap.size, 2, none⟩ = some (.int .u64 150) := by simp
  clear h
  go_enter Tryd.func57, Tryd.ntmps57
  go_wp2
  generalize hW : w.alloc (.cells #[.pointer (some ⟨2, 83, none⟩), .pointer (some a), .int .u64 150] 104) = W0 at *
  have HW := Lib.hid hBW
  clear hBW hW ht ha hf
  go_loopg [0] d (fun gg err wr => wr = W0 ∧ ∃ d', d' ≤ gg ∧ Hid (Ch W0 err d' r))
  case atStart => exact ⟨rfl, d, Nat.le_refl _, HCH⟩
  case round =>
    obtain ⟨rfl, d', hg, HC⟩ := hrel
    clear HCH
    have hch := HC.out
    clear HC
    have t6 := methAssign
    cases hch with
    | place b e p h0 h1 =>
      have t1 := typeOf_p
      have t2 := assign_pp
      have t3 := valueOf_p
      have t4 := elemV_pp a t wr ha'
      have t5 := set_p t ⟨wr.heap.size, 0, none⟩ ⟨b, 0, none⟩ old (wr.alloc (.cells #[.pointer (some ⟨b, 0, none⟩)] 71)) (by simp) ((((Below.refl _ wr).alloc (Nat.le_refl _) _).cell (p := t) (World.block_lt_of_cell? wr _ ht')).trans ht') ((((Below.refl _ wr).alloc (Nat.le_refl _) _).frozen (p := t) (World.block_lt_of_cell? wr _ ht')).trans hf')
      go_wp2
      go_ret
      exact ⟨rfl, _, (HW.out).alloc (by have := HW.out.size; omega) _, rfl⟩
set_option linter.unusedVariables false
theorem methKind (h : Value) (w : World) : (Go.method 264 119 (.agg #[h]) "Kind").run Tryd.prog w = .ok (92, h) w := by kernel_rfl
theorem methElem (h : Value) (w : World) : (Go.method 264 119 (.agg #[h]) "Elem").run Tryd.prog w = .ok (103, .agg #[h]) w := by kernel_rfl
theorem methImpl (h : Value) (w : World) : (Go.method 264 119 (.agg #[h]) "Implements").run Tryd.prog w = .ok (104, .agg #[h]) w := by kernel_rfl
theorem AsEnd.wide {w w1 : World} {t : Addr} {r : Option Nat} {e : Ending} {w' : World} (hb : Below w.heap.size w w1) (h : AsEnd w1 t r e w') : AsEnd w t r e w' := by
  cases r with
  | none => exact ⟨h.1, hb.trans (h.2.mono hb.size)⟩
  | some p => obtain ⟨e1, y, hy, hw⟩ := h; exact ⟨e1, y, hb.trans (hy.mono hb.size), hw⟩
set_option maxRecDepth 100000 in
set_option maxHeartbeats 4000000 in
theorem as_any {w : World} {v : Value} {d : Nat} {r : Option Nat} (h : Ch w v d r) (t : Addr) (old : Value) (hg : w.cell? ⟨0, 0, none⟩ = some (.iface 119 (.agg #[.pointer (some ⟨2, 29, none⟩)])))
    (ht : w.cell? t = some old) (hf : w.frozen? t = false) :
    Calls Tryd.prog 26 #[v, .iface 83 (.pointer (some t))] w (AsEnd w t r) := by
  have h25 := @run_callFunc_extern Tryd.prog 54 _ (fun args => ReflectliteValue.unpack (args.getD 0 (.tuple #[]))) Tryd.func54 (by kernel_rfl) (by kernel_rfl) (by kernel_rfl) (by kernel_rfl)
  have h26 := @run_callFunc_extern Tryd.prog 55 _ (ReflectliteValue.methodAny (ReflectliteValue.valueError "reflectlite.Value.Type" 0) (fun t _ _ _ => ReflectliteType.toType t)) Tryd.func55 (by kernel_rfl) (by kernel_rfl) (by kernel_rfl) (by kernel_rfl)
  have h27 := @run_callFunc_extern Tryd.prog 56 _ (ReflectliteValue.method (ReflectliteValue.valueError "reflectlite.Value.IsNil" 0) ReflectliteValue.isNil) Tryd.func56 (by kernel_rfl) (by kernel_rfl) (by kernel_rfl) (by kernel_rfl)
  have h45 := @run_callFunc_extern Tryd.prog 92 _ (ReflectliteType.abiMethod fun t => do pure (.int .u8 (← Rtype.kind t))) Tryd.func92 (by kernel_rfl) (by kernel_rfl) (by kernel_rfl) (by kernel_rfl)
  have h62 := @run_callFunc_extern Tryd.prog 103 _ (ReflectliteType.method ReflectliteType.elem) Tryd.func103 (by kernel_rfl) (by kernel_rfl) (by kernel_rfl) (by kernel_rfl)
  have h63 := @run_callFunc_extern Tryd.prog 104 _ (ReflectliteType.relation "Implements" ReflectliteType.implements_) Tryd.func104 (by kernel_rfl) (by kernel_rfl) (by kernel_rfl) (by kernel_rfl)
  have f6 := valueOf_pp
  have f7 := type_pp
  have mK := methKind
  have mE := methElem
  have mI := methImpl
  have k27 := kind_pp
  have k25 := kind_p
  have e27 := elem_pp
  have i25 := implements_p
  have n8 := isNil_pp ⟨w.heap.size, 0, none⟩ t ((w.alloc (.cells #[.pointer (some t)] 83)).alloc (.cells #[.pointer (some ⟨2, 83, none⟩), .pointer (some ⟨w.heap.size, 0, none⟩), .int .u64 150] 104)) (by simp)
  have hlt : 0 < w.heap.size := World.block_lt_of_cell? w _ hg
  have htl : t.block < w.heap.size := World.block_lt_of_cell? w _ ht
  have hB : Below w.heap.size w ((w.alloc (.cells #[.pointer (some t)] 83)).alloc (.cells #[.pointer (some ⟨2, 83, none⟩), .pointer (some ⟨w.heap.size, 0, none⟩), .int .u64 150] 104)) := ((Below.refl _ w).alloc (Nat.le_refl _) _).alloc (by simp) _
  have hg2 := (hB.cell (p := ⟨0, 0, none⟩) hlt).trans hg
  have ht2 := (hB.cell (p := t) htl).trans ht
  have hf2 := (hB.frozen (p := t) htl).trans hf
  have HC := asL_any (h.later hB) t ⟨w.heap.size, 0, none⟩ old (by simp) ht2 hf2
  have HC' := Lib.hid HC
  have HB := Lib.hid hB
  obtain ⟨T, b, rfl⟩ := h.form
  clear HC hB h
  go_enter Tryd.func26, Tryd.ntmps26
  cases r with
  | none =>
    go_wp2_with (go_at_call 57; refine (HC'.out).mono ?_; intro e w' hx; obtain ⟨rfl, hx2⟩ := hx; have HX := Lib.hid hx2; clear hx2)
    go_ret
    exact ⟨rfl, HB.out.trans (HX.out.mono HB.out.size)⟩
  | some p =>
    go_wp2_with (go_at_call 57; refine (HC'.out).mono ?_; intro e w' hx; obtain ⟨rfl, hx2⟩ := hx; have HX := Lib.hid hx2; clear hx2)
    go_ret
    obtain ⟨y, hy, hw⟩ := HX.out
    exact ⟨rfl, y, HB.out.trans (hy.mono HB.out.size), hw⟩
def HasType (w : World) : Prop := w.cell? ⟨0, 0, none⟩ = some (.iface 119 (.agg #[.pointer (some ⟨2, 29, none⟩)]))
theorem HasType.later {w w' : World} (h : HasType w) (hb : Below w.heap.size w w') : HasType w' := (hb.cell (p := ⟨0, 0, none⟩) (World.block_lt_of_cell? w _ h)).trans h
theorem setCell_same {y : World} {t : Addr} {x old : Value} (h : y.cell? t = some old) : (y.setCell t x).cell? t = some x := World.cell?_setCell_same _ _ _ h
theorem of_facts {w : World} {p : Nat} {en : Ending} {w' : World} {x0 x1 : Value} (T0 T1 : TypeId) (c0 c1 : Value) (h0 : w.cell? ⟨p, 0, none⟩ = some x0) (h1 : w.cell? ⟨p, 1, none⟩ = some x1)
    (h : AsEnd ((w.alloc (.cells #[c0, c1] T0)).alloc (.cells #[.pointer none] T1)) ⟨w.heap.size + 1, 0, none⟩ (some p) en w') :
    en = .returned (.bool true) ∧ Below w.heap.size w w' ∧ w.heap.size + 1 < w'.heap.size ∧ w'.cell? ⟨w.heap.size + 1, 0, none⟩ = some (.pointer (some ⟨p, 0, none⟩)) ∧ w'.cell? ⟨p, 0, none⟩ = some x0 ∧ w'.cell? ⟨p, 1, none⟩ = some x1 ∧
      w'.cell? ⟨w.heap.size, 0, none⟩ = some c0 ∧ w'.cell? ⟨w.heap.size, 1, none⟩ = some c1 ∧ w'.frozen? ⟨w.heap.size, 0, none⟩ = false ∧ w'.frozen? ⟨w.heap.size, 1, none⟩ = false := by
  obtain ⟨rfl, y, hy, rfl⟩ := h
  have hB : Below w.heap.size w ((w.alloc (.cells #[c0, c1] T0)).alloc (.cells #[.pointer none] T1)) := ((Below.refl _ w).alloc (Nat.le_refl _) _).alloc (by simp) _
  have hwy := hB.trans (hy.mono hB.size)
  have hz := hy.size
  simp at hz
  have hp : p < w.heap.size := World.block_lt_of_cell? w _ h0
  have e1 : ∀ q : Addr, q.block ≠ w.heap.size + 1 → (y.setCell ⟨w.heap.size + 1, 0, none⟩ (.pointer (some ⟨p, 0, none⟩))).cell? q = y.cell? q := fun q hq => World.cell?_of_block (w := y) (Below.heap_setCell _ _ _ _ (by simpa using hq))
  have e2 : ∀ q : Addr, q.block ≠ w.heap.size + 1 → (y.setCell ⟨w.heap.size + 1, 0, none⟩ (.pointer (some ⟨p, 0, none⟩))).frozen? q = y.frozen? q := fun q hq => World.frozen?_of_block (w := y) (Below.heap_setCell _ _ _ _ (by simpa using hq))
  refine ⟨rfl, hwy.setCell (by simp) _, by simp; omega, setCell_same (old := .pointer none) ?_, ?_, ?_, ?_, ?_, ?_, ?_⟩
  · rw [hy.cell (p := ⟨w.heap.size + 1, 0, none⟩) (by simp)]; simp
  · rw [e1 _ (by simp; omega), hwy.cell (p := ⟨p, 0, none⟩) hp, h0]
  · rw [e1 _ (by simp; omega), hwy.cell (p := ⟨p, 1, none⟩) hp, h1]
  · rw [e1 _ (by simp), hy.cell (p := ⟨w.heap.size, 0, none⟩) (by simp; omega)]; simp
  · rw [e1 _ (by simp), hy.cell (p := ⟨w.heap.size, 1, none⟩) (by simp; omega)]; simp
  · rw [e2 _ (by simp), hy.frozen (p := ⟨w.heap.size, 0, none⟩) (by simp; omega)]; simp
  · rw [e2 _ (by simp), hy.frozen (p := ⟨w.heap.size, 1, none⟩) (by simp; omega)]; simp
def FOfEnd (w : World) (r : Option Nat) (e0 at_ : Int) (en : Ending) (w' : World) : Prop :=
  match r with
  | some _ => en = .returned (.tuple #[.agg #[.int .i64 e0, .int .i64 at_], .bool true]) ∧ Below w.heap.size w w'
  | none => en = .returned (.tuple #[.agg #[.int .i64 0, .int .i64 0], .bool false]) ∧ Below w.heap.size w w'
set_option maxRecDepth 100000 in
set_option maxHeartbeats 1000000 in
theorem of_hit {w : World} {v : Value} {d p : Nat} (h : Ch w v d (some p)) (hg : HasType w) (e0 at_ : Int) (h0 : w.cell? ⟨p, 0, none⟩ = some (.int .i64 e0)) (h1 : w.cell? ⟨p, 1, none⟩ = some (.int .i64 at_)) :
    Calls Tryd.prog 15 #[v] w (FOfEnd w (some p) e0 at_) := by
  have hB : Below w.heap.size w ((w.alloc (.cells #[.int .i64 0, .int .i64 0] 62)).alloc (.cells #[.pointer none] 71)) := ((Below.refl _ w).alloc (Nat.le_refl _) _).alloc (by simp) _
  have HA := Lib.hid (as_any (h.later hB) ⟨w.heap.size + 1, 0, none⟩ (.pointer none) (hg.later hB) (by simp) (by simp))
  obtain ⟨T, b, rfl⟩ := h.form
  have H0 := Lib.hid h0
  have H1 := Lib.hid h1
  clear h hB hg h0 h1
  go_enter Tryd.func15, Tryd.ntmps15
  go_wp2_with (go_at_call 26; refine (HA.out).mono ?_; intro en w' hx; obtain ⟨rfl, hb, hz, k0, k1, k2, k3, k4, k5, k6⟩ := of_facts 62 71 _ _ H0.out H1.out hx; clear hx; have HB := Lib.hid hb; clear hb)
  refine bodyPost_ret (v := .tuple #[.agg #[.int .i64 e0, .int .i64 at_], .bool true]) (by simp [results, Tryd.results15, go_sem, k3, k4]) rfl ⟨rfl, ?_⟩
  first | exact ((HB.out).setCell (by simp) _).setCell (by simp) _ | trace_state
structure Err (w : World) (v : Value) (r : Option (Int × Int)) : Prop where
  ch : ∃ d p, Ch w v d p ∧ (match r with | some (e, a) => ∃ b, p = some b ∧ w.cell? ⟨b, 0, none⟩ = some (.int .i64 e) ∧ w.cell? ⟨b, 1, none⟩ = some (.int .i64 a) | none => p = none)
def RetB (w : World) (v : Value) (e : Ending) (w' : World) : Prop := e = .returned v ∧ Below w.heap.size w w'
theorem of_err {w : World} {v : Value} {e a : Int} (h : Err w v (some (e, a))) (hg : HasType w) :
    Calls Tryd.prog 15 #[v] w (RetB w (.tuple #[.agg #[.int .i64 e, .int .i64 a], .bool true])) := by
  obtain ⟨d, p, hc, b, rfl, h0, h1⟩ := h.ch
  exact of_hit hc hg e a h0 h1
theorem Err.form {w : World} {v : Value} {r : Option (Int × Int)} (h : Err w v r) : ∃ T b, v = .iface T (.pointer (some ⟨b, 0, none⟩)) := by
  obtain ⟨d, p, hc, hr⟩ := h.ch; exact hc.form
theorem Err.later {w w' : World} {v : Value} {r : Option (Int × Int)} (h : Err w v r) (hb : Below w.heap.size w w') : Err w' v r := by
  obtain ⟨d, p, hc, hr⟩ := h.ch
  refine ⟨d, p, hc.later hb, ?_⟩
  cases r with
  | none => exact hr
  | some q =>
    obtain ⟨b, rfl, h0, h1⟩ := hr
    exact ⟨b, rfl, (hb.cell (p := ⟨b, 0, none⟩) (World.block_lt_of_cell? w _ h0)).trans h0, (hb.cell (p := ⟨b, 1, none⟩) (World.block_lt_of_cell? w _ h1)).trans h1⟩
set_option maxHeartbeats 1000000 in
theorem code_some {w : World} {v : Value} {e a : Int} (h : Err w v (some (e, a))) (hg : HasType w) : Calls Tryd.prog 7 #[v] w (RetB w (.int .i64 e)) := by
  have HO := Lib.hid (of_err h hg)
  obtain ⟨T, b, rfl⟩ := h.form
  clear h hg
  go_enter Tryd.func7, Tryd.ntmps7
  go_wp2_with (go_at_call 15; refine (HO.out).mono ?_; intro en w' hx; obtain ⟨rfl, hb⟩ := hx; have HB := Lib.hid hb; clear hb)
  go_ret
  exact ⟨rfl, ((HB.out).alloc HB.out.size _)⟩
theorem code_nil (w : World) : Calls Tryd.prog 7 #[.nilIface] w (RetB w (.int .i64 0)) := by
  go_enter Tryd.func7, Tryd.ntmps7
  go_wp2
  go_ret
  exact ⟨rfl, Below.refl _ _⟩
set_option maxHeartbeats 1000000 in
theorem at_some {w : World} {v : Value} {e a : Int} (h : Err w v (some (e, a))) (hg : HasType w) : Calls Tryd.prog 8 #[v] w (RetB w (.int .i64 a)) := by
  have HO := Lib.hid (of_err h hg)
  obtain ⟨T, b, rfl⟩ := h.form
  clear h hg
  go_enter Tryd.func8, Tryd.ntmps8
  go_wp2_with (go_at_call 15; refine (HO.out).mono ?_; intro en w' hx; obtain ⟨rfl, hb⟩ := hx; have HB := Lib.hid hb; clear hb)
  go_ret
  exact ⟨rfl, ((HB.out).alloc HB.out.size _)⟩
end Go.Proofs.YtdbmeocpjopdhaaDoor
