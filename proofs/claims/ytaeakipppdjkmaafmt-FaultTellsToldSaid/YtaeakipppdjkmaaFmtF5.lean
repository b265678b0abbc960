/- errors.As at the named error's target: facts on reflection; over a chain of errors. -/
import Derived.Test.YtaeakipppdjkmaaFmtF4
namespace Go.Proofs.YtaeakipppdjkmaaFmt
open Go.RowKit Go.Extern.Stop Go.Stop Go.Extern
set_option linter.unusedVariables false
theorem valueOf_ppN (t : Addr) (w : World) : (ReflectliteValue.unpack (.iface 57 (.pointer (some t)))).run Tryf.prog w
    = .ok (.agg #[.pointer (some ⟨1, 57, none⟩), .pointer (some ⟨w.heap.size, 0, none⟩), .int .u64 150]) (w.alloc (.cells #[.pointer (some t)] 57)) := by kernel_rfl
theorem type_ppN (a : Addr) (w : World) : (ReflectliteValue.methodAny (ReflectliteValue.valueError "reflectlite.Value.Type" 0) (fun t _ _ _ => ReflectliteType.toType t) #[.agg #[.pointer (some ⟨1, 57, none⟩), .pointer (some a), .int .u64 150]]).run Tryf.prog w
    = .ok (.iface 77 (.agg #[.pointer (some ⟨1, 57, none⟩)])) w := by kernel_rfl
theorem kind_ppN (w : World) : ((ReflectliteType.abiMethod fun t => (fun a : Nat => Value.int IntKind.u8 (a : Int)) <$> Rtype.kind t) #[.pointer (some ⟨1, 57, none⟩)]).run Tryf.prog w = .ok (.int .u8 22) w := by kernel_rfl
theorem kind_pN (w : World) : ((ReflectliteType.abiMethod fun t => (fun a : Nat => Value.int IntKind.u8 (a : Int)) <$> Rtype.kind t) #[.pointer (some ⟨1, 48, none⟩)]).run Tryf.prog w = .ok (.int .u8 22) w := by kernel_rfl
theorem elem_ppN (w : World) : (ReflectliteType.method ReflectliteType.elem #[.agg #[.pointer (some ⟨1, 57, none⟩)]]).run Tryf.prog w = .ok (.iface 77 (.agg #[.pointer (some ⟨1, 48, none⟩)])) w := by kernel_rfl
theorem implements_pN (w : World) : (ReflectliteType.relation "Implements" ReflectliteType.implements_ #[.agg #[.pointer (some ⟨1, 48, none⟩)], .iface 77 (.agg #[.pointer (some ⟨1, 24, none⟩)])]).run Tryf.prog w = .ok (.bool true) w := by kernel_rfl
theorem assign_ppN (w : World) : (ReflectliteType.relation "AssignableTo" ReflectliteType.assignableTo #[.agg #[.pointer (some ⟨1, 48, none⟩)], .iface 77 (.agg #[.pointer (some ⟨1, 48, none⟩)])]).run Tryf.prog w = .ok (.bool true) w := by kernel_rfl
theorem assign_npN (w : World) : (ReflectliteType.relation "AssignableTo" ReflectliteType.assignableTo #[.agg #[.pointer (some ⟨1, 45, none⟩)], .iface 77 (.agg #[.pointer (some ⟨1, 48, none⟩)])]).run Tryf.prog w = .ok (.bool false) w := by kernel_rfl
theorem assign_wpN (w : World) : (ReflectliteType.relation "AssignableTo" ReflectliteType.assignableTo #[.agg #[.pointer (some ⟨1, 53, none⟩)], .iface 77 (.agg #[.pointer (some ⟨1, 48, none⟩)])]).run Tryf.prog w = .ok (.bool false) w := by kernel_rfl
theorem assign_spN (w : World) : (ReflectliteType.relation "AssignableTo" ReflectliteType.assignableTo #[.agg #[.pointer (some ⟨1, 62, none⟩)], .iface 77 (.agg #[.pointer (some ⟨1, 48, none⟩)])]).run Tryf.prog w = .ok (.bool false) w := by kernel_rfl
theorem valueOf_pN (e : Addr) (w : World) : (ReflectliteValue.unpack (.iface 48 (.pointer (some e)))).run Tryf.prog w
    = .ok (.agg #[.pointer (some ⟨1, 48, none⟩), .pointer (some ⟨w.heap.size, 0, none⟩), .int .u64 150]) (w.alloc (.cells #[.pointer (some e)] 48)) := by kernel_rfl
theorem parts_ppN (a : Addr) (w : World) : (ReflectliteValue.parts (.agg #[.pointer (some ⟨1, 57, none⟩), .pointer (some a), .int .u64 150])).run Tryf.prog w = .ok (some (57, a, 150)) w := by kernel_rfl
theorem isNil_ppN (a p : Addr) (W : World) (ha : W.cell? a = some (.pointer (some p))) :
    (ReflectliteValue.method (ReflectliteValue.valueError "reflectlite.Value.IsNil" 0) ReflectliteValue.isNil #[.agg #[.pointer (some ⟨1, 57, none⟩), .pointer (some a), .int .u64 150]]).run Tryf.prog W = .ok (.bool false) W := by
  rw [rlm]
  simp only [Sem.run_bind, parts_ppN, Result.andThen]
  simp [ReflectliteValue.isNil, loadVar, isAgg, underlying, Tryf.underlying57, ha, Result.andThen]
theorem elemOf_ppN (w : World) : (Rtype.elem? 57).run Tryf.prog w = .ok (some 48) w := by kernel_rfl
theorem mk_pN (p : Addr) (w : World) : (ReflectliteValue.mk 48 p ReflectliteValue.flagAddr).run Tryf.prog w = .ok (.agg #[.pointer (some ⟨1, 48, none⟩), .pointer (some p), .int .u64 406]) w := by kernel_rfl
theorem elemV_ppN (a p : Addr) (W : World) (ha : W.cell? a = some (.pointer (some p))) :
    (ReflectliteValue.method (ReflectliteValue.valueError "reflectlite.Value.Elem" 0) ReflectliteValue.elem #[.agg #[.pointer (some ⟨1, 57, none⟩), .pointer (some a), .int .u64 150]]).run Tryf.prog W
      = .ok (.agg #[.pointer (some ⟨1, 48, none⟩), .pointer (some p), .int .u64 406]) W := by
  rw [rlm]
  simp only [Sem.run_bind, parts_ppN, Result.andThen]
  simp [ReflectliteValue.elem, loadVar, isAgg, underlying, Tryf.underlying57, ha, Result.andThen, elemOf_ppN, mk_pN]
theorem parts_paN (a : Addr) (w : World) : (ReflectliteValue.parts (.agg #[.pointer (some ⟨1, 48, none⟩), .pointer (some a), .int .u64 406])).run Tryf.prog w = .ok (some (48, a, 406)) w := by kernel_rfl
theorem parts_pN (a : Addr) (w : World) : (ReflectliteValue.parts (.agg #[.pointer (some ⟨1, 48, none⟩), .pointer (some a), .int .u64 150])).run Tryf.prog w = .ok (some (48, a, 150)) w := by kernel_rfl
theorem direct_pN (w : World) : (Rtype.directlyAssignable 48 48).run Tryf.prog w = .ok true w := by kernel_rfl
theorem set_pN (ta b e : Addr) (old : Value) (W : World) (hb : W.cell? b = some (.pointer (some e))) (ht : W.cell? ta = some old) (hf : W.frozen? ta = false) :
    (ReflectliteValue.set #[.agg #[.pointer (some ⟨1, 48, none⟩), .pointer (some ta), .int .u64 406], .agg #[.pointer (some ⟨1, 48, none⟩), .pointer (some b), .int .u64 150]]).run Tryf.prog W
      = .ok (.tuple #[]) (W.setCell ta (.pointer (some e))) := by
  rw [rls]
  simp only [Sem.run_bind, parts_paN, parts_pN, Result.andThen]
  simp [ReflectliteValue.flagAddr, loadVar, isAgg, underlying, Tryf.underlying48, hb, Result.andThen, direct_pN, storeVar, Value.cells, storeCells, Addr.add]
  rw [run_store Tryf.prog W ta _ _ (by rfl)]
  simp [ht, hf]
/-- The first name from outside of an error that this program makes. -/
inductive Nm (w : World) : Value → Nat → Option Nat → Prop where
  | place (b : Nat) (e p : Int) (h0 : w.cell? ⟨b, 0, none⟩ = some (.int .i64 e)) (h1 : w.cell? ⟨b, 1, none⟩ = some (.int .i64 p)) : Nm w (.iface 45 (.pointer (some ⟨b, 0, none⟩))) 0 none
  | estr (b : Nat) (m : ByteArray) (h0 : w.cell? ⟨b, 0, none⟩ = some (.string m)) : Nm w (.iface 62 (.pointer (some ⟨b, 0, none⟩))) 0 none
  | named (b : Nat) (m : ByteArray) (h0 : w.cell? ⟨b, 0, none⟩ = some (.string m)) : Nm w (.iface 48 (.pointer (some ⟨b, 0, none⟩))) 0 (some b)
  | wrap (b : Nat) (m : ByteArray) (x : Value) (d : Nat) (r : Option Nat) (h0 : w.cell? ⟨b, 0, none⟩ = some (.string m)) (h1 : w.cell? ⟨b, 1, none⟩ = some x) (hx : Nm w x d r) : Nm w (.iface 53 (.pointer (some ⟨b, 0, none⟩))) (d + 1) r
theorem Nm.form {w : World} {v : Value} {d : Nat} {r : Option Nat} (h : Nm w v d r) : ∃ T b, v = .iface T (.pointer (some ⟨b, 0, none⟩)) := by
  cases h <;> exact ⟨_, _, rfl⟩
theorem Nm.later {w w' : World} {v : Value} {d : Nat} {r : Option Nat} (h : Nm w v d r) (hb : Below w.heap.size w w') : Nm w' v d r := by
  have c : ∀ {b i : Nat} {u : Value}, w.cell? ⟨b, i, none⟩ = some u → w'.cell? ⟨b, i, none⟩ = some u := fun {b i u} hc => (hb.cell (p := ⟨b, i, none⟩) (World.block_lt_of_cell? w _ hc)).trans hc
  induction h with
  | place b e p h0 h1 => exact .place b e p (c h0) (c h1)
  | estr b m h0 => exact .estr b m (c h0)
  | named b m h0 => exact .named b m (c h0)
  | wrap b m x d r h0 h1 hx ih => exact .wrap b m x d r (c h0) (c h1) ih
set_option maxRecDepth 100000 in
set_option maxHeartbeats 1600000 in
theorem asL_anyN {w : World} {v : Value} {d : Nat} {r : Option Nat} (h : Nm w v d r) (t a : Addr) (old : Value) (ha : w.cell? a = some (.pointer (some t))) (ht : w.cell? t = some old) (hf : w.frozen? t = false) :
    Calls Tryf.prog 28 #[v, .iface 57 (.pointer (some t)), .agg #[.pointer (some ⟨1, 57, none⟩), .pointer (some a), .int .u64 150], .iface 77 (.agg #[.pointer (some ⟨1, 48, none⟩)])] w (AsEnd w t r) := by
  have hTO := @run_callFunc_extern Tryf.prog 23 _ ReflectliteType.typeOf Tryf.func23 (by kernel_rfl) (by kernel_rfl) (by kernel_rfl) (by kernel_rfl)
  have hAS := @run_callFunc_extern Tryf.prog 60 _ (ReflectliteType.relation "AssignableTo" ReflectliteType.assignableTo) Tryf.func60 (by kernel_rfl) (by kernel_rfl) (by kernel_rfl) (by kernel_rfl)
  have hVE := @run_callFunc_extern Tryf.prog 29 _ (ReflectliteValue.method (ReflectliteValue.valueError "reflectlite.Value.Elem" 0) ReflectliteValue.elem) Tryf.func29 (by kernel_rfl) (by kernel_rfl) (by kernel_rfl) (by kernel_rfl)
  have hVO := @run_callFunc_extern Tryf.prog 25 _ (fun args => ReflectliteValue.unpack (args.getD 0 (.tuple #[]))) Tryf.func25 (by kernel_rfl) (by kernel_rfl) (by kernel_rfl) (by kernel_rfl)
  have hVS := @run_callFunc_extern Tryf.prog 30 _ ReflectliteValue.set Tryf.func30 (by kernel_rfl) (by kernel_rfl) (by kernel_rfl) (by kernel_rfl)
  have tlt := World.block_lt_of_cell? w _ ht
  have hBW : Below w.heap.size w (w.alloc (.cells #[.pointer (some ⟨1, 57, none⟩), .pointer (some a), .int .u64 150] 69)) := (Below.refl _ w).alloc (Nat.le_refl _) _
  have HCH := Lib.hid (h.later hBW)
  have ha' := (hBW.cell (p := a) (World.block_lt_of_cell? w _ ha)).trans ha
  have ht' := (hBW.cell (p := t) tlt).trans ht
  have hf' : (w.alloc (.cells #[.pointer (some ⟨1, 57, none⟩), .pointer (some a), .int .u64 150] 69)).frozen? t = false := by
    have := hBW.frozen (p := t) tlt
    rw [this]; exact hf
  have c0 : (w.alloc (.cells #[.pointer (some ⟨1, 57, none⟩), .pointer (some a), .int .u64 150] 69)).cell? ⟨w.heap.size, 0, none⟩ = some (.pointer (some ⟨1, 57, none⟩)) := by simp
  have c1 : (w.alloc (.cells #[.pointer (some ⟨1, 57, none⟩), .pointer (some a), .int .u64 150] 69)).cell? ⟨w.heap.size, 1, none⟩ = some (.pointer (some a)) := by simp
  have c2 : (w.alloc (.cells #[.pointer (some ⟨1, 57, none⟩), .pointer (some a), .int .u64 150] 69)).cell? ⟨w.heap.size, 2, none⟩ = some (.int .u64 150) := by simp
  clear h
  go_enter Tryf.func28, Tryf.ntmps28
  go_wp2
  generalize hW : w.alloc (.cells #[.pointer (some ⟨1, 57, none⟩), .pointer (some a), .int .u64 150] 69) = W0 at *
  have HW := Lib.hid hBW
  clear hBW hW ht ha hf
  go_loopg [0] d (fun gg err wr => wr = W0 ∧ ∃ d', d' ≤ gg ∧ Hid (Nm W0 err d' r))
  case atStart => exact ⟨rfl, d, Nat.le_refl _, HCH⟩
  case round =>
    obtain ⟨rfl, d', hg, HC⟩ := hrel
    clear HCH
    have hch := HC.out
    clear HC
    have t6 := methAssign
    cases hch with
    | estr b m h0 =>
      have t1 := typeOf_s
      have t2 := assign_spN
      have t3 := noAs_s
      have t4 := un_s
      have t5 := uns_s
      go_wp2
      go_ret
      exact ⟨rfl, HW.out⟩
    | place b e p h0 h1 =>
      have t1 := typeOf_p
      have t2 := assign_npN
      have t3 := noAs_p
      have t4 := un_p
      have t5 := uns_p
      go_wp2
      go_ret
      exact ⟨rfl, HW.out⟩
    | named b m h0 =>
      have t1 := typeOf_n
      have t2 := assign_ppN
      have t3 := valueOf_pN
      have t4 := elemV_ppN a t wr ha'
      have t5 := set_pN t ⟨wr.heap.size, 0, none⟩ ⟨b, 0, none⟩ old (wr.alloc (.cells #[.pointer (some ⟨b, 0, none⟩)] 48)) (by simp) ((((Below.refl _ wr).alloc (Nat.le_refl _) _).cell (p := t) (World.block_lt_of_cell? wr _ ht')).trans ht') ((((Below.refl _ wr).alloc (Nat.le_refl _) _).frozen (p := t) (World.block_lt_of_cell? wr _ ht')).trans hf')
      go_wp2
      go_ret
      exact ⟨rfl, _, (HW.out).alloc (by have := HW.out.size; omega) _, rfl⟩
    | wrap b m x d'' r h0 h1 hx =>
      have t1 := typeOf_w
      have t2 := assign_wpN
      have t3 := noAs_w
      have t4 := un_w
      have t5 := methWunw
      have HX := Lib.hid hx
      obtain ⟨T', b', rfl⟩ := hx.form
      clear hx
      go_wp2
      go_roundg d''
      case measure => omega
      case rel => exact ⟨rfl, d'', Nat.le_refl _, HX⟩
set_option maxRecDepth 100000 in
set_option maxHeartbeats 4000000 in
theorem as_anyN {w : World} {v : Value} {d : Nat} {r : Option Nat} (h : Nm w v d r) (t : Addr) (old : Value) (hg : w.cell? ⟨0, 0, none⟩ = some (.iface 77 (.agg #[.pointer (some ⟨1, 24, none⟩)])))
    (ht : w.cell? t = some old) (hf : w.frozen? t = false) :
    Calls Tryf.prog 22 #[v, .iface 57 (.pointer (some t))] w (AsEnd w t r) := by
  have h25 := @run_callFunc_extern Tryf.prog 25 _ (fun args => ReflectliteValue.unpack (args.getD 0 (.tuple #[]))) Tryf.func25 (by kernel_rfl) (by kernel_rfl) (by kernel_rfl) (by kernel_rfl)
  have h26 := @run_callFunc_extern Tryf.prog 26 _ (ReflectliteValue.methodAny (ReflectliteValue.valueError "reflectlite.Value.Type" 0) (fun t _ _ _ => ReflectliteType.toType t)) Tryf.func26 (by kernel_rfl) (by kernel_rfl) (by kernel_rfl) (by kernel_rfl)
  have h27 := @run_callFunc_extern Tryf.prog 27 _ (ReflectliteValue.method (ReflectliteValue.valueError "reflectlite.Value.IsNil" 0) ReflectliteValue.isNil) Tryf.func27 (by kernel_rfl) (by kernel_rfl) (by kernel_rfl) (by kernel_rfl)
  have h45 := @run_callFunc_extern Tryf.prog 45 _ (ReflectliteType.abiMethod fun t => do pure (.int .u8 (← Rtype.kind t))) Tryf.func45 (by kernel_rfl) (by kernel_rfl) (by kernel_rfl) (by kernel_rfl)
  have h62 := @run_callFunc_extern Tryf.prog 62 _ (ReflectliteType.method ReflectliteType.elem) Tryf.func62 (by kernel_rfl) (by kernel_rfl) (by kernel_rfl) (by kernel_rfl)
  have h63 := @run_callFunc_extern Tryf.prog 63 _ (ReflectliteType.relation "Implements" ReflectliteType.implements_) Tryf.func63 (by kernel_rfl) (by kernel_rfl) (by kernel_rfl) (by kernel_rfl)
  have f6 := valueOf_ppN
  have f7 := type_ppN
  have mK := methKind
  have mE := methElem
  have mI := methImpl
  have k27 := kind_ppN
  have k25 := kind_pN
  have e27 := elem_ppN
  have i25 := implements_pN
  have n8 := isNil_ppN ⟨w.heap.size, 0, none⟩ t ((w.alloc (.cells #[.pointer (some t)] 57)).alloc (.cells #[.pointer (some ⟨1, 57, none⟩), .pointer (some ⟨w.heap.size, 0, none⟩), .int .u64 150] 69)) (by simp)
  have hlt : 0 < w.heap.size := World.block_lt_of_cell? w _ hg
  have htl : t.block < w.heap.size := World.block_lt_of_cell? w _ ht
  have hB : Below w.heap.size w ((w.alloc (.cells #[.pointer (some t)] 57)).alloc (.cells #[.pointer (some ⟨1, 57, none⟩), .pointer (some ⟨w.heap.size, 0, none⟩), .int .u64 150] 69)) := ((Below.refl _ w).alloc (Nat.le_refl _) _).alloc (by simp) _
  have hg2 := (hB.cell (p := ⟨0, 0, none⟩) hlt).trans hg
  have ht2 := (hB.cell (p := t) htl).trans ht
  have hf2 := (hB.frozen (p := t) htl).trans hf
  have HC := asL_anyN (h.later hB) t ⟨w.heap.size, 0, none⟩ old (by simp) ht2 hf2
  have HC' := Lib.hid HC
  have HB := Lib.hid hB
  obtain ⟨T, b, rfl⟩ := h.form
  clear HC hB h
  go_enter Tryf.func22, Tryf.ntmps22
  cases r with
  | none =>
    go_wp2_with (go_at_call 28; refine (HC'.out).mono ?_; intro e w' hx; obtain ⟨rfl, hx2⟩ := hx; have HX := Lib.hid hx2; clear hx2)
    go_ret
    exact ⟨rfl, HB.out.trans (HX.out.mono HB.out.size)⟩
  | some p =>
    go_wp2_with (go_at_call 28; refine (HC'.out).mono ?_; intro e w' hx; obtain ⟨rfl, hx2⟩ := hx; have HX := Lib.hid hx2; clear hx2)
    go_ret
    obtain ⟨y, hy, hw⟩ := HX.out
    exact ⟨rfl, y, HB.out.trans (hy.mono HB.out.size), hw⟩
end Go.Proofs.YtaeakipppdjkmaaFmt
