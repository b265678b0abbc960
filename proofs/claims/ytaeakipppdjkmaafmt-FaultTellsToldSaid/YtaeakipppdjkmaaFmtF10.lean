/- fmt.Errorf by its contract: closed facts on the stop; the four kinds of operand. -/
import Derived.Test.YtaeakipppdjkmaaFmtF9
import Derived.WalkSpells
import Derived.Stop.CallBack
import Derived.Stop.IfaceNil
import GoSem.ClaimData
namespace Go.Proofs.YtaeakipppdjkmaaFmt
open Go.RowKit Go.Extern.Stop Go.Stop Go.Extern
set_option linter.unusedVariables false
@[go_sem] theorem call_errorf (args : Array Value) (w : World) : (callFunc 19 args).run Tryf.prog w = (FmtCalls.errorf #[9, 51] #[24] args).run Tryf.prog w :=
  run_callFunc_next Tryf.func19 (by kernel_rfl) (by kernel_rfl) (by kernel_rfl) args w
@[go_sem] theorem errorf_guard (name : String) (w : World) : (FmtStop.guard name).run Tryf.prog w = .ok () w := by kernel_rfl
theorem nextTurns : Extern.next FmtCalls.turnsRow = some (FmtCalls.begun #[] #[]) := by kernel_rfl
theorem nextReturned : Extern.next FmtCalls.returnedRow = some (FmtCalls.returned #[] #[]) := by kernel_rfl
/-- "y: %w" -/
def fmtY : ByteArray := ⟨#[121, 58, 32, 37, 119]⟩
/-- "more: %w" -/
def fmtM : ByteArray := ⟨#[109, 111, 114, 101, 58, 32, 37, 119]⟩
@[go_sem] theorem fmt0 : FmtStop.printed? ⟨#[121, 58, 32, 37, 119]⟩ 1 = some [(0, 119, false)] := by kernel_rfl
@[go_sem] theorem fmt0r (w : World) : (FmtDoors.printed ⟨#[121, 58, 32, 37, 119]⟩ 1).run Tryf.prog w = .ok [(0, 119, false)] w := by kernel_rfl
@[go_sem] theorem fmt1 : FmtStop.printed? ⟨#[109, 111, 114, 101, 58, 32, 37, 119]⟩ 1 = some [(0, 119, false)] := by kernel_rfl
@[go_sem] theorem fmt1r (w : World) : (FmtDoors.printed ⟨#[109, 111, 114, 101, 58, 32, 37, 119]⟩ 1).run Tryf.prog w = .ok [(0, 119, false)] w := by kernel_rfl
@[go_sem] theorem actP (name : String) (x : Value) (w : World) : (FmtCalls.act name true 119 false (.iface 45 x)).run Tryf.prog w = .ok (.call true) w := by kernel_rfl
@[go_sem] theorem actN (name : String) (x : Value) (w : World) : (FmtCalls.act name true 119 false (.iface 48 x)).run Tryf.prog w = .ok (.call true) w := by kernel_rfl
@[go_sem] theorem actW (name : String) (x : Value) (w : World) : (FmtCalls.act name true 119 false (.iface 53 x)).run Tryf.prog w = .ok (.closed true) w := by kernel_rfl
@[go_sem] theorem actS (name : String) (x : Value) (w : World) : (FmtCalls.act name true 119 false (.iface 62 x)).run Tryf.prog w = .ok (.closed true) w := by kernel_rfl
@[go_sem] theorem isErrorP (w : World) : (FmtDoors.textMethod 45 "Error").run Tryf.prog w = .ok true w := by kernel_rfl
@[go_sem] theorem isErrorN (w : World) : (FmtDoors.textMethod 48 "Error").run Tryf.prog w = .ok true w := by kernel_rfl
@[go_sem] theorem isErrorW (w : World) : (FmtDoors.textMethod 53 "Error").run Tryf.prog w = .ok true w := by kernel_rfl
@[go_sem] theorem isErrorS (w : World) : (FmtDoors.textMethod 62 "Error").run Tryf.prog w = .ok true w := by kernel_rfl
theorem invokeP (x : Value) (w : World) : (invoke (.fn (.method "Error") #[]) #[.iface 45 x]).run Tryf.prog w = .ok (.enter 49 #[x]) w := by kernel_rfl
theorem invokeN (x : Value) (w : World) : (invoke (.fn (.method "Error") #[]) #[.iface 48 x]).run Tryf.prog w = .ok (.enter 51 #[x]) w := by kernel_rfl
@[go_sem] theorem strP (w : World) : (typeStr 45).run Tryf.prog w = .ok "*fault.place" w := by kernel_rfl
@[go_sem] theorem strN (w : World) : (typeStr 48).run Tryf.prog w = .ok "*fault.named" w := by kernel_rfl
@[go_sem] theorem strW (w : World) : (typeStr 53).run Tryf.prog w = .ok "*fmt.wrapError" w := by kernel_rfl
@[go_sem] theorem strS (w : World) : (typeStr 62).run Tryf.prog w = .ok "*errors.errorString" w := by kernel_rfl
@[go_sem] theorem ptrW (w : World) : (FmtStop.ptrTo "fmt.wrapError").run Tryf.prog w = .ok 53 w := by kernel_rfl
@[go_sem] theorem elemW (w : World) : (elemOf 53).run Tryf.prog w = .ok 110 w := by kernel_rfl
def plainW : List UInt8 := 14 :: FmtStop.pack "*fmt.wrapError".toUTF8.data.toList
def plainS : List UInt8 := 14 :: FmtStop.pack "*errors.errorString".toUTF8.data.toList
theorem opPlainW (name : String) (a : Addr) (s : ByteArray) (w : World) (hc : w.cell? a = some (.string s)) :
    (FmtStop.operand name true 119 false (.iface 53 (.pointer (some a)))).run Tryf.prog w = .ok (plainW, s.data.toList) w := by
  have h1 : (typeStr 53).run Tryf.prog w = .ok "*fmt.wrapError" w := by kernel_rfl
  have d2 : Tryf.t53.desc = .pointer 110 := rfl
  have d3 : Tryf.t110.desc = .named "fmt.wrapError" 109 := rfl
  simp [FmtStop.operand, h1, d2, d3, run_load, hc, plainW]
theorem opPlainS (name : String) (a : Addr) (s : ByteArray) (w : World) (hc : w.cell? a = some (.string s)) :
    (FmtStop.operand name true 119 false (.iface 62 (.pointer (some a)))).run Tryf.prog w = .ok (plainS, s.data.toList) w := by
  have h1 : (typeStr 62).run Tryf.prog w = .ok "*errors.errorString" w := by kernel_rfl
  have d2 : Tryf.t62.desc = .pointer 64 := rfl
  have d3 : Tryf.t64.desc = .named "errors.errorString" 63 := rfl
  simp [FmtStop.operand, h1, d2, d3, run_load, hc, plainS]
def rdP (f : List UInt8) (said : List UInt8) : List (List UInt8) := [f, 19 :: 0 :: FmtStop.pack "*fault.place".toByteArray.data.toList, said]
def rdN (f : List UInt8) (said : List UInt8) : List (List UInt8) := [f, 19 :: 0 :: FmtStop.pack "*fault.named".toByteArray.data.toList, said]
def rdW (f : List UInt8) (said : List UInt8) : List (List UInt8) := [f, plainW, said]
def rdS (f : List UInt8) (said : List UInt8) : List (List UInt8) := [f, plainS, said]
def WrapEnd (w : World) (v : Value) (m : ByteArray) (e : Ending) (w' : World) : Prop :=
  e = .returned (.iface 53 (.pointer (some ⟨w.heap.size, 0, none⟩))) ∧ ∃ j, w' = (w.alloc (.cells #[.string m, v] 110)).drewN j
set_option maxHeartbeats 1600000 in
theorem errorf_w (f : ByteArray) (hf : FmtStop.printed? f 1 = some [(0, 119, false)]) (hfr : ∀ w, (FmtDoors.printed f 1).run Tryf.prog w = .ok [(0, 119, false)] w)
    (F : Interp) (b p : Nat) (s : ByteArray) (w : World) (hF : F.answers w.tape) (hv : w.cell? ⟨b, 0, none⟩ = some (.iface 53 (.pointer (some ⟨p, 0, none⟩)))) (hs : w.cell? ⟨p, 0, none⟩ = some (.string s)) :
    Calls Tryf.prog 8 #[.string f, .slice (some ⟨b, 0, none⟩) 1 1] w (WrapEnd w (.iface 53 (.pointer (some ⟨p, 0, none⟩))) (FmtStop.textOf (F "fmt.errorf" (rdW f.data.toList s.data.toList) 0))) := by
  have hF' := answers_open hF
  have hop := opPlainW "fmt.errorf" ⟨p, 0, none⟩ s w hs
  go_enter Tryf.func8, Tryf.ntmps8
  go_wp2
  apply rows_value nextTurns
  case hr =>
    go_simp
    exact ⟨rfl, rfl⟩
  case h =>
    go_wp2
    go_ret
    exact ⟨rfl, 1, rfl⟩
set_option maxHeartbeats 1600000 in
theorem errorf_s (f : ByteArray) (hf : FmtStop.printed? f 1 = some [(0, 119, false)]) (hfr : ∀ w, (FmtDoors.printed f 1).run Tryf.prog w = .ok [(0, 119, false)] w)
    (F : Interp) (b p : Nat) (s : ByteArray) (w : World) (hF : F.answers w.tape) (hv : w.cell? ⟨b, 0, none⟩ = some (.iface 62 (.pointer (some ⟨p, 0, none⟩)))) (hs : w.cell? ⟨p, 0, none⟩ = some (.string s)) :
    Calls Tryf.prog 8 #[.string f, .slice (some ⟨b, 0, none⟩) 1 1] w (WrapEnd w (.iface 62 (.pointer (some ⟨p, 0, none⟩))) (FmtStop.textOf (F "fmt.errorf" (rdS f.data.toList s.data.toList) 0))) := by
  have hF' := answers_open hF
  have hop := opPlainS "fmt.errorf" ⟨p, 0, none⟩ s w hs
  go_enter Tryf.func8, Tryf.ntmps8
  go_wp2
  apply rows_value nextTurns
  case hr =>
    go_simp
    exact ⟨rfl, rfl⟩
  case h =>
    go_wp2
    go_ret
    exact ⟨rfl, 1, rfl⟩
set_option maxHeartbeats 1600000 in
theorem errorf_p (f : ByteArray) (hf : FmtStop.printed? f 1 = some [(0, 119, false)]) (hfr : ∀ w, (FmtDoors.printed f 1).run Tryf.prog w = .ok [(0, 119, false)] w)
    (F : Interp) (b p : Nat) (s : ByteArray) (w : World) (hF : F.answers w.tape) (hv : w.cell? ⟨b, 0, none⟩ = some (.iface 45 (.pointer (some ⟨p, 0, none⟩))))
    (hc : Calls Tryf.prog 49 #[.pointer (some ⟨p, 0, none⟩)] w (TextOf w s)) :
    Calls Tryf.prog 8 #[.string f, .slice (some ⟨b, 0, none⟩) 1 1] w (WrapEnd w (.iface 45 (.pointer (some ⟨p, 0, none⟩))) (FmtStop.textOf (F "fmt.errorf" (rdP f.data.toList s.data.toList) 0))) := by
  have hF' := answers_open hF
  have HC := Lib.hid hc
  clear hc
  go_enter Tryf.func8, Tryf.ntmps8
  go_wp2
  apply rows_call nextTurns
  case hr =>
    go_simp
    exact ⟨⟨rfl, rfl, rfl⟩, rfl⟩
  case hi => exact invokeP _ _
  case hc =>
    refine HC.out.mono fun e w₃ ⟨he, j, hx⟩ => ?_
    subst he; subst hx
    apply rows_value nextReturned
    case hr =>
      go_simp
      exact ⟨rfl, rfl⟩
    case h =>
      go_wp2
      go_ret
      exact ⟨rfl, j + 1, rfl⟩
set_option maxHeartbeats 1600000 in
theorem errorf_n (f : ByteArray) (hf : FmtStop.printed? f 1 = some [(0, 119, false)]) (hfr : ∀ w, (FmtDoors.printed f 1).run Tryf.prog w = .ok [(0, 119, false)] w)
    (F : Interp) (b p : Nat) (s : ByteArray) (w : World) (hF : F.answers w.tape) (hv : w.cell? ⟨b, 0, none⟩ = some (.iface 48 (.pointer (some ⟨p, 0, none⟩))))
    (hc : Calls Tryf.prog 51 #[.pointer (some ⟨p, 0, none⟩)] w (TextOf w s)) :
    Calls Tryf.prog 8 #[.string f, .slice (some ⟨b, 0, none⟩) 1 1] w (WrapEnd w (.iface 48 (.pointer (some ⟨p, 0, none⟩))) (FmtStop.textOf (F "fmt.errorf" (rdN f.data.toList s.data.toList) 0))) := by
  have hF' := answers_open hF
  have HC := Lib.hid hc
  clear hc
  go_enter Tryf.func8, Tryf.ntmps8
  go_wp2
  apply rows_call nextTurns
  case hr =>
    go_simp
    exact ⟨⟨rfl, rfl, rfl⟩, rfl⟩
  case hi => exact invokeN _ _
  case hc =>
    refine HC.out.mono fun e w₃ ⟨he, j, hx⟩ => ?_
    subst he; subst hx
    apply rows_value nextReturned
    case hr =>
      go_simp
      exact ⟨rfl, rfl⟩
    case h =>
      go_wp2
      go_ret
      exact ⟨rfl, j + 1, rfl⟩
end Go.Proofs.YtaeakipppdjkmaaFmt
