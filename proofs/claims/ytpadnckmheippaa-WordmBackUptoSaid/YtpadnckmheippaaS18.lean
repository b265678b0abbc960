/- The word machine's next byte, whatever its state: what is stored in 'next', called. -/
import Derived.Test.YtpadnckmheippaaP1
namespace Go.Proofs.Ytpadnckmheippaa
open Go.RowKit
set_option linter.unusedVariables false
section
variable {w w1 : World} {B : Bs} {g : Nat} {nx : Value} {x : MR}
theorem over_any (c : Int) (w : World) : Calls Try.prog 50 #[.int .u8 c] w fun e w' => e = .returned (.int .i64 1) ∧ w' = w := by
  go_enter Try.func50, Try.ntmps50
  go_wp2
  go_ret
  exact ⟨rfl, rfl⟩
theorem dead_any (c : Int) (w : World) : Calls Try.prog 51 #[.int .u8 c] w fun e w' => e = .returned (.int .i64 3) ∧ w' = w := by
  go_enter Try.func51, Try.ntmps51
  go_wp2
  go_ret
  exact ⟨rfl, rfl⟩
theorem Now.self (h : MRep w B g (nextVal x.kind g) x) : Now w B g x x.ms w := ⟨x, h, rfl, Step.refl _ _⟩
/-- What the state's function does, by its number. -/
theorem next_calls (h : MRep w B g (nextVal x.kind g) x) (hz : x.ms.sz ≤ 800000) (hwf : x.ms.wf) (c : UInt8) :
    ∃ F ca, nextVal x.kind g = .func (.func F) ca #[] ∧ (∀ (args : Array Value) (y : World), (callFunc F args).run Try.prog y = .ok (.enter F args) y) ∧ Calls Try.prog F (ca.push (.int .u8 c.toNat)) w (Took w B g x (x.ms.next c)) := by
  have hk : x.ms.kind = x.kind := rfl
  unfold MS.next
  rw [hk]
  unfold nextVal
  split
  · rename_i e; rw [e]; exact ⟨_, _, rfl, (fun _ _ => by kernel_rfl), text_any h (by omega) hwf c⟩
  · rename_i e; rw [e]; exact ⟨_, _, rfl, (fun _ _ => by kernel_rfl), escaped_any h hz c⟩
  · rename_i e; rw [e]; exact ⟨_, _, rfl, (fun _ _ => by kernel_rfl), dollar_any h hz hwf c⟩
  · rename_i e; rw [e]; exact ⟨_, _, rfl, (fun _ _ => by kernel_rfl), opened_any h c⟩
  · rename_i e; rw [e]; exact ⟨_, _, rfl, (fun _ _ => by kernel_rfl), bare_any h hz hwf c⟩
  · rename_i e; rw [e]; exact ⟨_, _, rfl, (fun _ _ => by kernel_rfl), head_any h c⟩
  · rename_i e; rw [e]; exact ⟨_, _, rfl, (fun _ _ => by kernel_rfl), hash_any h (by omega) c⟩
  · rename_i e; rw [e]; exact ⟨_, _, rfl, (fun _ _ => by kernel_rfl), name_any h hz c⟩
  · rename_i e; rw [e]; exact ⟨_, _, rfl, (fun _ _ => by kernel_rfl), name_any h hz c⟩
  · rename_i e; rw [e]; exact ⟨_, _, rfl, (fun _ _ => by kernel_rfl), behind_any h hz c⟩
  · rename_i e; rw [e]; exact ⟨_, _, rfl, (fun _ _ => by kernel_rfl), colon_any h (by omega) c⟩
  · rename_i e; rw [e]; exact ⟨_, _, rfl, (fun _ _ => by kernel_rfl), double_any h hz hwf c⟩
  · rename_i e; rw [e]; exact ⟨_, _, rfl, (fun _ _ => by kernel_rfl), single_any h hz c⟩
  · rename_i e; rw [e]; exact ⟨_, _, rfl, (fun _ _ => by kernel_rfl), arith_any h hz c⟩
  · rename_i e; rw [e]; exact ⟨_, _, rfl, (fun _ _ => by kernel_rfl), arithEnd_any h (by omega) c⟩
  · rename_i e
    rw [e]
    refine ⟨_, _, rfl, (fun _ _ => by kernel_rfl), (over_any _ w).mono ?_⟩
    rintro e w' ⟨rfl, rfl⟩
    exact ⟨rfl, Now.self h⟩
  · rename_i e0 e1 e2 e3 e4 e5 e6 e7 e8 e9 e10 e11 e12 e13 e14 e15
    refine ⟨_, _, rfl, (fun _ _ => by kernel_rfl), ?_⟩
    have hm : (x.ms.next c) = (x.ms, 3) := by
      unfold MS.next
      rw [hk]
      split <;> first | rfl | (exfalso; simp_all)
    have hm2 := hm
    unfold MS.next at hm2
    rw [hk] at hm2
    rw [hm2]
    refine (dead_any _ w).mono ?_
    rintro e w' ⟨rfl, rfl⟩
    exact ⟨rfl, Now.self h⟩
end
end Go.Proofs.Ytpadnckmheippaa
