/- WordmCmds: where commands begin the word machine waits for them; they are a part then, and it goes on as behind arithmetic, whatever the texts and the number are; no condition. -/
import Derived.Test.YtpadnckmheippaaS29
import Derived.Test.YtpadnckmheippaaLaw
namespace Go.Proofs.Ytpadnckmheippaa
open Go.ChangeShapes Go.WideShapes Go.ChangeAt Go.RowKit
open Go.ChangeMaps (open_string shut_string)
set_option linter.unusedVariables false
theorem wcmds_law (s : ByteArray) (hs : s.size ≤ maxLen) (t : ByteArray) (ht : t.size ≤ maxLen) (n : Int) (hn : (Lit.int IntKind.u8 n).wf = true) (w : World) :
    Calls Try.prog 6 #[.string s, .string t, .int .u8 n] w fun e w' => e = .returned (.bool true) ∧ Below w.heap.size w w' := by
  show Calls Try.prog 6 #[.string s, .string t, .int .u8 n] w (LawEnd w)
  unfold maxLen at hs ht
  have hb : 0 ≤ n ∧ n ≤ 255 := bounds_u8 hn
  by_cases hfar : 300 < s.size ∨ 300 < t.size
  · exact cmds_far s t n w (by omega) (by omega) hfar
  have hs3 : s.size ≤ 300 := by omega
  have ht3 : t.size ≤ 300 := by omega
  by_cases hst : (({} : MS).fed (s.data.toList ++ [36, 40])).2.2 = 0
  · have hg := goes_of_fed _ _ hst
    obtain ⟨hgd, hk⟩ := cmds_good s hs3 hg rfl
    cases hr : (({} : MS).run (s.data.toList ++ [36, 40])).raw with
    | true => exact cmds_raw s t n w hs3 ht3 hg rfl hr
    | false =>
      cases hrest : (({} : MS).run (s.data.toList ++ [36, 40])).rest with
      | nil => exact cmds_none s t n w hs3 ht3 hg rfl hr hrest
      | cons c0 rs =>
        by_cases hc : c0 = 40
        · subst hc
          have h3 := rest_head _ hk (by rw [hrest]; rfl)
          exact cmds_waits s t n w hs3 ht3 hb.1 hb.2 hg rfl hr h3 (n % 5).toNat (by omega) (by omega)
        · exact cmds_other s t n w hs3 ht3 hg rfl hr hrest hc
  · exact cmds_stops s t n w hs3 ht3 hst
theorem wcmds_own : ownKnob Try.prog.godebug = none := by kernel_rfl
theorem wcmds_laid : laidOutB Try.prog = true := by kernel_rfl
set_option maxRecDepth 100000 in
theorem wcmds_lifted (os : Os) (started : os.Started) (H : Type) (enc : TypeId × Value → H) :
    ReturnsInHanded {} Try.checked os 6 .any (Rows.wordmCmdsSpec.pre6 enc Try.prog Try.f6 Rows.wordmCmdsRow.domain false) (Rows.wordmCmdsSpec.post enc Try.prog Try.f6 false true false false) := by
  refine returnsInHanded_of_change (C := Try.checked) wcmds_own started (by kernel_rfl) Try.func6
    (ChangeSpec.witness6 (enc := enc) (C := Try.checked) false ⟨#[], #[.string ByteArray.empty, .string ByteArray.empty, .int .u8 0], []⟩ 8 (by kernel_rfl) (by kernel_rfl) (by kernel_rfl) (by kernel_rfl)) ?_
  intro W base args ds gs before hval0 hW hcnd hsz
  have hval : ∀ (j : Nat) t v, Try.f6.params[j]? = some t → args[j]? = some v → Value.okWide Try.prog W .any base t v := hval0
  have hW' := hW
  obtain ⟨p, q, hA0, hV, rfl, hfz, hnd⟩ := hW
  have hA : DataW.TrodAll enc Try.prog W 0 (fun _ => true) true Try.f6.params.toList args.toList ds p := hA0
  rw [Try.params6] at hA hval
  obtain ⟨v0, vs0, d0, ds0, p0, q0, hargs, rfl, rfl, h0, r0⟩ := trodAll_cons hA
  obtain ⟨v1, vs1, d1, ds1, p1, q1, rfl, rfl, rfl, h1, r1⟩ := trodAll_cons r0
  obtain ⟨v2, vs2, d2, ds2, p2, q2, rfl, rfl, rfl, h2, r2⟩ := trodAll_cons r1
  obtain ⟨rfl, rfl, rfl⟩ := trodAll_nil r2
  obtain rfl : args = #[v0, v1, v2] := by cases args; simp_all
  obtain ⟨rfl, rfl⟩ := trodVars_none hV
  obtain ⟨a0, rfl, rfl, rfl, w0⟩ := open_string Try.underlying9 (hval 0 9 v0 rfl rfl) h0
  obtain ⟨a1, rfl, rfl, rfl, w1⟩ := open_string Try.underlying9 (hval 1 9 v1 rfl rfl) h1
  obtain ⟨a2, rfl, rfl, rfl, w2⟩ := open_int Try.underlying5 (hval 2 5 v2 rfl rfl) h2
  refine (wcmds_law a0 w0 a1 w1 a2 w2 W).mono fun e W' ⟨he, hb⟩ => ?_
  subst he
  exact ⟨_, rfl, law_post hW' rfl rfl rfl Try.underlying4 wcmds_laid (by decide +kernel) hb (ok_one (by kernel_rfl) rfl (okWide_bool_mk Try.underlying4 _))⟩

theorem wcmds_over : Rows.wordmCmdsRow.holds Try.pinned (OpenSpec.ofChange Rows.wordmCmdsSpec) :=
  OpenClaim.holds_of_wide 6 Try.f6 rfl rfl rfl rfl rfl rfl rfl ⟨rfl, rfl, rfl, rfl, rfl⟩ rfl rfl rfl rfl rfl (by kernel_rfl) Try.func6 (by kernel_rfl)
    (of_decide_eq_true (by kernel_rfl)) (by unfold Func.isWrapper; first | (rw [if_pos (by decide +kernel)]; kernel_rfl) | (rw [if_neg (by decide +kernel)]; exact ⟨rfl, rfl⟩))
    (fun os started H enc _ => wcmds_lifted os started H enc)

theorem wcmds_holds : Rows.WordmCmdsSaid := wcmds_over
#print axioms wcmds_holds
end Go.Proofs.Ytpadnckmheippaa
