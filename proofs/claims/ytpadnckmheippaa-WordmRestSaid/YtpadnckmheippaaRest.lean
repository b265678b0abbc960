/- WordmRest: any bytes that can come end with what is missing, and a blank, as a word, whatever they are; no condition. -/
import Derived.Test.YtpadnckmheippaaS25
import Derived.Test.YtpadnckmheippaaLaw
namespace Go.Proofs.Ytpadnckmheippaa
open Go.ChangeShapes Go.WideShapes Go.ChangeAt Go.RowKit
open Go.ChangeMaps (open_string shut_string)
set_option linter.unusedVariables false
theorem str3 (s : ByteArray) (r : List UInt8) : (s ++ ⟨r.toArray⟩ ++ ⟨#[32]⟩ : ByteArray).data.toList = s.data.toList ++ r ++ [32] := by simp
set_option maxRecDepth 100000 in
set_option maxHeartbeats 3200000 in
theorem wrest_law (s : ByteArray) (hs : s.size ≤ maxLen) (w : World) :
    Calls Try.prog 5 #[.string s] w fun e w' => e = .returned (.bool true) ∧ Below w.heap.size w w' := by
  unfold maxLen at hs
  by_cases h600 : 600 < s.size
  · go_enter Try.func5, Try.ntmps5
    go_wp2_with (go_at_call 11; refine (awake_any _).mono ?_; rintro e w3 ⟨rfl, hb⟩; have HB3 := Lib.hid hb; clear hb)
    go_ret
    exact ⟨rfl, HB3.out⟩
  · have hs2 : s.size ≤ 600 := by omega
    have HFED := Lib.hid (fed_any s (by omega) w ⟨w.heap.size, []⟩ (Nat.le_refl _) (fun b hb => by cases hb))
    by_cases h0 : (({} : MS).fed s.data.toList).2.2 = 0
    · have hg := goes_of_fed _ _ h0
      have hfe := fed_all _ _ hg
      have hlen : s.data.toList.length = s.size := by simp
      obtain ⟨m2, hm1, hm2, hm3⟩ := rest_ends _ hg
      have hrl := rest_len (({} : MS).run s.data.toList)
      have hgood := Good.run Good.new s.data.toList
      have hlive : (({} : MS).run s.data.toList).kind ≤ 14 := goes_live Good.new.ok (by decide) _ hg
      have HF2 := HFED.out
      unfold FedEnd at HF2
      rw [hfe] at HF2
      simp only at HF2
      have hsz := hgood.sz
      rw [hlen] at hsz hgood
      have HF3 := Lib.hid HF2
      have HGD := Lib.hid (hgood.mono (show 0 + 10 * s.size ≤ 800000 by omega))
      have HLV := Lib.hid hlive
      clear h0 hg hfe HFED HF2 hgood hlive
      generalize hm : ({} : MS).run s.data.toList = m at *
      generalize hr : m.rest = r at *
      have hr2 : r.length ≤ 7000 := by omega
      have hsize : (s ++ ⟨r.toArray⟩ ++ ⟨#[32]⟩ : ByteArray).size ≤ 70000 := by
        have h1 : (s ++ ⟨r.toArray⟩ ++ ⟨#[32]⟩ : ByteArray).size = s.size + r.length + 1 := by
          rw [ByteArray.size_append, ByteArray.size_append]; rfl
        omega
      have hfd : ∀ y : World, Calls Try.prog 13 #[.string (s ++ ⟨r.toArray⟩ ++ ⟨#[32]⟩)] y fun e w' => e = .returned (.tuple #[.pointer (some ⟨y.heap.size + 1, 0, none⟩), .int .i64 ((s.size + r.length : Nat) : Int), .int .i64 1]) ∧ Made y ⟨y.heap.size, []⟩ (y.heap.size + 1) m2 w' := fun y => by
        have h2 := fed_any (s ++ ⟨r.toArray⟩ ++ ⟨#[32]⟩) hsize y ⟨y.heap.size, []⟩ (Nat.le_refl _) (fun b hb => by cases hb)
        unfold FedEnd at h2
        rw [str3, hm1, List.length_append, hlen] at h2
        exact h2
      have HFD := Lib.hid hfd
      clear hfd hsize
      have HR := Lib.hid hr
      have HM1 := Lib.hid hm1
      have HM2 := Lib.hid hm2
      have HM3 := Lib.hid hm3
      have HLEN := Lib.hid hlen
      clear hm hr hm1 hm2 hm3 hlen hrl hsz
      go_enter Try.func5, Try.ntmps5
      go_wp2_with fail
      refine HF3.out.mono ?_
      rintro e w1 ⟨rfl, hm⟩
      have HM := Lib.hid hm
      clear hm
      go_wp2_with fail
      refine (made_rest HM.out HGD.out (Nat.le_refl _) (Nat.le_trans HLV.out (by decide))).mono ?_
      rw [HR.out]
      rintro e w2 ⟨rfl, hm⟩
      have HB := Lib.hid hm.frame
      clear hm HM
      go_wp2_with fail
      refine (HFD.out w2).mono ?_
      rintro e w3 ⟨rfl, hm⟩
      have HMW := Lib.hid hm
      clear hm
      go_wp2_with fail
      refine (made_word (n := 0) HMW.out HM2.out HM3.out).mono ?_
      rintro e w4 ⟨VA, Vc, rfl, _, hm⟩
      have HB4 := Lib.hid hm.frame
      clear hm
      generalize m2.top.parts.length = vn at *
      have HB3 := Lib.hid (HB.out.trans (HB4.out.mono HB.out.size))
      go_wp2_with (go_at_call 11; refine (awake_any _).mono ?_; rintro e w5 ⟨rfl, hb⟩; have HB5 := Lib.hid hb; clear hb)
      go_ret
      exact ⟨rfl, (HB3.out.alloc HB3.out.size _).trans (HB5.out.mono (by have := HB3.out.size; simp; omega))⟩
    · have hne : (((({} : MS).fed s.data.toList).2.2 : Int) != 0) = true := by simp; omega
      have HF2 := HFED.out
      unfold FedEnd at HF2
      have HF3 := Lib.hid HF2
      clear HFED HF2
      generalize ({} : MS).fed s.data.toList = r at *
      clear h0
      go_enter Try.func5, Try.ntmps5
      go_wp2_with fail
      refine HF3.out.mono ?_
      rintro e w1 ⟨rfl, hm⟩
      have HM := Lib.hid hm.frame
      clear hm
      go_wp2_with (go_at_call 11; refine (awake_any _).mono ?_; rintro e w3 ⟨rfl, hb⟩; have HB3 := Lib.hid hb; clear hb)
      go_ret
      exact ⟨rfl, HM.out.trans (HB3.out.mono HM.out.size)⟩
theorem wrest_own : ownKnob Try.prog.godebug = none := by kernel_rfl
theorem wrest_laid : laidOutB Try.prog = true := by kernel_rfl
set_option maxRecDepth 100000 in
theorem wrest_lifted (os : Os) (started : os.Started) (H : Type) (enc : TypeId × Value → H) :
    ReturnsInHanded {} Try.checked os 5 .any (Rows.wordmRestSpec.pre6 enc Try.prog Try.f5 Rows.wordmRestRow.domain false) (Rows.wordmRestSpec.post enc Try.prog Try.f5 false true false false) := by
  refine returnsInHanded_of_change (C := Try.checked) wrest_own started (by kernel_rfl) Try.func5
    (ChangeSpec.witness6 (enc := enc) (C := Try.checked) false ⟨#[], #[.string ByteArray.empty], []⟩ 8 (by kernel_rfl) (by kernel_rfl) (by kernel_rfl) (by kernel_rfl)) ?_
  intro W base args ds gs before hval0 hW hcnd hsz
  have hval : ∀ (j : Nat) t v, Try.f5.params[j]? = some t → args[j]? = some v → Value.okWide Try.prog W .any base t v := hval0
  have hW' := hW
  obtain ⟨p, q, hA0, hV, rfl, hfz, hnd⟩ := hW
  have hA : DataW.TrodAll enc Try.prog W 0 (fun _ => true) true Try.f5.params.toList args.toList ds p := hA0
  rw [Try.params5] at hA hval
  obtain ⟨v0, vs0, d0, ds0, p0, q0, hargs, rfl, rfl, h0, r0⟩ := trodAll_cons hA
  obtain ⟨rfl, rfl, rfl⟩ := trodAll_nil r0
  obtain rfl : args = #[v0] := by cases args; simp_all
  obtain ⟨rfl, rfl⟩ := trodVars_none hV
  obtain ⟨a0, rfl, rfl, rfl, w0⟩ := open_string Try.underlying9 (hval 0 9 v0 rfl rfl) h0
  refine (wrest_law a0 w0 W).mono fun e W' ⟨he, hb⟩ => ?_
  subst he
  exact ⟨_, rfl, law_post hW' rfl rfl rfl Try.underlying4 wrest_laid (by decide +kernel) hb (ok_one (by kernel_rfl) rfl (okWide_bool_mk Try.underlying4 _))⟩

theorem wrest_over : Rows.wordmRestRow.holds Try.pinned (OpenSpec.ofChange Rows.wordmRestSpec) :=
  OpenClaim.holds_of_wide 5 Try.f5 rfl rfl rfl rfl rfl rfl rfl ⟨rfl, rfl, rfl, rfl, rfl⟩ rfl rfl rfl rfl rfl (by kernel_rfl) Try.func5 (by kernel_rfl)
    (of_decide_eq_true (by kernel_rfl)) (by unfold Func.isWrapper; first | (rw [if_pos (by decide +kernel)]; kernel_rfl) | (rw [if_neg (by decide +kernel)]; exact ⟨rfl, rfl⟩))
    (fun os started H enc _ => wrest_lifted os started H enc)

theorem wrest_holds : Rows.WordmRestSaid := wrest_over
#print axioms wrest_holds
end Go.Proofs.Ytpadnckmheippaa
