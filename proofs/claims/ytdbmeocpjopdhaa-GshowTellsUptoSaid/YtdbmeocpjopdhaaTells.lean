/- GshowTells: any grammar and any rule, as text: the program's text is the document's; where what comes in is of bulk at most 1048576. -/
import Derived.Test.YtdbmeocpjopdhaaG26
import Derived.Test.YtdbmeocpjopdhaaG27
import Derived.Test.YtdbmeocpjopdhaaG28
import Derived.Test.YtdbmeocpjopdhaaG29
namespace Go.Proofs.Ytdbmeocpjopdhaa
open Go.ChangeShapes Go.WideShapes Go.ChangeAt Go.RowKit
set_option linter.unusedVariables false
set_option maxRecDepth 100000 in
set_option maxHeartbeats 3200000 in
theorem tells_law {w : World} {v u : Value} {g : Gm} {r : Ru} (h : GrR w v g) (hi : g.ints) (hr : RuR w u r) (hri : -9223372036854775808 ≤ r.left ∧ ∀ t ∈ r.right, -9223372036854775808 ≤ t) (hrl : r.right.length ≤ 1048576) : Calls Try.prog 3 #[v, u] w (Says w true) := by
  have HM := Lib.hid (fun y (hy : Below w.heap.size w y) => much_any (h.later hy))
  have H1 := Lib.hid (fun y (hy : Below w.heap.size w y) => show_any (h.later hy) hi)
  have H2 := Lib.hid (fun y (hy : Below w.heap.size w y) => rshow_any (h.later hy) hi)
  have H3 := Lib.hid (fun y (hy : Below w.heap.size w y) => rule_any (h.later hy) (hr.later hy) hrl hri.2 hri.1)
  have H4 := Lib.hid (fun y (hy : Below w.heap.size w y) => rrule_any (h.later hy) (hr.later hy) hrl hri.2 hri.1)
  have HA := Lib.hid (fun y => awake_any y)
  have HG := Lib.hid (GBox.new w 25 v)
  obtain ⟨AT, cT, AN, cN, AR, cR, rfl, hT, hN, hR⟩ := h.open_
  obtain ⟨rfl, ⟨A, c, hv, _⟩, _, _⟩ := hr
  unfold RuV at *
  rw [hv] at H3 H4 ⊢
  clear h hi hri hT hN hR hv
  generalize str g.showL = s1 at *
  generalize str (g.ruleL r.left r.right) = s2 at *
  generalize r.left = rl at *
  generalize r.right.length = rn at *
  generalize g.T.length = nT at *
  generalize g.N.length = nN at *
  generalize g.R.length = nR at *
  generalize g.s = gs at *
  have HK : Hid (∀ w', Below ((w.alloc (.cells #[.slice AT nT cT, .slice AN nN cN, .slice AR nR cR, .int .i64 gs] 25)).alloc (.cells #[.int .i64 rl, .slice A rn c] 28)).heap.size ((w.alloc (.cells #[.slice AT nT cT, .slice AN nN cN, .slice AR nR cR, .int .i64 gs] 25)).alloc (.cells #[.int .i64 rl, .slice A rn c] 28)) w' →
      w'.cell? ⟨w.heap.size, 0, none⟩ = some (.slice AT nT cT) ∧ w'.cell? ⟨w.heap.size, 1, none⟩ = some (.slice AN nN cN) ∧ w'.cell? ⟨w.heap.size, 2, none⟩ = some (.slice AR nR cR) ∧ w'.cell? ⟨w.heap.size, 3, none⟩ = some (.int .i64 gs) ∧ w'.cell? ⟨w.heap.size + 1, 0, none⟩ = some (.int .i64 rl) ∧ w'.cell? ⟨w.heap.size + 1, 1, none⟩ = some (.slice A rn c)) := Lib.hid (fun w' hb => by
    obtain ⟨d0, d1, d2, d3⟩ := ((HG.out.later (below_alloc _ (.cells #[.int .i64 rl, .slice A rn c] 28))).later hb).four
    refine ⟨d0, d1, d2, d3, (hb.cell (p := ⟨w.heap.size + 1, 0, none⟩) (by simp)).trans ?_, (hb.cell (p := ⟨w.heap.size + 1, 1, none⟩) (by simp)).trans ?_⟩
    · exact (World.cell?_alloc_at _ _ _ _ (by simp)).trans rfl
    · exact (World.cell?_alloc_at _ _ _ _ (by simp)).trans rfl)
  go_enter Try.func3, Try.ntmps3
  go_wp2_with fail
  refine (HM.out _ (below_more (below_alloc w _) _)).mono ?_
  rintro e w1 ⟨n, rfl, hb1⟩
  have HB1 := Lib.hid ((below_more (below_alloc w _) _).trans (hb1.mono (below_more (below_alloc w _) _).size))
  have HZ1 := Lib.hid hb1
  clear hb1
  obtain ⟨d0, d1, d2, d3, d4, d5⟩ := HK.out w1 HZ1.out
  by_cases hn : 300 < n
  · go_wp2_with fail
    refine (HA.out _).mono ?_
    rintro e w2 ⟨rfl, hb2⟩
    have HB2 := Lib.hid (HB1.out.trans (hb2.mono HB1.out.size))
    clear hb2
    go_wp2
    go_ret
    exact ⟨rfl, HB2.out⟩
  · by_cases hl : 100 < (rn : Int)
    · go_wp2_with fail
      refine (HA.out _).mono ?_
      rintro e w2 ⟨rfl, hb2⟩
      have HB2 := Lib.hid (HB1.out.trans (hb2.mono HB1.out.size))
      clear hb2
      go_wp2
      go_ret
      exact ⟨rfl, HB2.out⟩
    · obtain ⟨I, hI1, hI2⟩ : ∃ I : World → Prop, (∀ w', I w' → Below w1.heap.size w1 w') ∧ (∀ w', Below w1.heap.size w1 w' → I w') := ⟨_, fun _ h => h, fun _ h => h⟩
      have hI : I w1.drew := hI2 _ (⟨rfl, rfl, rfl, Nat.le_refl _, fun _ _ => rfl⟩)
      have hne : Nonempty (Wd I) := ⟨⟨_, hI⟩⟩
      have XI := Lib.hid (fun x : Wd I => hI1 _ x.ok)
      have XW := Lib.hid (fun x : Wd I => HB1.out.trans ((hI1 _ x.ok).mono HB1.out.size))
      have XZ := Lib.hid (fun x : Wd I => HZ1.out.trans ((hI1 _ x.ok).mono HZ1.out.size))
      have XJ := Lib.hid hI2
      clear hI1 hI2
      have g0 := fun y : Wd I => (HK.out _ (XZ.out y)).1
      have g1 := fun y : Wd I => (HK.out _ (XZ.out y)).2.1
      have g2 := fun y : Wd I => (HK.out _ (XZ.out y)).2.2.1
      have g3 := fun y : Wd I => (HK.out _ (XZ.out y)).2.2.2.1
      have g4 := fun y : Wd I => (HK.out _ (XZ.out y)).2.2.2.2.1
      have g5 := fun y : Wd I => (HK.out _ (XZ.out y)).2.2.2.2.2
      have C1 := Lib.hid (fun y : Wd I => wd_call (I := I) (v := .string s1) ((H1.out y.w (XW.out y)).mono fun e w' hh => ⟨hh.1, XJ.out _ ((XI.out y).trans (hh.2.mono (XI.out y).size))⟩))
      have C2 := Lib.hid (fun y : Wd I => wd_call (I := I) (v := .string s1) ((H2.out y.w (XW.out y)).mono fun e w' hh => ⟨hh.1, XJ.out _ ((XI.out y).trans (hh.2.mono (XI.out y).size))⟩))
      have C3 := Lib.hid (fun y : Wd I => wd_call (I := I) (v := .string s2) ((H3.out y.w (XW.out y)).mono fun e w' hh => ⟨hh.1, XJ.out _ ((XI.out y).trans (hh.2.mono (XI.out y).size))⟩))
      have C4 := Lib.hid (fun y : Wd I => wd_call (I := I) (v := .string s2) ((H4.out y.w (XW.out y)).mono fun e w' hh => ⟨hh.1, XJ.out _ ((XI.out y).trans (hh.2.mono (XI.out y).size))⟩))
      have C5 := Lib.hid (fun y : Wd I => wd_call (I := I) (v := .bool true) ((HA.out y.w).mono fun e w' hh => ⟨hh.1, XJ.out _ ((XI.out y).trans (hh.2.mono (XI.out y).size))⟩))
      have hs1 : (s1.toList == s1.toList) = true := texts_eq rfl
      have hs2 : (s2.toList == s2.toList) = true := texts_eq rfl
      clear H1 H2 H3 H4 HA HM HG
      go_wp2_with fail
      refine wp_region_wd I (by kernel_rfl) (by kernel_rfl) hI ?_
      repeat (go_big_quiet_step ((first | (go_at_call 6; exact C1.out _) | (go_at_call 7; exact C2.out _) | (go_at_call 8; exact C3.out _) | (go_at_call 9; exact C4.out _) | (go_at_call 5; exact C5.out _))))
      refine wpQuiet_nil ?_
      intro _ hw'
      obtain ⟨x, rfl⟩ := hw'
      have HB5 := Lib.hid (XW.out x)
      clear g0 g1 g2 g3 g4 g5 d0 d1 d2 d3 d4 d5
      go_wp2
      go_ret
      exact ⟨rfl, HB5.out⟩
theorem tells_own : ownKnob Try.prog.godebug = none := by kernel_rfl
theorem tells_laid : laidOutB Try.prog = true := by kernel_rfl
set_option maxRecDepth 100000 in
theorem tells_contract (H : Type) (enc : TypeId × Value → H) (W : World) (base : Nat) (args : Array Value) (ds gs : List (DataW H)) (before : List MemPlace)
    (hval0 : ∀ (j : Nat) t v, Try.f3.params[j]? = some t → args[j]? = some v → Value.okWide Try.prog W .any base t v)
    (hW : DataW.Whole enc Try.prog Try.f3.params.toList Rows.gshowTellsSpec.vars false W args.toList ds gs before) (hk : Rows.uptoSmall H (ds ++ gs) = true) :
    Calls Try.prog 3 args W fun e W' => ∃ v, e = .returned v ∧ Rows.gshowTellsSpec.post enc Try.prog Try.f3 false true false false W args v W' := by
  have hval := hval0
  have hW' := hW
  obtain ⟨p, q, hA0, hV, rfl, hfz, hnd⟩ := hW
  have hA : DataW.TrodAll enc Try.prog W 0 (fun _ => true) true Try.f3.params.toList args.toList ds p := hA0
  rw [Try.params3] at hA hval
  obtain ⟨v0, vs0, d0, ds0, p0, q0, hargs, rfl, rfl, h0, r0⟩ := trodAll_cons hA
  obtain ⟨v1, vs1, d1, ds1, p1, q1, rfl, rfl, rfl, h1, r1⟩ := trodAll_cons r0
  obtain ⟨rfl, rfl, rfl⟩ := trodAll_nil r1
  obtain rfl : args = #[v0, v1] := by cases args; simp_all
  obtain ⟨rfl, rfl⟩ := trodVars_none hV
  have hb : Rows.uptoBulkAll [d0, d1] ≤ 1048576 := by
    have h := of_decide_eq_true hk
    simpa using h
  simp only [Rows.uptoBulkAll] at hb
  obtain ⟨g, hg, hgi⟩ := open_gram (hval 0 25 v0 rfl rfl) h0 (by omega)
  obtain ⟨r, hr, hri, hrl⟩ := open_rule (hval 1 28 v1 rfl rfl) h1 (by omega)
  refine (tells_law hg hgi hr hri hrl).mono fun e W' ⟨he, hb⟩ => ?_
  subst he
  exact ⟨_, rfl, law_post hW' rfl rfl rfl Try.underlying4 tells_laid (by decide +kernel) hb (ok_one (by kernel_rfl) rfl (okWide_bool_mk Try.underlying4 _))⟩
set_option maxRecDepth 100000 in
theorem tells_lifted (os : Os) (started : os.Started) (H : Type) (enc : TypeId × Value → H) (F : Stop.Interp) :
    ReturnsInHanded {} Try.checked os 3 .any ((Rows.OpenSpec.upto Rows.gshowTellsSpec).pre6 enc Try.prog Try.f3 Rows.gshowTellsUptoRow.domain false) (((Rows.OpenSpec.upto Rows.gshowTellsSpec).at F).post enc Try.prog Try.f3 false true false false) := by
  refine returnsInHanded_of_cond (C := Try.checked) (s := Rows.OpenSpec.upto Rows.gshowTellsSpec) (k := Rows.uptoSmall) rfl tells_own started (by kernel_rfl) Try.func3
    (OpenSpec.witness (enc := enc) (C := Try.checked) (s := Rows.OpenSpec.upto Rows.gshowTellsSpec) (k := Rows.uptoSmall) rfl false ⟨#[], #[.agg #[.slice none 0 0, .slice none 0 0, .slice none 0 0, .int .i64 0], .agg #[.int .i64 0, .slice none 0 0]], []⟩ 8 (by kernel_rfl) (by kernel_rfl) (by kernel_rfl)
      (x := ([.agg [.nil, .nil, .nil, .lit (.int .i64 0)], .agg [.lit (.int .i64 0), .nil]], [], [])) (by kernel_rfl) rfl (by kernel_rfl)) ?_
  intro W base args ds gs before hval hW _ hk _
  exact tells_contract H enc W base args ds gs before hval hW hk
theorem tells_holds : Rows.GshowTellsUptoSaid :=
  OpenClaim.holds_of_cond 3 Try.f3 rfl rfl rfl rfl rfl rfl rfl ⟨rfl, rfl, rfl, rfl, rfl⟩ rfl rfl rfl rfl rfl (by kernel_rfl) Try.func3 (by kernel_rfl)
    (of_decide_eq_true (by kernel_rfl)) (by unfold Func.isWrapper; first | (rw [if_pos (by decide +kernel)]; kernel_rfl) | (rw [if_neg (by decide +kernel)]; exact ⟨rfl, rfl⟩))
    (fun os started H enc _ F => tells_lifted os started H enc F)
#print axioms tells_holds
end Go.Proofs.Ytdbmeocpjopdhaa
