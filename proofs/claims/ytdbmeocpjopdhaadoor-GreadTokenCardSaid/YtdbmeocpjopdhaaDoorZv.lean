/- GreadToken, walked. GreadToken: a text whose tokens can't be read has the error of these. -/
import Derived.Test.YtdbmeocpjopdhaaDoorZu
import Derived.Test.YtdbmeocpjopdhaaDoorZa
import Derived.Test.YtdbmeocpjopdhaaDoorTie
import Derived.Test.YtdbmeocpjopdhaaDoorCards
import Derived.ChangeMaps5
import Derived.HandedShaped
import Derived.Shelf.Vars
import Derived.LaidLaws
import Derived.LaidHandle
import Derived.Stop.Joined
import Derived.SevenTiedAt
namespace Go.Proofs.YtdbmeocpjopdhaaDoor
open Go.RowKit
set_option linter.unusedVariables false
/-- What is asked of the parser here: an error's value, if the tokens have one. -/
theorem parse_tok {l : List UInt8} {f : Flt} (h : tokens l = .error f) : parseL l = .error f := by
  unfold parseL
  rw [h]
theorem below_drew2 (w : World) : Below w.heap.size w w.drew := ⟨rfl, rfl, rfl, Nat.le_refl _, fun _ _ => rfl⟩
set_option maxRecDepth 100000 in
set_option maxHeartbeats 3200000 in
theorem tok_law0 (s : ByteArray) (hs : s.size ≤ 9223372036854775807) {w : World} (hm : HasMax w) (hg : HasType w) : Calls Tryd.prog 4 #[.string s] w (Says w true) := by
  have HA : Hid (∀ y, Below w.heap.size w y → Calls Tryd.prog 6 #[] y (Says y true)) := Lib.hid (fun y hy => awake7_any (hm.later hy) (hg.later hy))
  by_cases hlong : 3000 < s.size
  · have q1 : (3000 : Int) < (s.size : Int) := by omega
    clear hlong hm hg
    go_enter Tryd.func4, Tryd.ntmps4
    go_wp2_with fail
    refine (HA.out _ (Below.refl _ _)).mono ?_
    rintro e w1 ⟨rfl, hb⟩
    have HB := Lib.hid hb
    clear hb
    go_wp2
    go_ret
    exact ⟨rfl, HB.out⟩
  · have q1 : ¬ (3000 : Int) < (s.size : Int) := by omega
    have HR := Lib.hid (rall_any s (by omega) w)
    have HP := Lib.hid (fun y (hy : Below w.heap.size w y) => parse_any s (by omega) y (hm.later hy))
    have HT : Hid (∀ y, Below w.heap.size w y → HasType y) := Lib.hid (fun y hy => hg.later hy)
    clear hlong hm hg
    cases ht : tokens s.data.toList with
    | error f =>
      obtain ⟨fe, fp⟩ := f
      rw [ht] at HR
      rw [parse_tok ht] at HP
      clear ht
      go_enter Tryd.func4, Tryd.ntmps4
      go_wp2_with fail
      refine HR.out.mono ?_
      rintro e w1 ⟨hb1, v0, hne, rfl⟩
      have qe : ((fe : Int) == 0) = false := beq_eq_false_iff_ne.2 (by simp at hne; omega)
      have HB1 := Lib.hid (hb1.alloc (o := .cells #[.int .i64 fe, .int .i64 fp] 39) hb1.size)
      have HF := Lib.hid (Blk.new w1 39 #[.int .i64 fe, .int .i64 fp])
      clear hb1 hne
      go_wp2_with fail
      refine (HP.out _ HB1.out).mono ?_
      rintro e w2 ⟨hb2, v, rfl, hv⟩
      have HB2 := Lib.hid (HB1.out.trans (hb2.mono HB1.out.size))
      have HF2 := Lib.hid (HF.out.below hb2 HF.out.lt)
      have HE := Lib.hid (err_of hv)
      obtain ⟨b, rfl, _⟩ := hv
      clear hb2
      have HBX := Lib.hid (below_alloc w2 (.cells #[.slice none 0 0, .slice none 0 0, .slice none 0 0, .int .i64 0] 27))
      have HB3 := Lib.hid (HB2.out.trans (HBX.out.mono HB2.out.size))
      have HF3 := Lib.hid (HF2.out.alloc (.cells #[.slice none 0 0, .slice none 0 0, .slice none 0 0, .int .i64 0] 27))
      have HE3 := Lib.hid (HE.out.later HBX.out)
      go_wp2_with fail
      generalize (w2.alloc (.cells #[.slice none 0 0, .slice none 0 0, .slice none 0 0, .int .i64 0] 27)) = W at *
      obtain ⟨I, hI1, hI2⟩ : ∃ I : World → Prop, (∀ w', I w' → Below W.heap.size W w') ∧ (∀ w', Below W.heap.size W w' → I w') := ⟨_, fun _ h => h, fun _ h => h⟩
      have hI : I W.drew := hI2 _ (below_drew2 W)
      have hne : Nonempty (Wd I) := ⟨⟨_, hI⟩⟩
      have XI := Lib.hid (fun x : Wd I => hI1 _ x.ok)
      have XJ := Lib.hid hI2
      clear hI1 hI2
      have g0 := fun y : Wd I => (HF3.out.below (XI.out y) HF3.out.lt).cell 0
      have g1 := fun y : Wd I => (HF3.out.below (XI.out y) HF3.out.lt).cell 1
      simp at g0 g1
      have CA := Lib.hid (fun y : Wd I => wd_call (I := I) (v := .bool true) ((HA.out y.w (HB3.out.trans ((XI.out y).mono HB3.out.size))).mono fun e w' hh => ⟨hh.1, XJ.out _ ((XI.out y).trans (hh.2.mono (XI.out y).size))⟩))
      have CC := Lib.hid (fun y : Wd I => wd_call (I := I) (v := .int .i64 fe) ((code_some (HE3.out.later (XI.out y)) (HT.out y.w (HB3.out.trans ((XI.out y).mono HB3.out.size)))).mono fun e w' hh => ⟨hh.1, XJ.out _ ((XI.out y).trans (hh.2.mono (XI.out y).size))⟩))
      have CT := Lib.hid (fun y : Wd I => wd_call (I := I) (v := .int .i64 fp) ((at_some (HE3.out.later (XI.out y)) (HT.out y.w (HB3.out.trans ((XI.out y).mono HB3.out.size)))).mono fun e w' hh => ⟨hh.1, XJ.out _ ((XI.out y).trans (hh.2.mono (XI.out y).size))⟩))
      refine wp_region_wd I (by kernel_rfl) (by kernel_rfl) hI ?_
      repeat (go_big_quiet_step (first | (go_at_call 6; exact CA.out _) | (go_at_call 7; exact CC.out _) | (go_at_call 8; exact CT.out _)))
      refine wpQuiet_nil ?_
      intro _ hw'
      obtain ⟨x, rfl⟩ := hw'
      have HBE := Lib.hid (HB3.out.trans ((XI.out x).mono HB3.out.size))
      clear g0 g1
      go_wp2
      go_ret
      exact ⟨rfl, HBE.out⟩
    | ok l =>
      rw [ht] at HR
      clear ht
      go_enter Tryd.func4, Tryd.ntmps4
      go_wp2_with fail
      refine HR.out.mono ?_
      rintro e w1 ⟨hb1, v0, rfl⟩
      have HB1 := Lib.hid (hb1.alloc (o := .cells #[.int .i64 0, .int .i64 0] 39) hb1.size)
      have HF := Lib.hid (Blk.new w1 39 #[.int .i64 0, .int .i64 0])
      clear hb1
      generalize parseL s.data.toList = r at HP
      cases r with
      | error f =>
        go_wp2_with fail
        refine (HP.out _ HB1.out).mono ?_
        rintro e w2 ⟨hb2, v, rfl, hv⟩
        have HB2 := Lib.hid (HB1.out.trans (hb2.mono HB1.out.size))
        have HF2 := Lib.hid (HF.out.below hb2 HF.out.lt)
        obtain ⟨b, rfl, _⟩ := hv
        clear hb2
        have HBX := Lib.hid (below_alloc w2 (.cells #[.slice none 0 0, .slice none 0 0, .slice none 0 0, .int .i64 0] 27))
        have HB3 := Lib.hid (HB2.out.trans (HBX.out.mono HB2.out.size))
        have HF3 := Lib.hid (HF2.out.alloc (.cells #[.slice none 0 0, .slice none 0 0, .slice none 0 0, .int .i64 0] 27))
        go_wp2_with fail
        generalize (w2.alloc (.cells #[.slice none 0 0, .slice none 0 0, .slice none 0 0, .int .i64 0] 27)) = W at *
        obtain ⟨I, hI1, hI2⟩ : ∃ I : World → Prop, (∀ w', I w' → Below W.heap.size W w') ∧ (∀ w', Below W.heap.size W w' → I w') := ⟨_, fun _ h => h, fun _ h => h⟩
        have hI : I W.drew := hI2 _ (below_drew2 W)
        have hne : Nonempty (Wd I) := ⟨⟨_, hI⟩⟩
        have XI := Lib.hid (fun x : Wd I => hI1 _ x.ok)
        have XJ := Lib.hid hI2
        clear hI1 hI2
        have g0 := fun y : Wd I => (HF3.out.below (XI.out y) HF3.out.lt).cell 0
        have g1 := fun y : Wd I => (HF3.out.below (XI.out y) HF3.out.lt).cell 1
        simp at g0 g1
        have CA := Lib.hid (fun y : Wd I => wd_call (I := I) (v := .bool true) ((HA.out y.w (HB3.out.trans ((XI.out y).mono HB3.out.size))).mono fun e w' hh => ⟨hh.1, XJ.out _ ((XI.out y).trans (hh.2.mono (XI.out y).size))⟩))
        refine wp_region_wd I (by kernel_rfl) (by kernel_rfl) hI ?_
        repeat (go_big_quiet_step ((first | (go_at_call 6; exact CA.out _))))
        refine wpQuiet_nil ?_
        intro _ hw'
        obtain ⟨x, rfl⟩ := hw'
        have HBE := Lib.hid (HB3.out.trans ((XI.out x).mono HB3.out.size))
        clear g0 g1
        go_wp2
        go_ret
        exact ⟨rfl, HBE.out⟩
      | ok g =>
        go_wp2_with fail
        refine (HP.out _ HB1.out).mono ?_
        rintro e w2 ⟨hb2, tv, nv, Rv, R, rfl, hhas⟩
        have HB2 := Lib.hid (HB1.out.trans (hb2.mono HB1.out.size))
        have HF2 := Lib.hid (HF.out.below hb2 HF.out.lt)
        obtain ⟨A1, c1, rfl⟩ := own_shape hhas.ft
        obtain ⟨A2, c2, rfl⟩ := own_shape hhas.fn
        obtain ⟨A3, c3, rfl⟩ := own_shape hhas.fR
        clear hb2 hhas
        have HBX := Lib.hid (below_alloc w2 (.cells #[.slice A1 g.T.length c1, .slice A2 g.N.length c2, .slice A3 R.length c3, .int .i64 g.s] 27))
        have HB3 := Lib.hid (HB2.out.trans (HBX.out.mono HB2.out.size))
        have HF3 := Lib.hid (HF2.out.alloc (.cells #[.slice A1 g.T.length c1, .slice A2 g.N.length c2, .slice A3 R.length c3, .int .i64 g.s] 27))
        go_wp2_with fail
        generalize (w2.alloc (.cells #[.slice A1 g.T.length c1, .slice A2 g.N.length c2, .slice A3 R.length c3, .int .i64 g.s] 27)) = W at *
        obtain ⟨I, hI1, hI2⟩ : ∃ I : World → Prop, (∀ w', I w' → Below W.heap.size W w') ∧ (∀ w', Below W.heap.size W w' → I w') := ⟨_, fun _ h => h, fun _ h => h⟩
        have hI : I W.drew := hI2 _ (below_drew2 W)
        have hne : Nonempty (Wd I) := ⟨⟨_, hI⟩⟩
        have XI := Lib.hid (fun x : Wd I => hI1 _ x.ok)
        have XJ := Lib.hid hI2
        clear hI1 hI2
        have g0 := fun y : Wd I => (HF3.out.below (XI.out y) HF3.out.lt).cell 0
        have g1 := fun y : Wd I => (HF3.out.below (XI.out y) HF3.out.lt).cell 1
        simp at g0 g1
        have CA := Lib.hid (fun y : Wd I => wd_call (I := I) (v := .bool true) ((HA.out y.w (HB3.out.trans ((XI.out y).mono HB3.out.size))).mono fun e w' hh => ⟨hh.1, XJ.out _ ((XI.out y).trans (hh.2.mono (XI.out y).size))⟩))
        refine wp_region_wd I (by kernel_rfl) (by kernel_rfl) hI ?_
        repeat (go_big_quiet_step ((first | (go_at_call 6; exact CA.out _))))
        refine wpQuiet_nil ?_
        intro _ hw'
        obtain ⟨x, rfl⟩ := hw'
        have HBE := Lib.hid (HB3.out.trans ((XI.out x).mono HB3.out.size))
        clear g0 g1
        go_wp2
        go_ret
        exact ⟨rfl, HBE.out⟩
end Go.Proofs.YtdbmeocpjopdhaaDoor

namespace Go.Proofs.YtdbmeocpjopdhaaDoor
open Go.ChangeShapes Go.WideShapes Go.ChangeAt Go.RowKit
open Go.ChangeMaps (open_string)
set_option linter.unusedVariables false
theorem max_shaped {w : World} (h : w.ShapedOpen Tryd.prog) : HasMax w :=
  Go.Proofs.cell_of_shapedOpen_int (zero := #[.int .i64 0]) (t := 3) h (of_decide_eq_true (by kernel_rfl)) (by kernel_rfl) rfl (by kernel_rfl) (by kernel_rfl) Tryd.underlying3
theorem tok_own : ownKnob Tryd.prog.godebug = none := by kernel_rfl
theorem tok_laid : laidOutB Tryd.prog = true := by kernel_rfl
theorem et_named : Tryd.prog.globalNamed "errors.errorType" = some 0 := by kernel_rfl
theorem rt_named : (Tryd.prog.cutTypes.find? (·.1 == "internal/reflectlite.rtype")).map (·.2) = some 119 := by kernel_rfl
theorem one_row : ((List.range Tryd.prog.types.size).filter fun t => Tryd.prog.rowNamed t [101, 114, 114, 111, 114]) = [29] := by kernel_rfl
theorem hasType_of_laid {W : World} (h : laidMetH Tryd.prog Rows.greadTokenRow.laid W) : HasType W := by
  have h' : laidMet Tryd.prog [] W ∧ handlesMet Tryd.prog Rows.greadTokenRow.laid W := h
  obtain ⟨name, u, ty, e1, e2, e3, e4, e5⟩ := h'.2 _ (List.mem_singleton.2 rfl)
  have en : name = [101, 114, 114, 111, 114] := (Option.some.inj e1).symm
  subst en
  obtain rfl := Option.some.inj (rt_named.symm.trans e2)
  have hm : ty ∈ (List.range Tryd.prog.types.size).filter fun t => Tryd.prog.rowNamed t [101, 114, 114, 111, 114] := List.mem_filter.2 ⟨List.mem_range.2 e3, e4⟩
  rw [one_row] at hm
  obtain rfl := List.mem_singleton.1 hm
  have hh : typeHandle Tryd.prog 29 = .pointer (some ⟨2, 29, none⟩) := by kernel_rfl
  rw [hh] at e5
  have := World.var?_cell et_named e5 0
  simp at this
  exact this
/-- A world that meets the condition: the settled one, the variable's cell laid. -/
noncomputable def laidWorld (os : Os) : World :=
  let w0 := World.holding Tryd.prog os ⟨#[], #[], []⟩
  { w0 with heap := w0.heap.modify 0 fun
      | .cells _ t frozen => .cells #[.iface 119 (.agg #[.pointer (some ⟨2, 29, none⟩)])] t frozen
      | o => o }
theorem laidWorld_met (os : Os) (args : Array Value) : laidMetH Tryd.prog Rows.greadTokenRow.laid ((laidWorld os).forCall (fun _ _ => 0) ⟨#[], args, []⟩).memory :=
  laidMetH_of_parts (laidMet_nil _ _) (by kernel_rfl)
/-- As returnsInHanded_of_change_and, the world's shape kept. -/
theorem handed_and_shaped {H : Type} {enc : TypeId × Value → H} {a : Assume} {C : Checked} {os : Os} {f : FuncId} {fn : Func} {s : ChangeSpec} {conds : List PathCond} {apart fresh handsOn again : Bool} {X : World → Array Value → Prop}
    (hX : ∀ (w w' : World) (args : Array Value), w.heap = w'.heap → X w args → X w' args)
    (own : ownKnob C.prog.godebug = none) (started : os.Started) (noInit : C.prog.inits.idxOf? f = none) (hfn : C.prog.funcs[f]? = some fn)
    (witness : ∃ (w : World) (tape : Tape) (i : Input), w.os = os ∧ (w.forCall tape i).Shaped C.prog ∧ i.vars = [] ∧ Input.okWide C.prog (w.forCall tape i) .any w.heap.size f i ∧
      ((s.pre enc C.prog fn conds apart (w.forCall tape i).memory i.args ∧ X (w.forCall tape i).memory i.args) ∧ sizedMet enc C.prog fn (OpenSpec.ofChange s) apart (w.forCall tape i).memory i.args) ∧ a.holds C.prog (lone (Frame.enter C.prog f i.args .normal) [] (w.forCall tape i)))
    (contract : ∀ (W : World) (base : Nat) (args : Array Value) (ds gs : List (DataW H)) (before : List MemPlace),
      (∀ (j : Nat) t v, fn.params[j]? = some t → args[j]? = some v → Value.okWide C.prog W .any base t v) →
      DataW.Whole enc C.prog fn.params.toList s.vars apart W args.toList ds gs before → W.ShapedOpen C.prog → X W args →
      Calls C.prog f args W fun e W' => ∃ v, e = .returned v ∧ s.post enc C.prog fn apart fresh handsOn again W args v W') :
    ReturnsInHanded a C os f .any (fun w args => (s.pre enc C.prog fn conds apart w args ∧ X w args) ∧ sizedMet enc C.prog fn (OpenSpec.ofChange s) apart w args) (s.post enc C.prog fn apart fresh handsOn again) := by
  refine returnsInHanded_of_calls own started noInit witness ?_
  intro w tape i _ hsh _ hok hpre _
  obtain ⟨_, _, _, fn', hfn', _, _, _, _, hval⟩ := hok
  have e : fn' = fn := Option.some.inj (hfn'.symm.trans hfn)
  subst e
  obtain ⟨⟨⟨ds, gs, before, hw, hc⟩, hx⟩, hz⟩ := hpre
  have hw' := DataW.Whole.of_heap (w' := w.forCall tape i) (by rfl) hw
  refine (contract (w.forCall tape i) w.heap.size i.args ds gs before hval hw' hsh (hX _ _ _ (by rfl) hx)).mono fun e W' ⟨v, he, hp⟩ => ?_
  subst he
  exact ChangeSpec.post_blind hp
set_option maxRecDepth 100000 in
theorem tok_lifted (os : Os) (started : os.Started) (H : Type) (enc : TypeId × Value → H) :
    ReturnsInHanded {} Tryd.checked os 4 .any (fun w args => (Rows.greadTokenSpec.pre enc Tryd.prog Tryd.f4 Rows.greadTokenRow.domain false w args ∧ laidMetH Tryd.prog Rows.greadTokenRow.laid w) ∧ sizedMet enc Tryd.prog Tryd.f4 (OpenSpec.ofChange Rows.greadTokenSpec) false w args)
      (Rows.greadTokenSpec.post enc Tryd.prog Tryd.f4 false true false false) := by
  refine handed_and_shaped (C := Tryd.checked) (X := fun w _ => laidMetH Tryd.prog Rows.greadTokenRow.laid w) (fun _ _ _ hh h => h.of_heap hh) tok_own started (by kernel_rfl) Tryd.func4
    (ChangeSpec.witness_at (enc := enc) (C := Tryd.checked) (os := os) (X := fun w _ => laidMetH Tryd.prog Rows.greadTokenRow.laid w) false (laidWorld os) #[.string ByteArray.empty] 8 rfl (by kernel_rfl) (by kernel_rfl) (by kernel_rfl) (by kernel_rfl) (by kernel_rfl) (laidWorld_met os _)) ?_
  intro W base args ds gs before hval0 hW hsh hL
  have hval : ∀ (j : Nat) t v, Tryd.f4.params[j]? = some t → args[j]? = some v → Value.okWide Tryd.prog W .any base t v := hval0
  have hW' := hW
  obtain ⟨p, q, hA0, hV, rfl, hfz, hnd⟩ := hW
  have hA : DataW.TrodAll enc Tryd.prog W 0 (fun _ => true) true Tryd.f4.params.toList args.toList ds p := hA0
  rw [Tryd.params4] at hA hval
  obtain ⟨v0, vs0, d0, ds0, p0, q0, hargs, rfl, rfl, h0, r0⟩ := trodAll_cons hA
  obtain ⟨rfl, rfl, rfl⟩ := trodAll_nil r0
  obtain rfl : args = #[v0] := by cases args; simp_all
  obtain ⟨rfl, rfl⟩ := trodVars_none hV
  obtain ⟨a0, rfl, rfl, rfl, w0⟩ := open_string Tryd.underlying9 (hval 0 9 v0 rfl rfl) h0
  refine (tok_law0 a0 (by unfold maxLen at w0; omega) (max_shaped hsh) (hasType_of_laid hL)).mono fun e W' ⟨he, hb⟩ => ?_
  subst he
  exact ⟨_, rfl, law_post hW' rfl rfl rfl Tryd.underlying4 tok_laid (by decide +kernel) hb (ok_one (by kernel_rfl) rfl (okWide_bool_mk Tryd.underlying4 _))⟩
theorem tok_row : Rows.GreadTokenSaid :=
  OpenClaim.holds_of_wide 4 Tryd.f4 rfl rfl rfl rfl rfl rfl rfl ⟨rfl, rfl, rfl, rfl, rfl⟩ rfl rfl rfl rfl rfl (by kernel_rfl) Tryd.func4 (by kernel_rfl)
    (of_decide_eq_true (by kernel_rfl)) (by unfold Func.isWrapper; first | (rw [if_pos (by decide +kernel)]; kernel_rfl) | (rw [if_neg (by decide +kernel)]; exact ⟨rfl, rfl⟩))
    (fun os started H enc _ => tok_lifted os started H enc)
theorem token_holds : Rows.GreadTokenCardSaid :=
  Claim7.holds_tied_plain_at .later [] [.handle] true _ true
    tok_row (fun _ h => by cases h) (by kernel_rfl) (fun _ h => by cases h) greadToken_row_tie rfl ⟨rfl, rfl⟩ (by kernel_rfl) rfl
    (fun f fn hf hfn => by
      obtain rfl : f = 4 := Option.some.inj ((show Tryd.prog.funcNamed "conch/conchlaw07.GreadToken" = some 4 by kernel_rfl).symm.trans hf) |>.symm
      obtain rfl : fn = Tryd.f4 := (Option.some.inj (Tryd.func4.symm.trans hfn)).symm
      exact ⟨by kernel_rfl, fun j t ht => by
        rw [Tryd.params4] at ht
        have h3 : t = 9 := by
          rcases j with _ | j
          · simpa using ht.symm
          · simp at ht
        subst h3
        exact (show Tryd.prog.wantsStandIn 9 = false by kernel_rfl)⟩)
    (by kernel_rfl)
#print axioms token_holds
end Go.Proofs.YtdbmeocpjopdhaaDoor
