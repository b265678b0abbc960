/- The tables, out of what is laid. PosixTells, walked. PosixTells: any operator, any text, any terminal. -/
import Derived.Test.YtnpjhndgdlihjaaDoorZt
import Derived.Lib.LaidU8
import Derived.Lay
import Derived.ChangeArms
import Derived.Shelf.Vars
import Derived.Test.YtnpjhndgdlihjaaDoorZu
import Derived.Test.YtnpjhndgdlihjaaDoorZa
import Derived.Test.YtnpjhndgdlihjaaDoorTie
import Derived.Test.YtnpjhndgdlihjaaDoorCards
import Derived.ChangeMaps5
import Derived.HandedShaped
import Derived.LaidLaws
import Derived.LaidHandle
import Derived.Stop.Joined
import Derived.SevenTiedAt
import Derived.ProofKit
import Derived.Handy
namespace Go.Proofs.YtnpjhndgdlihjaaDoor
open Go.RowKit
set_option linter.unusedVariables false
theorem tab_of_reads {n : String} {g T : Nat} {L : List (List UInt8)} {W : World} (hr : Lib.VarReads Tryd.prog W n (.agg (L.map fun l => .lit (.string l)))) (hg : Tryd.prog.globalNamed n = some g)
    (ht : (Tryd.prog.globals[g]?).map (·.type) = some T) (hu : Tryd.prog.underlying T = some (.array L.length 9)) (hc : Tryd.prog.cellsOf 9 = 1) : ∀ k (h : k < L.length), W.cell? ⟨g, k, none⟩ = some (.string (bs L[k])) := by
  intro k hk
  obtain ⟨g', t', cs, fuel, p, e1, e2, e3, e4⟩ := hr
  obtain rfl : g = g' := Option.some.inj (hg.symm.trans e1)
  obtain rfl : T = t' := Option.some.inj (ht.symm.trans e2)
  obtain ⟨fuel', d, q, hd, ht'⟩ := Lib.array_elem hu e4 k hk
  rw [hc, Nat.mul_one] at ht'
  obtain ⟨s, hs, hx, _⟩ := DataW.trod_string Tryd.underlying9 ht'
  have hd' : d = .lit (.string L[k]) := by
    rw [List.getElem?_map, List.getElem?_eq_getElem hk] at hd
    exact (Option.some.inj hd).symm
  have hs2 : s = bs L[k] := by
    rw [hd'] at hx
    have h1 : L[k] = s.data.toList := Lit.string.inj (DataW.lit.inj (congrArg Prod.fst hx))
    unfold bs
    rw [h1, Array.toArray_toList]
  have hc0 := World.var?_cell hg e3 k
  rw [hc0, ← hs2]
  have : cs.toList[k]? = some (.string s) := by
    have := congrArg (·[0]?) hs
    simpa using this
  simpa using this
theorem tabs_of_laid {W : World} {l : List (String × DataW Unit)} (hl : l = [("conch/oper.texts", .agg (opersL.map fun l => .lit (.string l))), ("conch/posix.reserved", .agg (wordsL.map fun l => .lit (.string l)))]) (h : laidMetH Tryd.prog l W) : HasTabs W := by
  subst hl
  have h' : laidMet Tryd.prog [("conch/oper.texts", .agg (opersL.map fun l => .lit (.string l))), ("conch/posix.reserved", .agg (wordsL.map fun l => .lit (.string l)))] W := h
  exact ⟨tab_of_reads (T := 74) (Lib.laidMet.reads h' (.head _)) (by kernel_rfl) (by kernel_rfl) (by kernel_rfl) (by kernel_rfl), tab_of_reads (T := 41) (Lib.laidMet.reads h' (.tail _ (.head _))) (by kernel_rfl) (by kernel_rfl) (by kernel_rfl) (by kernel_rfl)⟩
end Go.Proofs.YtnpjhndgdlihjaaDoor

namespace Go.Proofs.YtnpjhndgdlihjaaDoor
open Go.RowKit
set_option linter.unusedVariables false
set_option maxRecDepth 100000 in
set_option maxHeartbeats 3200000 in
theorem tells_law0 (op : Int) (s : ByteArray) (t : Int) (ht1 : -9223372036854775808 ≤ t) {w : World} (hm : HasMax w) (hT : HasTabs w) : Calls Tryd.prog 3 #[.int .i64 op, .string s, .int .i64 t] w (fun e w' => e = .returned (.bool true) ∧ Below w.heap.size w w') := by
  have HA := Lib.hid (fun y (hy : Below w.heap.size w y) => awake_any (hm.later hy) (hT.later hy))
  by_cases hlong : 1000 < s.size
  · have q1 : (1000 : Int) < (s.size : Int) := by omega
    clear hlong hm hT
    go_enter Tryd.func3, Tryd.ntmps3
    go_wp2_with fail
    refine (HA.out _ (Below.refl _ _)).mono ?_
    rintro e w1 ⟨rfl, hb⟩
    have HB := Lib.hid hb
    clear hb
    go_wp2
    go_ret
    exact ⟨rfl, HB.out⟩
  · have q1 : ¬ (1000 : Int) < (s.size : Int) := by omega
    have HY := Lib.hid (fun y (hy : Below w.heap.size w y) => hT.later hy)
    have CO := Lib.hid (fun y (hy : Below w.heap.size w y) => pOp_any op (HY.out y hy))
    have CR := Lib.hid (fun y (hy : Below w.heap.size w y) => pRes_any s (HY.out y hy))
    have CS := Lib.hid (fun y (hy : Below w.heap.size w y) => pSpell_any t ht1 (HY.out y hy))
    have DO := Lib.hid (fun y => rOp_any op y)
    have DR := Lib.hid (fun y => rRes_any s y)
    have DS := Lib.hid (fun y => rSpell_any t ht1 y)
    have H0 := Lib.hid (Below.refl w.heap.size w)
    clear hlong hm hT HY ht1
    generalize opI op = x1 at *
    generalize resI s = x2 at *
    generalize spT t = x3 at *
    go_enter Tryd.func3, Tryd.ntmps3
    go_wp2_with fail
    refine (CO.out _ H0.out).mono ?_
    rintro e w1 ⟨rfl, rfl⟩
    go_wp2_with fail
    refine (DO.out _).mono ?_
    rintro e w1 ⟨rfl, rfl⟩
    go_wp2_with fail
    refine (CR.out _ H0.out).mono ?_
    rintro e w2 ⟨rfl, rfl⟩
    go_wp2_with fail
    refine (DR.out _).mono ?_
    rintro e w2 ⟨rfl, hb2⟩
    have H2 := Lib.hid hb2
    clear hb2
    go_wp2_with fail
    refine (CS.out _ H2.out).mono ?_
    rintro e w3 ⟨rfl, rfl⟩
    go_wp2_with fail
    refine (DS.out _).mono ?_
    rintro e w3 ⟨rfl, hb3⟩
    have H3 := Lib.hid (H2.out.trans (hb3.mono H2.out.size))
    clear hb3
    go_wp2_with fail
    refine (HA.out _ H3.out).mono ?_
    rintro e w4 ⟨rfl, hb4⟩
    have H4 := Lib.hid (H3.out.trans (hb4.mono H3.out.size))
    clear hb4
    go_wp2
    go_ret
    exact ⟨rfl, H4.out⟩
end Go.Proofs.YtnpjhndgdlihjaaDoor

namespace Go.Proofs.YtnpjhndgdlihjaaDoor
open Go.ChangeShapes Go.WideShapes Go.ChangeAt Go.RowKit
open Go.ChangeMaps (open_string)
set_option linter.unusedVariables false
theorem max_shaped {w : World} (h : w.ShapedOpen Tryd.prog) : HasMax w :=
  Go.Proofs.cell_of_shapedOpen_int (zero := #[.int .i64 0]) (t := 3) h (of_decide_eq_true (by kernel_rfl)) (by kernel_rfl) rfl (by kernel_rfl) (by kernel_rfl) Tryd.underlying3
theorem tells_own : ownKnob Tryd.prog.godebug = none := by kernel_rfl
theorem tells_laid : laidOutB Tryd.prog = true := by kernel_rfl
/-- As returnsInHanded_of_change_and, the world's shape kept. -/
theorem handed_and_shaped {H : Type} {enc : TypeId × Value → H} {a : Assume} {C : Checked} {os : Os} {f : FuncId} {fn : Func} {s : ChangeSpec} {conds : List PathCond} {apart fresh handsOn again : Bool} {X : World → Array Value → Prop}
    (hX : ∀ (w w' : World) (args : Array Value), w.heap = w'.heap → X w args → X w' args)
    (own : ownKnob C.prog.godebug = none) (started : os.Started) (noInit : C.prog.inits.idxOf? f = none) (hfn : C.prog.funcs[f]? = some fn)
    (witness : ∃ (w : World) (tape : Tape) (i : Input), w.os = os ∧ (w.forCall tape i).Shaped C.prog ∧ i.vars = [] ∧ Input.okWide C.prog (w.forCall tape i) .any w.heap.size f i ∧
      ((s.pre enc C.prog fn conds apart (w.forCall tape i).memory i.args ∧ X (w.forCall tape i).memory i.args) ∧ sizedMet enc C.prog fn (OpenSpec.ofChange s) apart (w.forCall tape i).memory i.args) ∧ a.holds C.prog (lone (Frame.enter C.prog f i.args .normal) [] (w.forCall tape i)))
    (contract : ∀ (W : World) (base : Nat) (args : Array Value) (ds gs : List (DataW H)) (before : List MemPlace),
      (∀ (j : Nat) t v, fn.params[j]? = some t → args[j]? = some v → Value.okWide C.prog W .any base t v) →
      DataW.Whole enc C.prog fn.params.toList s.vars apart W args.toList ds gs before → W.ShapedOpen C.prog → X W args →
      Calls C.prog f args W fun e W' => ∃ v, e = .returned v ∧ s.post enc C.prog fn apart fresh handsOn again W args v W') :
    ReturnsInHanded a C os f .any (fun w args => (s.pre enc C.prog fn conds apart w args ∧ X w args) ∧ sizedMet enc C.prog fn (OpenSpec.ofChange s) apart w args) (s.post enc C.prog fn apart fresh handsOn again) := by
  refine returnsInHanded_of_calls own started noInit witness ?_
  intro w tape i _ hsh _ hok hpre _
  obtain ⟨_, _, _, fn', hfn', _, _, _, _, hval⟩ := hok
  have e : fn' = fn := Option.some.inj (hfn'.symm.trans hfn)
  subst e
  obtain ⟨⟨⟨ds, gs, before, hw, hc⟩, hx⟩, hz⟩ := hpre
  have hw' := DataW.Whole.of_heap (w' := w.forCall tape i) (by rfl) hw
  refine (contract (w.forCall tape i) w.heap.size i.args ds gs before hval hw' hsh (hX _ _ _ (by rfl) hx)).mono fun e W' ⟨v, he, hp⟩ => ?_
  subst he
  exact ChangeSpec.post_blind hp
set_option maxRecDepth 100000 in
theorem tells_lifted (os : Os) (started : os.Started) (H : Type) (enc : TypeId × Value → H) :
    ReturnsInHanded {} Tryd.checked os 3 .any (fun w args => (Rows.posixTellsSpec.pre enc Tryd.prog Tryd.f3 Rows.posixTellsRow.domain false w args ∧ laidMetH Tryd.prog Rows.posixTellsRow.laid w) ∧ sizedMet enc Tryd.prog Tryd.f3 (OpenSpec.ofChange Rows.posixTellsSpec) false w args)
      (Rows.posixTellsSpec.post enc Tryd.prog Tryd.f3 false true false false) := by
  refine handed_and_shaped (C := Tryd.checked) (X := fun w _ => laidMetH Tryd.prog Rows.posixTellsRow.laid w) (fun _ _ _ hh h => h.of_heap hh) tells_own started (by kernel_rfl) Tryd.func3
    (ChangeSpec.witness_shaped (enc := enc) (C := Tryd.checked) (os := os) (X := fun w _ => laidMetH Tryd.prog Rows.posixTellsRow.laid w) false (World.laidAll Tryd.prog os Rows.posixTellsRow.laid) #[.int .i64 0, .string ByteArray.empty, .int .i64 0] 8 (World.laidAll_os _ _ _)
      (World.shaped_of_ZipB (by kernel_rfl) (by kernel_rfl)) (by kernel_rfl) (by kernel_rfl) (by kernel_rfl)
      (by rw [MakeChecks.laidMetH_plain _ _ _ (by kernel_rfl)]; exact laidMet_laidAll _ (by kernel_rfl) (by kernel_rfl))) ?_
  intro W base args ds gs before hval0 hW hsh hL
  have hval : ∀ (j : Nat) t v, Tryd.f3.params[j]? = some t → args[j]? = some v → Value.okWide Tryd.prog W .any base t v := hval0
  have hW' := hW
  obtain ⟨p, q, hA0, hV, rfl, hfz, hnd⟩ := hW
  have hA : DataW.TrodAll enc Tryd.prog W 0 (fun _ => true) true Tryd.f3.params.toList args.toList ds p := hA0
  rw [Tryd.params3] at hA hval
  obtain ⟨v0, vs0, d0, ds0, p0, q0, hargs, rfl, rfl, h0, r0⟩ := trodAll_cons hA
  obtain ⟨v1, vs1, d1, ds1, p1, q1, hvs1, rfl, rfl, h1, r1⟩ := trodAll_cons r0
  obtain ⟨v2, vs2, d2, ds2, p2, q2, hvs2, rfl, rfl, h2, r2⟩ := trodAll_cons r1
  obtain ⟨rfl, rfl, rfl⟩ := trodAll_nil r2
  subst hvs1 hvs2
  obtain rfl : args = #[v0, v1, v2] := by cases args; simp_all
  obtain ⟨rfl, rfl⟩ := trodVars_none hV
  obtain ⟨a0, rfl, rfl, rfl, w0⟩ := open_int Tryd.underlying3 (hval 0 3 v0 rfl rfl) h0
  obtain ⟨a1, rfl, rfl, rfl, w1⟩ := open_string Tryd.underlying9 (hval 1 9 v1 rfl rfl) h1
  obtain ⟨a2, rfl, rfl, rfl, w2⟩ := open_int Tryd.underlying3 (hval 2 3 v2 rfl rfl) h2
  have hb2 : -9223372036854775808 ≤ a2 := by simp [Lit.wf, IntKind.min, IntKind.max, IntKind.signed, IntKind.bits] at w2; omega
  refine (tells_law0 a0 a1 a2 hb2 (max_shaped hsh) (tabs_of_laid rfl hL)).mono fun e W' ⟨he, hb⟩ => ?_
  subst he
  exact ⟨_, rfl, law_post hW' rfl rfl rfl Tryd.underlying4 tells_laid (by decide +kernel) hb (ok_one (by kernel_rfl) rfl (okWide_bool_mk Tryd.underlying4 _))⟩
theorem tells_row : Rows.PosixTellsSaid :=
  OpenClaim.holds_of_wide 3 Tryd.f3 rfl rfl rfl rfl rfl rfl rfl ⟨rfl, rfl, rfl, rfl, rfl⟩ rfl rfl rfl rfl rfl (by kernel_rfl) Tryd.func3 (by kernel_rfl)
    (of_decide_eq_true (by kernel_rfl)) (by unfold Func.isWrapper; first | (rw [if_pos (by decide +kernel)]; kernel_rfl) | (rw [if_neg (by decide +kernel)]; exact ⟨rfl, rfl⟩))
    (fun os started H enc _ => tells_lifted os started H enc)
theorem tells_holds : Rows.PosixTellsCardSaid :=
  Claim7.holds_tied_plain_at .later [] [.data, .data] true _ true
    tells_row (fun _ h => by cases h) (by kernel_rfl) (fun _ h => by cases h) posixTells_row_tie rfl ⟨rfl, rfl⟩ (by kernel_rfl) rfl
    (fun f fn hf hfn => by
      obtain rfl : f = 3 := Option.some.inj ((show Tryd.prog.funcNamed "conch/conchlaw30.PosixTells" = some 3 by kernel_rfl).symm.trans hf) |>.symm
      obtain rfl : fn = Tryd.f3 := (Option.some.inj (Tryd.func3.symm.trans hfn)).symm
      exact ⟨by kernel_rfl, fun j t ht => by
        rw [Tryd.params3] at ht
        have hm : t ∈ [3, 9, 3] := by simpa using Array.mem_of_getElem? ht
        have hall : ([3, 9, 3].all fun u => !Tryd.prog.wantsStandIn u) = true := by kernel_rfl
        exact (show Tryd.prog.wantsStandIn t = false by simpa using List.all_eq_true.1 hall t hm)⟩)
    (by kernel_rfl)
#print axioms tells_holds
end Go.Proofs.YtnpjhndgdlihjaaDoor
