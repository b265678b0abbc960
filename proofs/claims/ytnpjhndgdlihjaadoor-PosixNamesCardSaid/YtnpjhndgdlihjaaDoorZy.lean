/- The tables, out of what is laid. PosixNames: any operator, any terminal. -/
import Derived.Test.YtnpjhndgdlihjaaDoorZt
import Derived.Lib.LaidU8
import Derived.Lay
import Derived.ChangeArms
import Derived.Shelf.Vars
import Derived.Test.YtnpjhndgdlihjaaDoorZx
import Derived.Test.YtnpjhndgdlihjaaDoorZa
import Derived.Test.YtnpjhndgdlihjaaDoorTie
import Derived.Test.YtnpjhndgdlihjaaDoorCards
import Derived.ChangeMaps5
import Derived.HandedShaped
import Derived.LaidLaws
import Derived.LaidHandle
import Derived.Stop.Joined
import Derived.SevenTiedAt
import Derived.ProofKit
import Derived.Handy
namespace Go.Proofs.YtnpjhndgdlihjaaDoor
open Go.RowKit
set_option linter.unusedVariables false
theorem tab_of_reads {n : String} {g T : Nat} {L : List (List UInt8)} {W : World} (hr : Lib.VarReads Tryd.prog W n (.agg (L.map fun l => .lit (.string l)))) (hg : Tryd.prog.globalNamed n = some g)
    (ht : (Tryd.prog.globals[g]?).map (·.type) = some T) (hu : Tryd.prog.underlying T = some (.array L.length 9)) (hc : Tryd.prog.cellsOf 9 = 1) : ∀ k (h : k < L.length), W.cell? ⟨g, k, none⟩ = some (.string (bs L[k])) := by
  intro k hk
  obtain ⟨g', t', cs, fuel, p, e1, e2, e3, e4⟩ := hr
  obtain rfl : g = g' := Option.some.inj (hg.symm.trans e1)
  obtain rfl : T = t' := Option.some.inj (ht.symm.trans e2)
  obtain ⟨fuel', d, q, hd, ht'⟩ := Lib.array_elem hu e4 k hk
  rw [hc, Nat.mul_one] at ht'
  obtain ⟨s, hs, hx, _⟩ := DataW.trod_string Tryd.underlying9 ht'
  have hd' : d = .lit (.string L[k]) := by
    rw [List.getElem?_map, List.getElem?_eq_getElem hk] at hd
    exact (Option.some.inj hd).symm
  have hs2 : s = bs L[k] := by
    rw [hd'] at hx
    have h1 : L[k] = s.data.toList := Lit.string.inj (DataW.lit.inj (congrArg Prod.fst hx))
    unfold bs
    rw [h1, Array.toArray_toList]
  have hc0 := World.var?_cell hg e3 k
  rw [hc0, ← hs2]
  have : cs.toList[k]? = some (.string s) := by
    have := congrArg (·[0]?) hs
    simpa using this
  simpa using this
theorem tabs_of_laid {W : World} {l : List (String × DataW Unit)} (hl : l = [("conch/oper.texts", .agg (opersL.map fun l => .lit (.string l))), ("conch/posix.reserved", .agg (wordsL.map fun l => .lit (.string l)))]) (h : laidMetH Tryd.prog l W) : HasTabs W := by
  subst hl
  have h' : laidMet Tryd.prog [("conch/oper.texts", .agg (opersL.map fun l => .lit (.string l))), ("conch/posix.reserved", .agg (wordsL.map fun l => .lit (.string l)))] W := h
  exact ⟨tab_of_reads (T := 74) (Lib.laidMet.reads h' (.head _)) (by kernel_rfl) (by kernel_rfl) (by kernel_rfl) (by kernel_rfl), tab_of_reads (T := 41) (Lib.laidMet.reads h' (.tail _ (.head _))) (by kernel_rfl) (by kernel_rfl) (by kernel_rfl) (by kernel_rfl)⟩
end Go.Proofs.YtnpjhndgdlihjaaDoor

namespace Go.Proofs.YtnpjhndgdlihjaaDoor
open Go.ChangeShapes Go.WideShapes Go.ChangeAt Go.RowKit
set_option linter.unusedVariables false
theorem max_shaped {w : World} (h : w.ShapedOpen Tryd.prog) : HasMax w :=
  Go.Proofs.cell_of_shapedOpen_int (zero := #[.int .i64 0]) (t := 3) h (of_decide_eq_true (by kernel_rfl)) (by kernel_rfl) rfl (by kernel_rfl) (by kernel_rfl) Tryd.underlying3
theorem names_own : ownKnob Tryd.prog.godebug = none := by kernel_rfl
theorem names_laid : laidOutB Tryd.prog = true := by kernel_rfl
/-- As returnsInHanded_of_change_and, the world's shape kept. -/
theorem handed_and_shaped {H : Type} {enc : TypeId × Value → H} {a : Assume} {C : Checked} {os : Os} {f : FuncId} {fn : Func} {s : ChangeSpec} {conds : List PathCond} {apart fresh handsOn again : Bool} {X : World → Array Value → Prop}
    (hX : ∀ (w w' : World) (args : Array Value), w.heap = w'.heap → X w args → X w' args)
    (own : ownKnob C.prog.godebug = none) (started : os.Started) (noInit : C.prog.inits.idxOf? f = none) (hfn : C.prog.funcs[f]? = some fn)
    (witness : ∃ (w : World) (tape : Tape) (i : Input), w.os = os ∧ (w.forCall tape i).Shaped C.prog ∧ i.vars = [] ∧ Input.okWide C.prog (w.forCall tape i) .any w.heap.size f i ∧
      ((s.pre enc C.prog fn conds apart (w.forCall tape i).memory i.args ∧ X (w.forCall tape i).memory i.args) ∧ sizedMet enc C.prog fn (OpenSpec.ofChange s) apart (w.forCall tape i).memory i.args) ∧ a.holds C.prog (lone (Frame.enter C.prog f i.args .normal) [] (w.forCall tape i)))
    (contract : ∀ (W : World) (base : Nat) (args : Array Value) (ds gs : List (DataW H)) (before : List MemPlace),
      (∀ (j : Nat) t v, fn.params[j]? = some t → args[j]? = some v → Value.okWide C.prog W .any base t v) →
      DataW.Whole enc C.prog fn.params.toList s.vars apart W args.toList ds gs before → W.ShapedOpen C.prog → X W args →
      Calls C.prog f args W fun e W' => ∃ v, e = .returned v ∧ s.post enc C.prog fn apart fresh handsOn again W args v W') :
    ReturnsInHanded a C os f .any (fun w args => (s.pre enc C.prog fn conds apart w args ∧ X w args) ∧ sizedMet enc C.prog fn (OpenSpec.ofChange s) apart w args) (s.post enc C.prog fn apart fresh handsOn again) := by
  refine returnsInHanded_of_calls own started noInit witness ?_
  intro w tape i _ hsh _ hok hpre _
  obtain ⟨_, _, _, fn', hfn', _, _, _, _, hval⟩ := hok
  have e : fn' = fn := Option.some.inj (hfn'.symm.trans hfn)
  subst e
  obtain ⟨⟨⟨ds, gs, before, hw, hc⟩, hx⟩, hz⟩ := hpre
  have hw' := DataW.Whole.of_heap (w' := w.forCall tape i) (by rfl) hw
  refine (contract (w.forCall tape i) w.heap.size i.args ds gs before hval hw' hsh (hX _ _ _ (by rfl) hx)).mono fun e W' ⟨v, he, hp⟩ => ?_
  subst he
  exact ChangeSpec.post_blind hp
set_option maxRecDepth 100000 in
theorem names_lifted (os : Os) (started : os.Started) (H : Type) (enc : TypeId × Value → H) :
    ReturnsInHanded {} Tryd.checked os 4 .any (fun w args => (Rows.posixNamesSpec.pre enc Tryd.prog Tryd.f4 Rows.posixNamesRow.domain false w args ∧ laidMetH Tryd.prog Rows.posixNamesRow.laid w) ∧ sizedMet enc Tryd.prog Tryd.f4 (OpenSpec.ofChange Rows.posixNamesSpec) false w args)
      (Rows.posixNamesSpec.post enc Tryd.prog Tryd.f4 false true false false) := by
  refine handed_and_shaped (C := Tryd.checked) (X := fun w _ => laidMetH Tryd.prog Rows.posixNamesRow.laid w) (fun _ _ _ hh h => h.of_heap hh) names_own started (by kernel_rfl) Tryd.func4
    (ChangeSpec.witness_shaped (enc := enc) (C := Tryd.checked) (os := os) (X := fun w _ => laidMetH Tryd.prog Rows.posixNamesRow.laid w) false (World.laidAll Tryd.prog os Rows.posixNamesRow.laid) #[.int .i64 0, .int .i64 0] 8 (World.laidAll_os _ _ _)
      (World.shaped_of_ZipB (by kernel_rfl) (by kernel_rfl)) (by kernel_rfl) (by kernel_rfl) (by kernel_rfl)
      (by rw [MakeChecks.laidMetH_plain _ _ _ (by kernel_rfl)]; exact laidMet_laidAll _ (by kernel_rfl) (by kernel_rfl))) ?_
  intro W base args ds gs before hval0 hW hsh hL
  have hval : ∀ (j : Nat) t v, Tryd.f4.params[j]? = some t → args[j]? = some v → Value.okWide Tryd.prog W .any base t v := hval0
  have hW' := hW
  obtain ⟨p, q, hA0, hV, rfl, hfz, hnd⟩ := hW
  have hA : DataW.TrodAll enc Tryd.prog W 0 (fun _ => true) true Tryd.f4.params.toList args.toList ds p := hA0
  rw [Tryd.params4] at hA hval
  obtain ⟨v0, vs0, d0, ds0, p0, q0, hargs, rfl, rfl, h0, r0⟩ := trodAll_cons hA
  obtain ⟨v1, vs1, d1, ds1, p1, q1, hvs1, rfl, rfl, h1, r1⟩ := trodAll_cons r0
  obtain ⟨rfl, rfl, rfl⟩ := trodAll_nil r1
  subst hvs1
  obtain rfl : args = #[v0, v1] := by cases args; simp_all
  obtain ⟨rfl, rfl⟩ := trodVars_none hV
  obtain ⟨a0, rfl, rfl, rfl, w0⟩ := open_int Tryd.underlying3 (hval 0 3 v0 rfl rfl) h0
  obtain ⟨a1, rfl, rfl, rfl, w1⟩ := open_int Tryd.underlying3 (hval 1 3 v1 rfl rfl) h1
  have hb0 : -9223372036854775808 ≤ a0 := by simp [Lit.wf, IntKind.min, IntKind.max, IntKind.signed, IntKind.bits] at w0; omega
  have hb1 : -9223372036854775808 ≤ a1 := by simp [Lit.wf, IntKind.min, IntKind.max, IntKind.signed, IntKind.bits] at w1; omega
  refine (names_law0 a0 a1 hb0 hb1 (max_shaped hsh) (tabs_of_laid rfl hL)).mono fun e W' ⟨he, hb⟩ => ?_
  subst he
  exact ⟨_, rfl, law_post hW' rfl rfl rfl Tryd.underlying4 names_laid (by decide +kernel) hb (ok_one (by kernel_rfl) rfl (okWide_bool_mk Tryd.underlying4 _))⟩
theorem names_row : Rows.PosixNamesSaid :=
  OpenClaim.holds_of_wide 4 Tryd.f4 rfl rfl rfl rfl rfl rfl rfl ⟨rfl, rfl, rfl, rfl, rfl⟩ rfl rfl rfl rfl rfl (by kernel_rfl) Tryd.func4 (by kernel_rfl)
    (of_decide_eq_true (by kernel_rfl)) (by unfold Func.isWrapper; first | (rw [if_pos (by decide +kernel)]; kernel_rfl) | (rw [if_neg (by decide +kernel)]; exact ⟨rfl, rfl⟩))
    (fun os started H enc _ => names_lifted os started H enc)
theorem names_holds : Rows.PosixNamesCardSaid :=
  Claim7.holds_tied_plain_at .later [] [.data, .data] true _ true
    names_row (fun _ h => by cases h) (by kernel_rfl) (fun _ h => by cases h) posixNames_row_tie rfl ⟨rfl, rfl⟩ (by kernel_rfl) rfl
    (fun f fn hf hfn => by
      obtain rfl : f = 4 := Option.some.inj ((show Tryd.prog.funcNamed "conch/conchlaw30.PosixNames" = some 4 by kernel_rfl).symm.trans hf) |>.symm
      obtain rfl : fn = Tryd.f4 := (Option.some.inj (Tryd.func4.symm.trans hfn)).symm
      exact ⟨by kernel_rfl, fun j t ht => by
        rw [Tryd.params4] at ht
        have hm : t ∈ [3, 3] := by simpa using Array.mem_of_getElem? ht
        have hall : ([3, 3].all fun u => !Tryd.prog.wantsStandIn u) = true := by kernel_rfl
        exact (show Tryd.prog.wantsStandIn t = false by simpa using List.all_eq_true.1 hall t hm)⟩)
    (by kernel_rfl)
#print axioms names_holds
end Go.Proofs.YtnpjhndgdlihjaaDoor
