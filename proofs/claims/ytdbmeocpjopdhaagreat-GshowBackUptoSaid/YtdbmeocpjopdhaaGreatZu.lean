/- GshowBack: what is shown is read as it was; where what comes in is of bulk at most 1048576. -/
import Derived.Test.YtdbmeocpjopdhaaGreatZt
import Derived.Test.YtdbmeocpjopdhaaGreatZp
import Derived.Test.YtdbmeocpjopdhaaGreatZq
namespace Go.Proofs.YtdbmeocpjopdhaaGreat
open Go.ChangeShapes Go.WideShapes Go.ChangeAt Go.RowKit
set_option linter.unusedVariables false
theorem like_of {g : Gm} (hc : g.check = 0) : Like (PG.of g) g.R := by
  obtain ⟨h1, h2, h3, h4, h5, h6⟩ := check_all hc
  refine ⟨rfl, fun r hr => ?_⟩
  obtain ⟨k1, k2⟩ := known_left h4 hr
  exact ⟨by omega, fun s hs => by have := k2 s hs; omega⟩
theorem same_back {w0 w : World} {v tv nv Rv : Value} {g : Gm} {R : List RuG} (h : GrR w v g) (hc : g.check = 0) (ho : g.ordered = true) (h2 : Has w0 w tv nv Rv (PG.of g) R) : Calls Tryz.prog 11 #[v, .agg #[tv, nv, Rv, .int .i64 (PG.of g).s]] w (Says w true) := by
  have hg := PG.good_of hc ho
  obtain ⟨e1, e2⟩ := like_same (like_of hc) (like_has h2)
  have e : ∀ L : List ByteArray, (L.map (·.data.toList)).map str = L := by
    intro L
    rw [List.map_map]
    exact (List.map_congr_left (fun a _ => str_data a)).trans (List.map_id L)
  have hs := known_start (check_all hc).2.2.2.1
  refine same6_any h (h2.gram hg) (e g.T) (e g.N) ?_ e1 e2
  show (((PG.of g).s : Nat) : Int) = g.s
  show ((g.s.toNat : Nat) : Int) = g.s
  omega
set_option maxRecDepth 100000 in
set_option maxHeartbeats 6400000 in
theorem back_law0 {w : World} {v : Value} {g : Gm} (h : GrR w v g) (hi : g.ints) (hm : HasMax w) : Calls Tryz.prog 3 #[v] w (Says w true) := by
  have HA := Lib.hid (fun y => awake_any y)
  have HM := Lib.hid (fun y (hy : Below w.heap.size w y) => much_any (h.later hy))
  have HC := Lib.hid (fun y (hy : Below w.heap.size w y) => rcheck_any (h.later hy))
  have HO := Lib.hid (fun y (hy : Below w.heap.size w y) => rord_any (h.later hy))
  have HS := Lib.hid (fun y (hy : Below w.heap.size w y) => show_any (h.later hy) hi)
  have HG := Lib.hid (GBox.new w 25 v)
  have HH := Lib.hid h
  have HX := Lib.hid hm
  have n1 := neq_err
  have n2 := neq_err_nil
  have n3 := eql_err_nil
  have hnot : ∀ (x : Bool) (w : World), (Op.unary .not (.bool x)).run Tryz.prog w = .ok (.bool (!x)) w := fun _ _ => rfl
  obtain ⟨AT, cT, AN, cN, AR, cR, rfl, hT, hN, hR⟩ := h.open_
  clear h hi hm hT hN hR
  have HGE : Hid (g.check = 0 → g.ordered = true → g.showL = (PG.of g).text ∧ ((PG.of g).text.length ≤ 8192 → parseL (PG.of g).text = .ok (PG.of g)) ∧ (PG.of g).Good) := Lib.hid (fun hc ho => ⟨show_of hc ho, (PG.good_of hc ho).parse, PG.good_of hc ho⟩)
  generalize hnT : g.T.length = nT at *
  generalize hnN : g.N.length = nN at *
  generalize hnR : g.R.length = nR at *
  generalize hgs : g.s = gs at *
  have HEQ := Lib.hid (And.intro hnT (And.intro hnN (And.intro hnR hgs)))
  clear hnT hnN hnR hgs
  have HB0 := Lib.hid (below_alloc w (.cells #[.slice AT nT cT, .slice AN nN cN, .slice AR nR cR, .int .i64 gs] 25))
  have HG0 : Hid (∀ y, Below (w.alloc (.cells #[.slice AT nT cT, .slice AN nN cN, .slice AR nR cR, .int .i64 gs] 25)).heap.size (w.alloc (.cells #[.slice AT nT cT, .slice AN nN cN, .slice AR nR cR, .int .i64 gs] 25)) y → y.cell? ⟨w.heap.size, 0, none⟩ = some (.slice AT nT cT) ∧ y.cell? ⟨w.heap.size, 1, none⟩ = some (.slice AN nN cN) ∧ y.cell? ⟨w.heap.size, 2, none⟩ = some (.slice AR nR cR) ∧ y.cell? ⟨w.heap.size, 3, none⟩ = some (.int .i64 gs) ∧ w.heap.size < y.heap.size) := Lib.hid (fun y hy => by
    have hb := HG.out.later hy
    obtain ⟨a, b, c, d⟩ := hb.four
    exact ⟨a, b, c, d, hb.lt⟩)
  have hw1 : w.heap.size < (w.alloc (.cells #[.slice AT nT cT, .slice AN nN cN, .slice AR nR cR, .int .i64 gs] 25)).heap.size := by simp
  go_enter Tryz.func3, Tryz.ntmps3
  go_wp2_with fail
  refine (HM.out _ HB0.out).mono ?_
  rintro e w1 ⟨n, rfl, hb1⟩
  have HZ1 := Lib.hid hb1
  have HB1 := Lib.hid (HB0.out.trans (hb1.mono HB0.out.size))
  obtain ⟨d0, d1, d2, d3, d4⟩ := HG0.out w1 hb1
  clear hb1
  by_cases hn : 300 < n
  · go_wp2_with fail
    refine (HA.out _).mono ?_
    rintro e w2 ⟨rfl, hb2⟩
    have HB2 := Lib.hid (HB1.out.trans (hb2.mono HB1.out.size))
    clear hb2
    go_wp2
    go_ret
    exact ⟨rfl, HB2.out⟩
  go_wp2_with fail
  refine (HC.out _ HB1.out).mono ?_
  rintro e w2 ⟨rfl, hb2⟩
  have HZ2 := Lib.hid (HZ1.out.trans (hb2.mono HZ1.out.size))
  have HB2 := Lib.hid (HB1.out.trans (hb2.mono HB1.out.size))
  clear d0 d1 d2 d3 d4 hb2
  obtain ⟨d0, d1, d2, d3, d4⟩ := HG0.out w2 HZ2.out
  by_cases hc : g.check = 0
  case neg =>
    have q1 : (g.check != 0) = true := by simpa using hc
    generalize g.check = ck at *
    go_wp2_with fail
    refine (HA.out _).mono ?_
    rintro e w3 ⟨rfl, hb3⟩
    have HB3 := Lib.hid (HB2.out.trans (hb3.mono HB2.out.size))
    clear hb3
    go_wp2
    go_ret
    exact ⟨rfl, HB3.out⟩
  have HCK := Lib.hid hc
  rw [hc]
  clear hc
  go_wp2_with fail
  refine (HO.out _ HB2.out).mono ?_
  rintro e w3 ⟨rfl, hb3⟩
  have HZ3 := Lib.hid (HZ2.out.trans (hb3.mono HZ2.out.size))
  have HB3 := Lib.hid (HB2.out.trans (hb3.mono HB2.out.size))
  clear d0 d1 d2 d3 d4 hb3
  obtain ⟨d0, d1, d2, d3, d4⟩ := HG0.out w3 HZ3.out
  cases ho : g.ordered with
  | false =>
    clear ho
    go_wp2_with fail
    refine (HA.out _).mono ?_
    rintro e w4 ⟨rfl, hb4⟩
    have HB4 := Lib.hid (HB3.out.trans (hb4.mono HB3.out.size))
    clear hb4
    go_wp2
    go_ret
    exact ⟨rfl, HB4.out⟩
  | true =>
    have HOR := Lib.hid ho
    clear ho
    obtain ⟨hsh, hpa, hgd⟩ := HGE.out HCK.out HOR.out
    rw [hsh] at HS
    have HPA := Lib.hid hpa
    have hts : (str (PG.of g).text).size = (PG.of g).text.length := str_size _
    have HTX : Hid (parseL (str (PG.of g).text).data.toList = parseL (PG.of g).text) := Lib.hid (by rw [data_str])
    clear hsh hpa hgd HGE HM HC HO
    generalize str (PG.of g).text = t at *
    generalize (PG.of g).text.length = lt at *
    go_wp2_with fail
    refine (HS.out _ HB3.out).mono ?_
    rintro e w4 ⟨rfl, hb4⟩
    have HZ4 := Lib.hid (HZ3.out.trans (hb4.mono HZ3.out.size))
    have HB4 := Lib.hid (HB3.out.trans (hb4.mono HB3.out.size))
    clear d0 d1 d2 d3 d4 hb4
    by_cases h8 : 8192 < t.size
    · have q2 : (8192 : Int) < (t.size : Int) := by omega
      clear h8
      go_wp2_with fail
      refine (HA.out _).mono ?_
      rintro e w5 ⟨rfl, hb5⟩
      have HB5 := Lib.hid (HB4.out.trans (hb5.mono HB4.out.size))
      clear hb5
      go_wp2
      go_ret
      exact ⟨rfl, HB5.out⟩
    · have q2 : ¬ (8192 : Int) < (t.size : Int) := by omega
      have HP := Lib.hid (parse_any t (by omega) w4 (HX.out.later HB4.out))
      rw [HTX.out, HPA.out (by omega)] at HP
      clear h8
      go_wp2_with fail
      refine HP.out.mono ?_
      rintro e w5 ⟨hb5, tv, nv, Rv, R, rfl, hhas⟩
      have HZ5 := Lib.hid (HZ4.out.trans (hb5.mono HZ4.out.size))
      have HB5 := Lib.hid (HB4.out.trans (hb5.mono HB4.out.size))
      have HHAS := Lib.hid hhas
      have HY := Lib.hid (Blk.new w5 25 #[tv, nv, Rv, .int .i64 (PG.of g).s])
      obtain ⟨D1, d1', rfl⟩ := own_shape hhas.ft
      obtain ⟨D2, d2', rfl⟩ := own_shape hhas.fn
      obtain ⟨D3, d3', rfl⟩ := own_shape hhas.fR
      have HBY := Lib.hid (HB5.out.trans ((below_alloc w5 (.cells #[.slice D1 (PG.of g).T.length d1', .slice D2 (PG.of g).N.length d2', .slice D3 R.length d3', .int .i64 (PG.of g).s] 25)).mono HB5.out.size))
      have HSM : Hid (Calls Tryz.prog 11 #[.agg #[.slice AT nT cT, .slice AN nN cN, .slice AR nR cR, .int .i64 gs], .agg #[.slice D1 (PG.of g).T.length d1', .slice D2 (PG.of g).N.length d2', .slice D3 R.length d3', .int .i64 (PG.of g).s]] (w5.alloc (.cells #[.slice D1 (PG.of g).T.length d1', .slice D2 (PG.of g).N.length d2', .slice D3 R.length d3', .int .i64 (PG.of g).s] 25)) (Says (w5.alloc (.cells #[.slice D1 (PG.of g).T.length d1', .slice D2 (PG.of g).N.length d2', .slice D3 R.length d3', .int .i64 (PG.of g).s] 25)) true)) := Lib.hid (same_back (HH.out.later HBY.out) HCK.out HOR.out (HHAS.out.later (below_alloc w5 _)))
      obtain ⟨d0, d1, d2, d3, d4⟩ := HG0.out w5 HZ5.out
      have y0 := HY.out.cell 0
      have y1 := HY.out.cell 1
      have y2 := HY.out.cell 2
      have y3 := HY.out.cell 3
      simp at y0 y1 y2 y3
      clear hb5 hhas
      generalize (PG.of g).s = ps at *
      generalize (PG.of g).T.length = pT at *
      generalize (PG.of g).N.length = pN at *
      go_wp2_with fail
      refine HSM.out.mono ?_
      rintro e w6 ⟨rfl, hb6⟩
      have HB6 := Lib.hid (HBY.out.trans (hb6.mono HBY.out.size))
      clear hb6
      go_wp2_with fail
      refine (HA.out _).mono ?_
      rintro e w7 ⟨rfl, hb7⟩
      have HB7 := Lib.hid (HB6.out.trans (hb7.mono HB6.out.size))
      clear hb7
      go_wp2
      go_ret
      exact ⟨rfl, HB7.out⟩
/-- The plain wrap of a statement with a bound on its bulk, the world's shape kept. -/
theorem handed_cond_shaped {H : Type} {enc : TypeId × Value → H} {a : Assume} {C : Checked} {os : Os} {f : FuncId} {fn : Func} {s : OpenSpec} {k : (H : Type) → List (DataW H) → Bool} (hk : s.cond = some k) {F : Stop.Interp} {conds : List PathCond} {apart fresh handsOn again : Bool}
    (own : ownKnob C.prog.godebug = none) (started : os.Started) (noInit : C.prog.inits.idxOf? f = none) (hfn : C.prog.funcs[f]? = some fn)
    (witness : ∃ (w : World) (tape : Tape) (i : Input), w.os = os ∧ (w.forCall tape i).Shaped C.prog ∧ i.vars = [] ∧ Input.okWide C.prog (w.forCall tape i) .any w.heap.size f i ∧
      s.pre6 enc C.prog fn conds apart (w.forCall tape i).memory i.args ∧ a.holds C.prog (lone (Frame.enter C.prog f i.args .normal) [] (w.forCall tape i)))
    (contract : ∀ (W : World) (base : Nat) (args : Array Value) (ds gs : List (DataW H)) (before : List MemPlace),
      (∀ (j : Nat) t v, fn.params[j]? = some t → args[j]? = some v → Value.okWide C.prog W .any base t v) →
      DataW.Whole enc C.prog fn.params.toList s.vars apart W args.toList ds gs before → k H (ds ++ gs) = true → W.ShapedOpen C.prog →
      Calls C.prog f args W fun e W' => ∃ v, e = .returned v ∧ (s.at F).post enc C.prog fn apart fresh handsOn again W args v W') :
    ReturnsInHanded a C os f .any (s.pre6 enc C.prog fn conds apart) ((s.at F).post enc C.prog fn apart fresh handsOn again) := by
  refine returnsInHanded_of_calls own started noInit witness ?_
  intro w tape i _ hsh _ hok hpre _
  obtain ⟨_, _, _, fn', hfn', _, _, _, _, hval⟩ := hok
  have e : fn' = fn := Option.some.inj (hfn'.symm.trans hfn)
  subst e
  obtain ⟨ds, gs, before, hw, _, hkk⟩ := (OpenSpec.pre_some hk conds apart _ _).1 hpre.1
  refine (contract (w.forCall tape i) w.heap.size i.args ds gs before hval (DataW.Whole.of_heap (w' := w.forCall tape i) (by rfl) hw) hkk hsh).mono fun e W' ⟨v, he, hp⟩ => ?_
  subst he
  exact ChangeSpec.post_blind hp
set_option maxRecDepth 100000 in
theorem back_lifted (os : Os) (started : os.Started) (H : Type) (enc : TypeId × Value → H) (F : Stop.Interp) :
    ReturnsInHanded {} Tryz.checked os 3 .any ((Rows.OpenSpec.upto Rows.gshowBackSpec).pre6 enc Tryz.prog Tryz.f3 Rows.gshowBackUptoRow.domain false) (((Rows.OpenSpec.upto Rows.gshowBackSpec).at F).post enc Tryz.prog Tryz.f3 false true false false) := by
  refine handed_cond_shaped (C := Tryz.checked) (s := Rows.OpenSpec.upto Rows.gshowBackSpec) (k := Rows.uptoSmall) rfl again_own started (by kernel_rfl) Tryz.func3
    (OpenSpec.witness (enc := enc) (C := Tryz.checked) (s := Rows.OpenSpec.upto Rows.gshowBackSpec) (k := Rows.uptoSmall) rfl false ⟨#[], #[.agg #[.slice none 0 0, .slice none 0 0, .slice none 0 0, .int .i64 0]], []⟩ 8 (by kernel_rfl) (by kernel_rfl) (by kernel_rfl)
      (x := ([.agg [.nil, .nil, .nil, .lit (.int .i64 0)]], [], [])) (by kernel_rfl) rfl (by kernel_rfl)) ?_
  intro W base args ds gs before hval0 hW hk hsh
  have hval : ∀ (j : Nat) t v, Tryz.f3.params[j]? = some t → args[j]? = some v → Value.okWide Tryz.prog W .any base t v := hval0
  have hW' := hW
  obtain ⟨p, q, hA0, hV, rfl, hfz, hnd⟩ := hW
  have hA : DataW.TrodAll enc Tryz.prog W 0 (fun _ => true) true Tryz.f3.params.toList args.toList ds p := hA0
  rw [Tryz.params3] at hA hval
  obtain ⟨v0, vs0, d0, ds0, p0, q0, hargs, rfl, rfl, h0, r0⟩ := trodAll_cons hA
  obtain ⟨rfl, rfl, rfl⟩ := trodAll_nil r0
  obtain rfl : args = #[v0] := by cases args; simp_all
  obtain ⟨rfl, rfl⟩ := trodVars_none hV
  have hb : Rows.uptoBulkAll [d0] ≤ 1048576 := by
    have h := of_decide_eq_true hk
    simpa using h
  simp only [Rows.uptoBulkAll] at hb
  obtain ⟨g, hg, hgi⟩ := open_gram (hval 0 25 v0 rfl rfl) h0 (by omega)
  refine (back_law0 hg hgi (max_shaped hsh)).mono fun e W' ⟨he, hb⟩ => ?_
  subst he
  exact ⟨_, rfl, law_post hW' rfl rfl rfl Tryz.underlying4 again_laid (by decide +kernel) hb (ok_one (by kernel_rfl) rfl (okWide_bool_mk Tryz.underlying4 _))⟩
theorem back_holds : Rows.GshowBackUptoSaid :=
  OpenClaim.holds_of_cond 3 Tryz.f3 rfl rfl rfl rfl rfl rfl rfl ⟨rfl, rfl, rfl, rfl, rfl⟩ rfl rfl rfl rfl rfl (by kernel_rfl) Tryz.func3 (by kernel_rfl)
    (of_decide_eq_true (by kernel_rfl)) (by unfold Func.isWrapper; first | (rw [if_pos (by decide +kernel)]; kernel_rfl) | (rw [if_neg (by decide +kernel)]; exact ⟨rfl, rfl⟩))
    (fun os started H enc _ F => back_lifted os started H enc F)
#print axioms back_holds
end Go.Proofs.YtdbmeocpjopdhaaGreat
