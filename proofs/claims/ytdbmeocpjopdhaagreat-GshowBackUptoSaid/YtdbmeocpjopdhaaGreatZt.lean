/- GshowAgain: a text that is read, shown, and read again, is one grammar; whatever the text. -/
import Derived.Test.YtdbmeocpjopdhaaGreatZs
import Derived.Test.YtdbmeocpjopdhaaGreatZa
import Derived.ChangeMaps5
import Derived.HandedShaped
import Derived.Shelf.Vars
namespace Go.Proofs.YtdbmeocpjopdhaaGreat
open Go.ChangeShapes Go.WideShapes Go.ChangeAt Go.RowKit
open Go.ChangeMaps (open_string)
set_option linter.unusedVariables false
theorem eql_err_nil (w : World) : (binOp .eql 33 .nilIface .nilIface).run Tryz.prog w = .ok (.bool true) w := by kernel_rfl
theorem same_has {w0 w1 w : World} {tv nv Rv tv2 nv2 Rv2 : Value} {g : PG} {R R2 : List RuG} (h : Has w0 w tv nv Rv g R) (h2 : Has w1 w tv2 nv2 Rv2 g R2) (hg : g.Good) : Calls Tryz.prog 11 #[.agg #[tv, nv, Rv, .int .i64 g.s], .agg #[tv2, nv2, Rv2, .int .i64 g.s]] w (Says w true) := by
  obtain ⟨e1, e2⟩ := like_same (like_has h) (like_has h2)
  exact same6_any (h.gram hg) (h2.gram hg) rfl rfl rfl e1 e2
set_option maxRecDepth 100000 in
set_option maxHeartbeats 3200000 in
theorem again_law0 (s : ByteArray) (hs : s.size ≤ 9223372036854775807) {w : World} (hm : HasMax w) : Calls Tryz.prog 4 #[.string s] w (Says w true) := by
  have HA := Lib.hid (fun y => awake_any y)
  have n1 := neq_err
  have n2 := neq_err_nil
  have n3 := eql_err_nil
  by_cases hlong : 2000 < s.size
  · have q1 : (2000 : Int) < (s.size : Int) := by omega
    clear hlong
    go_enter Tryz.func4, Tryz.ntmps4
    go_wp2_with (go_at_call 8; refine (HA.out _).mono ?_; rintro e w' ⟨rfl, hb⟩; have HB := Lib.hid hb; clear hb)
    go_ret
    exact ⟨rfl, HB.out⟩
  · have q1 : ¬ (2000 : Int) < (s.size : Int) := by omega
    have HP := Lib.hid (parse_any s (by omega) w hm)
    have HM := Lib.hid hm
    clear hlong hm
    cases hp : parseL s.data.toList with
    | error f =>
      rw [hp] at HP
      clear hp
      go_enter Tryz.func4, Tryz.ntmps4
      go_wp2_with fail
      refine HP.out.mono ?_
      rintro e w1 ⟨hb1, v, rfl, b, rfl, _⟩
      have HB1 := Lib.hid hb1
      have hw1 := hb1.size
      clear hb1
      go_wp2_with fail
      refine (HA.out _).mono ?_
      rintro e w2 ⟨rfl, hb2⟩
      have HB2 := Lib.hid ((HB1.out.trans ((below_alloc w1 _).mono hw1)).trans (hb2.mono (by simp; omega)))
      clear hb2
      go_wp2
      go_ret
      exact ⟨rfl, HB2.out⟩
    | ok g =>
      have HGD := Lib.hid (parse_good hp)
      rw [hp] at HP
      clear hp
      go_enter Tryz.func4, Tryz.ntmps4
      go_wp2_with fail
      refine HP.out.mono ?_
      rintro e w1 ⟨hb1, tv, nv, Rv, R, rfl, hhas⟩
      have HB1 := Lib.hid hb1
      have hw1 := hb1.size
      have HH := Lib.hid hhas
      have HX := Lib.hid (Blk.new w1 25 #[tv, nv, Rv, .int .i64 g.s])
      obtain ⟨A1, c1, rfl⟩ := own_shape hhas.ft
      obtain ⟨A2, c2, rfl⟩ := own_shape hhas.fn
      obtain ⟨A3, c3, rfl⟩ := own_shape hhas.fR
      have HSH := Lib.hid (fun y (hy : Below w1.heap.size w1 y) => (HH.out.later hy).shown HGD.out)
      have hx1 : w1.heap.size < (w1.alloc (.cells #[.slice A1 g.T.length c1, .slice A2 g.N.length c2, .slice A3 R.length c3, .int .i64 g.s] 25)).heap.size := by simp
      have HBX := Lib.hid (HB1.out.trans ((below_alloc w1 (.cells #[.slice A1 g.T.length c1, .slice A2 g.N.length c2, .slice A3 R.length c3, .int .i64 g.s] 25)).mono hw1))
      have x0 := HX.out.cell 0
      have x1 := HX.out.cell 1
      have x2 := HX.out.cell 2
      have x3 := HX.out.cell 3
      simp at x0 x1 x2 x3
      have HTX : Hid (parseL (str g.text).data.toList = parseL g.text) := Lib.hid (by rw [data_str])
      have hts : (str g.text).size = g.text.length := str_size _
      have HLEN : Hid (g.text.length ≤ 8192 → parseL g.text = .ok g) := Lib.hid HGD.out.parse
      clear hb1 hhas HP
      generalize htt : str g.text = t at *
      generalize hlt : g.text.length = lt at *
      go_wp2_with fail
      refine (HSH.out _ (below_alloc w1 _)).mono ?_
      rintro e w2 ⟨rfl, hb2⟩
      have HB2 := Lib.hid (HBX.out.trans (hb2.mono HBX.out.size))
      have HX2 := Lib.hid (HX.out.below hb2 hx1)
      have HR2 := Lib.hid (HH.out.later ((below_alloc w1 _).trans (hb2.mono (by simp))))
      have HS2 := Lib.hid hb2
      clear x0 x1 x2 x3 hb2
      by_cases h8 : 8192 < t.size
      · have q2 : (8192 : Int) < (t.size : Int) := by omega
        clear h8
        go_wp2_with fail
        refine (HA.out _).mono ?_
        rintro e w3 ⟨rfl, hb3⟩
        have HB3 := Lib.hid (HB2.out.trans (hb3.mono HB2.out.size))
        clear hb3
        go_wp2
        go_ret
        exact ⟨rfl, HB3.out⟩
      · have q2 : ¬ (8192 : Int) < (t.size : Int) := by omega
        have HP2 := Lib.hid (parse_any t (by omega) w2 (HM.out.later HB2.out))
        rw [HTX.out, HLEN.out (by omega)] at HP2
        clear h8
        go_wp2_with fail
        refine HP2.out.mono ?_
        rintro e w3 ⟨hb3, tv, nv, Rv, R2, rfl, hhas⟩
        have HB3 := Lib.hid (HB2.out.trans (hb3.mono HB2.out.size))
        have HX3 := Lib.hid (HX2.out.below hb3 HX2.out.lt)
        have HR3 := Lib.hid (HR2.out.later hb3)
        have HH3 := Lib.hid hhas
        have HY := Lib.hid (Blk.new w3 25 #[tv, nv, Rv, .int .i64 g.s])
        obtain ⟨D1, d1, rfl⟩ := own_shape hhas.ft
        obtain ⟨D2, d2, rfl⟩ := own_shape hhas.fn
        obtain ⟨D3, d3, rfl⟩ := own_shape hhas.fR
        have hw13 : w1.heap.size < w3.heap.size := HX3.out.lt
        have HXY := Lib.hid (HX3.out.alloc (.cells #[.slice D1 g.T.length d1, .slice D2 g.N.length d2, .slice D3 R2.length d3, .int .i64 g.s] 25))
        have hy1 : w3.heap.size < (w3.alloc (.cells #[.slice D1 g.T.length d1, .slice D2 g.N.length d2, .slice D3 R2.length d3, .int .i64 g.s] 25)).heap.size := by simp
        have HBY := Lib.hid (HB3.out.trans ((below_alloc w3 (.cells #[.slice D1 g.T.length d1, .slice D2 g.N.length d2, .slice D3 R2.length d3, .int .i64 g.s] 25)).mono HB3.out.size))
        have HSAME := Lib.hid (fun y (hy : Below w3.heap.size w3 y) => same_has (HR3.out.later hy) (HH3.out.later hy) HGD.out)
        have HSHW := Lib.hid (fun y (hy : Below w3.heap.size w3 y) => (HH3.out.later hy).shown HGD.out)
        rw [htt] at HSHW
        have x0 := HX3.out.cell 0
        have x1 := HX3.out.cell 1
        have x2 := HX3.out.cell 2
        have x3 := HX3.out.cell 3
        have y0 := HY.out.cell 0
        have y1 := HY.out.cell 1
        have y2 := HY.out.cell 2
        have y3 := HY.out.cell 3
        simp at x0 x1 x2 x3 y0 y1 y2 y3
        have hbt : (t.toList == t.toList) = true := beq_self_eq_true _
        clear hb3 hhas
        go_wp2_with fail
        refine (HSAME.out _ (below_alloc w3 _)).mono ?_
        rintro e w4 ⟨rfl, hb4⟩
        have HZ4 := Lib.hid (HY.out.below hb4 hy1)
        have HB4 := Lib.hid (HBY.out.trans (hb4.mono HBY.out.size))
        have HV4 := Lib.hid ((below_alloc w3 (.cells #[.slice D1 g.T.length d1, .slice D2 g.N.length d2, .slice D3 R2.length d3, .int .i64 g.s] 25)).trans (hb4.mono (by simp)))
        clear x0 x1 x2 x3 y0 y1 y2 y3 hb4
        have y0 := HZ4.out.cell 0
        have y1 := HZ4.out.cell 1
        have y2 := HZ4.out.cell 2
        have y3 := HZ4.out.cell 3
        simp at y0 y1 y2 y3
        go_wp2_with fail
        refine (HSHW.out _ HV4.out).mono ?_
        rintro e w5 ⟨rfl, hb5⟩
        have HB5 := Lib.hid (HB4.out.trans (hb5.mono HB4.out.size))
        clear hb5
        go_wp2_with fail
        refine (HA.out _).mono ?_
        rintro e w6 ⟨rfl, hb6⟩
        have HB6 := Lib.hid (HB5.out.trans (hb6.mono HB5.out.size))
        clear hb6
        go_wp2
        go_ret
        exact ⟨rfl, HB6.out⟩
theorem max_shaped {w : World} (h : w.ShapedOpen Tryz.prog) : HasMax w :=
  Go.Proofs.cell_of_shapedOpen_int (zero := #[.int .i64 0]) (t := 3) h (of_decide_eq_true (by kernel_rfl)) (by kernel_rfl) rfl (by kernel_rfl) (by kernel_rfl) Tryz.underlying3
theorem again_own : ownKnob Tryz.prog.godebug = none := by kernel_rfl
theorem again_laid : laidOutB Tryz.prog = true := by kernel_rfl
set_option maxRecDepth 100000 in
theorem again_lifted (os : Os) (started : os.Started) (H : Type) (enc : TypeId × Value → H) :
    ReturnsInHanded {} Tryz.checked os 4 .any (Rows.gshowAgainSpec.pre6 enc Tryz.prog Tryz.f4 Rows.gshowAgainRow.domain false) (Rows.gshowAgainSpec.post enc Tryz.prog Tryz.f4 false true false false) := by
  refine returnsInHanded_of_change_shaped (C := Tryz.checked) again_own started (by kernel_rfl) Tryz.func4
    (ChangeSpec.witness6 (enc := enc) (C := Tryz.checked) false ⟨#[], #[.string ByteArray.empty], []⟩ 8 (by kernel_rfl) (by kernel_rfl) (by kernel_rfl) (by kernel_rfl)) ?_
  intro W base args ds gs before hval0 hW hcnd _ hsh _
  have hval : ∀ (j : Nat) t v, Tryz.f4.params[j]? = some t → args[j]? = some v → Value.okWide Tryz.prog W .any base t v := hval0
  have hW' := hW
  obtain ⟨p, q, hA0, hV, rfl, hfz, hnd⟩ := hW
  have hA : DataW.TrodAll enc Tryz.prog W 0 (fun _ => true) true Tryz.f4.params.toList args.toList ds p := hA0
  rw [Tryz.params4] at hA hval
  obtain ⟨v0, vs0, d0, ds0, p0, q0, hargs, rfl, rfl, h0, r0⟩ := trodAll_cons hA
  obtain ⟨rfl, rfl, rfl⟩ := trodAll_nil r0
  obtain rfl : args = #[v0] := by cases args; simp_all
  obtain ⟨rfl, rfl⟩ := trodVars_none hV
  obtain ⟨a0, rfl, rfl, rfl, w0⟩ := open_string Tryz.underlying9 (hval 0 9 v0 rfl rfl) h0
  refine (again_law0 a0 (by unfold maxLen at w0; omega) (max_shaped hsh)).mono fun e W' ⟨he, hb⟩ => ?_
  subst he
  exact ⟨_, rfl, law_post hW' rfl rfl rfl Tryz.underlying4 again_laid (by decide +kernel) hb (ok_one (by kernel_rfl) rfl (okWide_bool_mk Tryz.underlying4 _))⟩
theorem again_over : Rows.gshowAgainRow.holds Tryz.pinned (OpenSpec.ofChange Rows.gshowAgainSpec) :=
  OpenClaim.holds_of_wide 4 Tryz.f4 rfl rfl rfl rfl rfl rfl rfl ⟨rfl, rfl, rfl, rfl, rfl⟩ rfl rfl rfl rfl rfl (by kernel_rfl) Tryz.func4 (by kernel_rfl)
    (of_decide_eq_true (by kernel_rfl)) (by unfold Func.isWrapper; first | (rw [if_pos (by decide +kernel)]; kernel_rfl) | (rw [if_neg (by decide +kernel)]; exact ⟨rfl, rfl⟩))
    (fun os started H enc _ => again_lifted os started H enc)
theorem again_holds : Rows.GshowAgainSaid := again_over
#print axioms again_holds
end Go.Proofs.YtdbmeocpjopdhaaGreat
