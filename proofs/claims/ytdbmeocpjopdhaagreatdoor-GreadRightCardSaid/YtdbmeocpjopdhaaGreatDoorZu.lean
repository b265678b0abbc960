/- conchlaw07's awake: two texts are read. GreadRight: what is read may be. -/
import Derived.Test.YtdbmeocpjopdhaaGreatDoorZs
import Derived.Test.YtdbmeocpjopdhaaGreatDoorZt
import Derived.Test.YtdbmeocpjopdhaaGreatDoorZq
import Derived.Test.YtdbmeocpjopdhaaGreatDoorZa
import Derived.Test.YtdbmeocpjopdhaaGreatDoorTie
import Derived.Test.YtdbmeocpjopdhaaGreatDoorCards
import Derived.ChangeMaps5
import Derived.HandedShaped
import Derived.Shelf.Vars
import Derived.LaidLaws
import Derived.LaidHandle
import Derived.Stop.Joined
import Derived.SevenTiedAt
namespace Go.Proofs.YtdbmeocpjopdhaaGreatDoor
open Go.RowKit
set_option linter.unusedVariables false
def awG : PG := ⟨[[65], [39, 120, 39]], [[115]], 3, [(3, [1, 3]), (3, [2])]⟩
theorem aw_first : parseL (ByteArray.mk #[37, 116, 111, 107, 101, 110, 32, 65, 32, 37, 115, 116, 97, 114, 116, 32, 115, 32, 37, 37, 32, 115, 32, 58, 32, 65, 32, 115, 32, 124, 32, 39, 120, 39, 32, 59]).data.toList = .ok awG := by kernel_rfl
theorem aw_second : parseL (ByteArray.mk #[37, 37, 32, 115, 32, 58, 32, 116, 32, 59]).data.toList = .error (9, 7) := by kernel_rfl
theorem eql_err_nil (w : World) : (binOp .eql 28 .nilIface .nilIface).run Tryz.prog w = .ok (.bool true) w := by kernel_rfl
theorem err_of {w : World} {v : Value} {f : Flt} (h : ErrAt w v f) : Err w v (some ((f.1 : Nat), (f.2 : Nat))) := by
  obtain ⟨b, rfl, hk⟩ := h
  have c0 := hk.cell 0
  have c1 := hk.cell 1
  simp at c0 c1
  exact ⟨0, some b, .place b _ _ c0 c1, b, rfl, c0, c1⟩
set_option maxRecDepth 100000 in
set_option maxHeartbeats 3200000 in
theorem awake7_any {w : World} (hm : HasMax w) (hg : HasType w) : Calls Tryz.prog 4 #[] w (Says w true) := by
  have n3 := eql_err_nil
  have HP1 := Lib.hid (parse_any { data := #[37, 116, 111, 107, 101, 110, 32, 65, 32, 37, 115, 116, 97, 114, 116, 32, 115, 32, 37, 37, 32, 115, 32, 58, 32, 65, 32, 115, 32, 124, 32, 39, 120, 39, 32, 59] } (by decide) w hm)
  have HP2 := Lib.hid (fun y (hy : Below w.heap.size w y) => parse_any { data := #[37, 37, 32, 115, 32, 58, 32, 116, 32, 59] } (by decide) y (hm.later hy))
  rw [aw_first] at HP1
  rw [aw_second] at HP2
  have HT := Lib.hid hg
  clear hm hg
  go_enter Tryz.func4, Tryz.ntmps4
  go_wp2_with fail
  refine HP1.out.mono ?_
  rintro e w1 ⟨hb1, tv, nv, Rv, R, rfl, hhas⟩
  have HB1 := Lib.hid hb1
  have hw1 := hb1.size
  obtain ⟨A1, c1, rfl⟩ := own_shape hhas.ft
  obtain ⟨A2, c2, rfl⟩ := own_shape hhas.fn
  have hR := hhas.r
  have hRR := hhas.fR
  have hri := hhas.rights
  obtain ⟨q0, q1, rfl, hq0⟩ : ∃ q0 q1, R = [q0, q1] ∧ q0.r.length = 2 := by
    rcases R with _ | ⟨q0, _ | ⟨q1, _ | ⟨q2, R⟩⟩⟩
    · simp [awG] at hR
    · simp [awG] at hR
    · refine ⟨q0, q1, rfl, ?_⟩
      have h1 : q0.g = (3, [1, 3]) := (List.cons.inj hR).1
      have h2 : q0.r = [1, 3] := congrArg Prod.snd h1
      rw [h2]; rfl
    · simp [awG] at hR
  rcases own_form hRR with ⟨_, h0⟩ | ⟨bR, c3, rfl, hbR, hltR, _⟩
  · simp at h0
  have k1 := own_cell hRR 1 (by simp)
  obtain ⟨A0, c0, hv0⟩ := own_shape (hri q0 (by simp))
  rw [hq0] at hv0
  simp [RuG.cells] at k1
  rw [hv0] at k1
  have HX := Lib.hid (Blk.new w1 26 #[.slice A1 2 c1, .slice A2 1 c2, .slice (some ⟨bR, 0, none⟩) 2 c3, .int .i64 3])
  have hx1 : w1.heap.size < (w1.alloc (.cells #[.slice A1 2 c1, .slice A2 1 c2, .slice (some ⟨bR, 0, none⟩) 2 c3, .int .i64 3] 26)).heap.size := by simp
  have HBX := Lib.hid (HB1.out.trans ((below_alloc w1 (.cells #[.slice A1 2 c1, .slice A2 1 c2, .slice (some ⟨bR, 0, none⟩) 2 c3, .int .i64 3] 26)).mono hw1))
  have HV := Lib.hid (below_alloc w1 (.cells #[.slice A1 2 c1, .slice A2 1 c2, .slice (some ⟨bR, 0, none⟩) 2 c3, .int .i64 3] 26))
  have HK := Lib.hid k1
  have HLT := Lib.hid hltR
  clear hb1 hhas hR hRR hri hbR hltR k1 hv0 hq0
  go_wp2_with fail
  refine (HP2.out _ HBX.out).mono ?_
  rintro e w2 ⟨hb2, v, rfl, hv⟩
  have HB2 := Lib.hid (HBX.out.trans (hb2.mono HBX.out.size))
  have HV2 := Lib.hid (HV.out.trans (hb2.mono HV.out.size))
  have HX2 := Lib.hid (HX.out.below hb2 hx1)
  have HE := Lib.hid (err_of hv)
  have k1 := (HV2.out.cell (p := ⟨bR, 1, none⟩) HLT.out).trans HK.out
  obtain ⟨b, rfl, _⟩ := hv
  have HC := Lib.hid (fun y (hy : Below w2.heap.size w2 y) => code_some (HE.out.later hy) (HT.out.later (HB2.out.trans (hy.mono HB2.out.size))))
  have HAT := Lib.hid (fun y (hy : Below w2.heap.size w2 y) => at_some (HE.out.later hy) (HT.out.later (HB2.out.trans (hy.mono HB2.out.size))))
  have x0 := HX2.out.cell 0
  have x1 := HX2.out.cell 1
  have x2 := HX2.out.cell 2
  have x3 := HX2.out.cell 3
  simp at x0 x1 x2 x3
  have HZ := Lib.hid (below_alloc w2 (.cells #[.slice none 0 0, .slice none 0 0, .slice none 0 0, .int .i64 0] 26))
  have y0 := (HZ.out.cell (p := ⟨w1.heap.size, 0, none⟩) HX2.out.lt).trans x0
  have y1 := (HZ.out.cell (p := ⟨w1.heap.size, 1, none⟩) HX2.out.lt).trans x1
  have y2 := (HZ.out.cell (p := ⟨w1.heap.size, 2, none⟩) HX2.out.lt).trans x2
  have y3 := (HZ.out.cell (p := ⟨w1.heap.size, 3, none⟩) HX2.out.lt).trans x3
  have y4 := (HZ.out.cell (p := ⟨bR, 1, none⟩) (World.block_lt_of_cell? w2 _ k1)).trans k1
  clear hb2 x0 x1 x2 x3 k1
  go_wp2_with fail
  refine (HC.out _ HZ.out).mono ?_
  rintro e w3 ⟨rfl, hb3⟩
  have HB3 := Lib.hid ((HB2.out.trans (HZ.out.mono HB2.out.size)).trans (hb3.mono (by have := HB2.out.size; simp; omega)))
  have HZ3 := Lib.hid (HZ.out.trans (hb3.mono HZ.out.size))
  clear hb3 y0 y1 y2 y3 y4
  go_wp2_with fail
  refine (HAT.out _ HZ3.out).mono ?_
  rintro e w4 ⟨rfl, hb4⟩
  have HB4 := Lib.hid (HB3.out.trans (hb4.mono HB3.out.size))
  clear hb4
  go_wp2
  go_ret
  exact ⟨rfl, HB4.out⟩
end Go.Proofs.YtdbmeocpjopdhaaGreatDoor

namespace Go.Proofs.YtdbmeocpjopdhaaGreatDoor
open Go.ChangeShapes Go.WideShapes Go.ChangeAt Go.RowKit
open Go.ChangeMaps (open_string)
set_option linter.unusedVariables false
theorem name_24 {s : Nme} (h : (okName s || quotedB s) = true) : s.length ≤ 100 := by
  rw [Bool.or_eq_true] at h
  rcases h with h | h
  · obtain ⟨c, r, rfl, _, _, h24⟩ := name_parts h
    omega
  · obtain ⟨m, rfl, _, _, h23⟩ := quoted_parts h
    simp
    omega
theorem zero_gram (w : World) : GrR w (.agg #[.slice none 0 0, .slice none 0 0, .slice none 0 0, .int .i64 0]) ⟨[], [], 0, []⟩ := by
  have hn : ∀ {α : Type} (E : α → Value), Arr E w (.slice none 0 0) ([] : List α) := fun E => ⟨⟨none, 0, rfl, fun k x hx => by simp at hx⟩, by simp, fun A n c e => by cases e; exact ⟨Nat.le_refl _, fun _ => rfl⟩⟩
  have hr : Rul w (.slice none 0 0) [] := ⟨⟨none, 0, rfl, fun k x hx => by simp at hx⟩, by simp, fun A n c e => by cases e; exact ⟨Nat.le_refl _, fun _ => rfl⟩⟩
  refine ⟨⟨_, _, _, rfl, hn _, hn _, hr⟩, ?_, ?_, ?_, ?_, ?_, ?_⟩ <;> simp
theorem same_zero (w : World) : Calls Tryz.prog 6 #[.agg #[.slice none 0 0, .slice none 0 0, .slice none 0 0, .int .i64 0], .agg #[.slice none 0 0, .slice none 0 0, .slice none 0 0, .int .i64 0]] w (Says w true) :=
  same6_any (zero_gram w) (zero_gram w) rfl rfl rfl rfl (fun k a b ha => by simp at ha)
theorem right_big {g : PG} {R : List RuG} {w0 w : World} {tv nv Rv : Value} (h : Has w0 w tv nv Rv g R) (hg : g.Good) : 0 < (Gm.ofP g (R.map RuG.ru)).T.length + (Gm.ofP g (R.map RuG.ru)).N.length + (Gm.ofP g (R.map RuG.ru)).R.length := by
  have h8 := hg.g8
  have e2 : (Gm.ofP g (R.map RuG.ru)).N.length = g.N.length := List.length_map ..
  omega
theorem has_much {g : PG} {R : List RuG} {w0 w : World} {tv nv Rv : Value} (h : Has w0 w tv nv Rv g R) (hg : g.Good) : Calls Tryz.prog 9 #[.agg #[tv, nv, Rv, .int .i64 g.s]] w fun e w' => ∃ n : Int, e = .returned (.int .i64 n) ∧ 0 < n ∧ Below w.heap.size w w' := by
  have g1 := hg.g1
  have g2 := hg.g2
  have g3 := hg.g3
  have h8 := has_right h hg
  have hRl : R.length = g.R.length := by rw [← h.r, List.length_map]
  refine much_pos (h.gram hg) (right_big h hg) ?_ ?_ ?_ ?_ ?_ ?_
  · show (g.T.map str).length ≤ _
    rw [List.length_map]; omega
  · show (g.N.map str).length ≤ _
    rw [List.length_map]; omega
  · show (R.map RuG.ru).length ≤ _
    rw [List.length_map]; omega
  · intro s hs
    obtain ⟨t, ht, rfl⟩ := List.mem_map.1 hs
    rw [str_size]
    exact Nat.le_trans (name_24 (hg.g5 t ht)) (by omega)
  · intro s hs
    obtain ⟨t, ht, rfl⟩ := List.mem_map.1 hs
    rw [str_size]
    exact Nat.le_trans (name_24 (by rw [hg.g6 t ht]; rfl)) (by omega)
  · intro r hr
    obtain ⟨q, hq, rfl⟩ := List.mem_map.1 hr
    have := h8 q hq
    show (q.r.map fun n : Nat => (n : Int)).length ≤ _
    rw [List.length_map]
    omega
set_option maxRecDepth 100000 in
set_option maxHeartbeats 3200000 in
theorem right_law0 (s : ByteArray) (hs : s.size ≤ 9223372036854775807) {w : World} (hm : HasMax w) (hg : HasType w) : Calls Tryz.prog 3 #[.string s] w (Says w true) := by
  have HA : Hid (∀ y, Below w.heap.size w y → Calls Tryz.prog 4 #[] y (Says y true)) := Lib.hid (fun y hy => awake7_any (hm.later hy) (hg.later hy))
  have n1 := neq_err
  have n2 := neq_err_nil
  by_cases hlong : 3000 < s.size
  · have q1 : (3000 : Int) < (s.size : Int) := by omega
    clear hlong hm hg
    go_enter Tryz.func3, Tryz.ntmps3
    go_wp2_with fail
    refine (HA.out _ (Below.refl _ _)).mono ?_
    rintro e w1 ⟨rfl, hb⟩
    have HB := Lib.hid hb
    clear hb
    go_wp2
    go_ret
    exact ⟨rfl, HB.out⟩
  · have q1 : ¬ (3000 : Int) < (s.size : Int) := by omega
    have HP := Lib.hid (parse_any s (by omega) w hm)
    clear hlong hm hg
    cases hp : parseL s.data.toList with
    | error f =>
      rw [hp] at HP
      clear hp
      go_enter Tryz.func3, Tryz.ntmps3
      go_wp2_with fail
      refine HP.out.mono ?_
      rintro e w1 ⟨hb1, v, rfl, b, rfl, _⟩
      have HB1 := Lib.hid hb1
      have hw1 := hb1.size
      have HSZ := Lib.hid (fun y => same_zero y)
      have HBX := Lib.hid (HB1.out.trans ((below_alloc w1 (.cells #[.slice none 0 0, .slice none 0 0, .slice none 0 0, .int .i64 0] 26)).mono hw1))
      clear hb1
      go_wp2_with fail
      refine (HSZ.out _).mono ?_
      rintro e w2 ⟨rfl, hb2⟩
      have HB2 := Lib.hid (HBX.out.trans (hb2.mono HBX.out.size))
      clear hb2
      go_wp2_with fail
      refine (HA.out _ HB2.out).mono ?_
      rintro e w3 ⟨rfl, hb3⟩
      have HB3 := Lib.hid (HB2.out.trans (hb3.mono HB2.out.size))
      clear hb3
      go_wp2
      go_ret
      exact ⟨rfl, HB3.out⟩
    | ok g =>
      have HGD := Lib.hid (parse_good hp)
      rw [hp] at HP
      clear hp
      go_enter Tryz.func3, Tryz.ntmps3
      go_wp2_with fail
      refine HP.out.mono ?_
      rintro e w1 ⟨hb1, tv, nv, Rv, R, rfl, hhas⟩
      have HB1 := Lib.hid hb1
      have hw1 := hb1.size
      have HH := Lib.hid hhas
      have HCK := Lib.hid (fun y (hy : Below w1.heap.size w1 y) => (check_ofP HGD.out (like_has hhas)).1 ▸ check_any ((HH.out.later hy).gram HGD.out))
      have HOR := Lib.hid (fun y (hy : Below w1.heap.size w1 y) => (check_ofP HGD.out (like_has hhas)).2 ▸ ord_any ((HH.out.later hy).gram HGD.out))
      have HMU := Lib.hid (fun y (hy : Below w1.heap.size w1 y) => has_much (HH.out.later hy) HGD.out)
      have HX := Lib.hid (Blk.new w1 26 #[tv, nv, Rv, .int .i64 g.s])
      obtain ⟨A1, c1, rfl⟩ := own_shape hhas.ft
      obtain ⟨A2, c2, rfl⟩ := own_shape hhas.fn
      obtain ⟨A3, c3, rfl⟩ := own_shape hhas.fR
      have hx1 : w1.heap.size < (w1.alloc (.cells #[.slice A1 g.T.length c1, .slice A2 g.N.length c2, .slice A3 R.length c3, .int .i64 g.s] 26)).heap.size := by simp
      have HBX := Lib.hid (HB1.out.trans ((below_alloc w1 (.cells #[.slice A1 g.T.length c1, .slice A2 g.N.length c2, .slice A3 R.length c3, .int .i64 g.s] 26)).mono hw1))
      have HV := Lib.hid (below_alloc w1 (.cells #[.slice A1 g.T.length c1, .slice A2 g.N.length c2, .slice A3 R.length c3, .int .i64 g.s] 26))
      have x0 := HX.out.cell 0
      have x1 := HX.out.cell 1
      have x2 := HX.out.cell 2
      have x3 := HX.out.cell 3
      simp at x0 x1 x2 x3
      clear hb1 hhas HP
      generalize g.T.length = gT at *
      generalize g.N.length = gN at *
      generalize g.s = gs at *
      go_wp2_with fail
      refine (HCK.out _ HV.out).mono ?_
      rintro e w2 ⟨rfl, hb2⟩
      have HB2 := Lib.hid (HBX.out.trans (hb2.mono HBX.out.size))
      have HX2 := Lib.hid (HX.out.below hb2 hx1)
      have HV2 := Lib.hid (HV.out.trans (hb2.mono HV.out.size))
      clear x0 x1 x2 x3 hb2
      have x0 := HX2.out.cell 0
      have x1 := HX2.out.cell 1
      have x2 := HX2.out.cell 2
      have x3 := HX2.out.cell 3
      simp at x0 x1 x2 x3
      go_wp2_with fail
      refine (HOR.out _ HV2.out).mono ?_
      rintro e w3 ⟨rfl, hb3⟩
      have HB3 := Lib.hid (HB2.out.trans (hb3.mono HB2.out.size))
      have HX3 := Lib.hid (HX2.out.below hb3 HX2.out.lt)
      have HV3 := Lib.hid (HV2.out.trans (hb3.mono HV2.out.size))
      clear x0 x1 x2 x3 hb3
      have x0 := HX3.out.cell 0
      have x1 := HX3.out.cell 1
      have x2 := HX3.out.cell 2
      have x3 := HX3.out.cell 3
      simp at x0 x1 x2 x3
      go_wp2_with fail
      refine (HMU.out _ HV3.out).mono ?_
      rintro e w4 ⟨n, rfl, hn, hb4⟩
      have HB4 := Lib.hid (HB3.out.trans (hb4.mono HB3.out.size))
      clear x0 x1 x2 x3 hb4
      go_wp2_with fail
      refine (HA.out _ HB4.out).mono ?_
      rintro e w5 ⟨rfl, hb5⟩
      have HB5 := Lib.hid (HB4.out.trans (hb5.mono HB4.out.size))
      clear hb5
      go_wp2
      go_ret
      exact ⟨rfl, HB5.out⟩
theorem max_shaped {w : World} (h : w.ShapedOpen Tryz.prog) : HasMax w :=
  Go.Proofs.cell_of_shapedOpen_int (zero := #[.int .i64 0]) (t := 3) h (of_decide_eq_true (by kernel_rfl)) (by kernel_rfl) rfl (by kernel_rfl) (by kernel_rfl) Tryz.underlying3
theorem right_own : ownKnob Tryz.prog.godebug = none := by kernel_rfl
theorem right_laid : laidOutB Tryz.prog = true := by kernel_rfl
theorem et_named : Tryz.prog.globalNamed "errors.errorType" = some 0 := by kernel_rfl
theorem rt_named : (Tryz.prog.cutTypes.find? (·.1 == "internal/reflectlite.rtype")).map (·.2) = some 130 := by kernel_rfl
theorem one_row : ((List.range Tryz.prog.types.size).filter fun t => Tryz.prog.rowNamed t [101, 114, 114, 111, 114]) = [28] := by kernel_rfl
theorem hasType_of_laid {W : World} (h : laidMetH Tryz.prog Rows.greadRightRow.laid W) : HasType W := by
  have h' : laidMet Tryz.prog [] W ∧ handlesMet Tryz.prog Rows.greadRightRow.laid W := h
  obtain ⟨name, u, ty, e1, e2, e3, e4, e5⟩ := h'.2 _ (List.mem_singleton.2 rfl)
  have en : name = [101, 114, 114, 111, 114] := (Option.some.inj e1).symm
  subst en
  obtain rfl := Option.some.inj (rt_named.symm.trans e2)
  have hm : ty ∈ (List.range Tryz.prog.types.size).filter fun t => Tryz.prog.rowNamed t [101, 114, 114, 111, 114] := List.mem_filter.2 ⟨List.mem_range.2 e3, e4⟩
  rw [one_row] at hm
  obtain rfl := List.mem_singleton.1 hm
  have hh : typeHandle Tryz.prog 28 = .pointer (some ⟨2, 28, none⟩) := by kernel_rfl
  rw [hh] at e5
  have := World.var?_cell et_named e5 0
  simp at this
  exact this
/-- A world that meets the condition: the settled one, the variable's cell laid. -/
noncomputable def laidWorld (os : Os) : World :=
  let w0 := World.holding Tryz.prog os ⟨#[], #[], []⟩
  { w0 with heap := w0.heap.modify 0 fun
      | .cells _ t frozen => .cells #[.iface 130 (.agg #[.pointer (some ⟨2, 28, none⟩)])] t frozen
      | o => o }
theorem laidWorld_met (os : Os) (args : Array Value) : laidMetH Tryz.prog Rows.greadRightRow.laid ((laidWorld os).forCall (fun _ _ => 0) ⟨#[], args, []⟩).memory :=
  laidMetH_of_parts (laidMet_nil _ _) (by kernel_rfl)
/-- As returnsInHanded_of_change_and, the world's shape kept. -/
theorem handed_and_shaped {H : Type} {enc : TypeId × Value → H} {a : Assume} {C : Checked} {os : Os} {f : FuncId} {fn : Func} {s : ChangeSpec} {conds : List PathCond} {apart fresh handsOn again : Bool} {X : World → Array Value → Prop}
    (hX : ∀ (w w' : World) (args : Array Value), w.heap = w'.heap → X w args → X w' args)
    (own : ownKnob C.prog.godebug = none) (started : os.Started) (noInit : C.prog.inits.idxOf? f = none) (hfn : C.prog.funcs[f]? = some fn)
    (witness : ∃ (w : World) (tape : Tape) (i : Input), w.os = os ∧ (w.forCall tape i).Shaped C.prog ∧ i.vars = [] ∧ Input.okWide C.prog (w.forCall tape i) .any w.heap.size f i ∧
      ((s.pre enc C.prog fn conds apart (w.forCall tape i).memory i.args ∧ X (w.forCall tape i).memory i.args) ∧ sizedMet enc C.prog fn (OpenSpec.ofChange s) apart (w.forCall tape i).memory i.args) ∧ a.holds C.prog (lone (Frame.enter C.prog f i.args .normal) [] (w.forCall tape i)))
    (contract : ∀ (W : World) (base : Nat) (args : Array Value) (ds gs : List (DataW H)) (before : List MemPlace),
      (∀ (j : Nat) t v, fn.params[j]? = some t → args[j]? = some v → Value.okWide C.prog W .any base t v) →
      DataW.Whole enc C.prog fn.params.toList s.vars apart W args.toList ds gs before → W.ShapedOpen C.prog → X W args →
      Calls C.prog f args W fun e W' => ∃ v, e = .returned v ∧ s.post enc C.prog fn apart fresh handsOn again W args v W') :
    ReturnsInHanded a C os f .any (fun w args => (s.pre enc C.prog fn conds apart w args ∧ X w args) ∧ sizedMet enc C.prog fn (OpenSpec.ofChange s) apart w args) (s.post enc C.prog fn apart fresh handsOn again) := by
  refine returnsInHanded_of_calls own started noInit witness ?_
  intro w tape i _ hsh _ hok hpre _
  obtain ⟨_, _, _, fn', hfn', _, _, _, _, hval⟩ := hok
  have e : fn' = fn := Option.some.inj (hfn'.symm.trans hfn)
  subst e
  obtain ⟨⟨⟨ds, gs, before, hw, hc⟩, hx⟩, hz⟩ := hpre
  have hw' := DataW.Whole.of_heap (w' := w.forCall tape i) (by rfl) hw
  refine (contract (w.forCall tape i) w.heap.size i.args ds gs before hval hw' hsh (hX _ _ _ (by rfl) hx)).mono fun e W' ⟨v, he, hp⟩ => ?_
  subst he
  exact ChangeSpec.post_blind hp
set_option maxRecDepth 100000 in
theorem right_lifted (os : Os) (started : os.Started) (H : Type) (enc : TypeId × Value → H) :
    ReturnsInHanded {} Tryz.checked os 3 .any (fun w args => (Rows.greadRightSpec.pre enc Tryz.prog Tryz.f3 Rows.greadRightRow.domain false w args ∧ laidMetH Tryz.prog Rows.greadRightRow.laid w) ∧ sizedMet enc Tryz.prog Tryz.f3 (OpenSpec.ofChange Rows.greadRightSpec) false w args)
      (Rows.greadRightSpec.post enc Tryz.prog Tryz.f3 false true false false) := by
  refine handed_and_shaped (C := Tryz.checked) (X := fun w _ => laidMetH Tryz.prog Rows.greadRightRow.laid w) (fun _ _ _ hh h => h.of_heap hh) right_own started (by kernel_rfl) Tryz.func3
    (ChangeSpec.witness_at (enc := enc) (C := Tryz.checked) (os := os) (X := fun w _ => laidMetH Tryz.prog Rows.greadRightRow.laid w) false (laidWorld os) #[.string ByteArray.empty] 8 rfl (by kernel_rfl) (by kernel_rfl) (by kernel_rfl) (by kernel_rfl) (by kernel_rfl) (laidWorld_met os _)) ?_
  intro W base args ds gs before hval0 hW hsh hL
  have hval : ∀ (j : Nat) t v, Tryz.f3.params[j]? = some t → args[j]? = some v → Value.okWide Tryz.prog W .any base t v := hval0
  have hW' := hW
  obtain ⟨p, q, hA0, hV, rfl, hfz, hnd⟩ := hW
  have hA : DataW.TrodAll enc Tryz.prog W 0 (fun _ => true) true Tryz.f3.params.toList args.toList ds p := hA0
  rw [Tryz.params3] at hA hval
  obtain ⟨v0, vs0, d0, ds0, p0, q0, hargs, rfl, rfl, h0, r0⟩ := trodAll_cons hA
  obtain ⟨rfl, rfl, rfl⟩ := trodAll_nil r0
  obtain rfl : args = #[v0] := by cases args; simp_all
  obtain ⟨rfl, rfl⟩ := trodVars_none hV
  obtain ⟨a0, rfl, rfl, rfl, w0⟩ := open_string Tryz.underlying9 (hval 0 9 v0 rfl rfl) h0
  refine (right_law0 a0 (by unfold maxLen at w0; omega) (max_shaped hsh) (hasType_of_laid hL)).mono fun e W' ⟨he, hb⟩ => ?_
  subst he
  exact ⟨_, rfl, law_post hW' rfl rfl rfl Tryz.underlying4 right_laid (by decide +kernel) hb (ok_one (by kernel_rfl) rfl (okWide_bool_mk Tryz.underlying4 _))⟩
theorem right_row : Rows.GreadRightSaid :=
  OpenClaim.holds_of_wide 3 Tryz.f3 rfl rfl rfl rfl rfl rfl rfl ⟨rfl, rfl, rfl, rfl, rfl⟩ rfl rfl rfl rfl rfl (by kernel_rfl) Tryz.func3 (by kernel_rfl)
    (of_decide_eq_true (by kernel_rfl)) (by unfold Func.isWrapper; first | (rw [if_pos (by decide +kernel)]; kernel_rfl) | (rw [if_neg (by decide +kernel)]; exact ⟨rfl, rfl⟩))
    (fun os started H enc _ => right_lifted os started H enc)
theorem right_holds : Rows.GreadRightCardSaid :=
  Claim7.holds_tied_plain_at .later [] [.handle] true _ true
    right_row (fun _ h => by cases h) (by kernel_rfl) (fun _ h => by cases h) greadRight_row_tie rfl ⟨rfl, rfl⟩ (by kernel_rfl) rfl
    (fun f fn hf hfn => by
      obtain rfl : f = 3 := Option.some.inj ((show Tryz.prog.funcNamed "conch/conchlaw07.GreadRight" = some 3 by kernel_rfl).symm.trans hf) |>.symm
      obtain rfl : fn = Tryz.f3 := (Option.some.inj (Tryz.func3.symm.trans hfn)).symm
      exact ⟨by kernel_rfl, fun j t ht => by
        rw [Tryz.params3] at ht
        have h3 : t = 9 := by
          rcases j with _ | j
          · simpa using ht.symm
          · simp at ht
        subst h3
        exact (show Tryz.prog.wantsStandIn 9 = false by kernel_rfl)⟩)
    (by kernel_rfl)
#print axioms right_holds
end Go.Proofs.YtdbmeocpjopdhaaGreatDoor
