/- WordmCmds, the way on which commands are waited for. -/
import Derived.Test.YtpadnckmheippaaS28
import Derived.Deep.RegionHeld3
import Derived.Deep.DeepCutAuto
namespace Go.Proofs.Ytpadnckmheippaa
open Go.RowKit
set_option linter.unusedVariables false
theorem node_info : ∃ i z, Try.prog.info? 118 = some i ∧ i.zero = some z ∧ i.bytes ≤ 1000 := by
  have h : (match Try.prog.info? 118 with
    | some i => i.zero.isSome && decide (i.bytes ≤ 1000)
    | none => false) = true := by kernel_rfl
  revert h
  cases hi : Try.prog.info? 118 with
  | none => intro h; cases h
  | some i =>
    intro h
    simp only [Bool.and_eq_true, decide_eq_true_eq] at h
    obtain ⟨z, hz⟩ := Option.isSome_iff_exists.1 h.1
    exact ⟨i, z, rfl, hz, h.2⟩
theorem make_nodes (q : Nat) (hq : q ≤ 4) : ∃ CS : Array Value, ∀ y : World, (Instr.makeSlice 41 (.int .i64 (q : Int)) (.int .i64 (q : Int))).run Try.prog y = .ok (.slice (some ⟨y.heap.size, 0, none⟩) q q) (y.alloc (.cells CS 118)) := by
  obtain ⟨i, z, hi, hz, hb⟩ := node_info
  refine ⟨madeCells z.cells (q * i.size), fun y => ?_⟩
  have hbb : (i.bytes : Int) * (q : Int) ≤ 281474976710656 := by
    have h1 : i.bytes * q ≤ 1000 * 4 := Nat.mul_le_mul hb hq
    have h2 : ((i.bytes * q : Nat) : Int) = (i.bytes : Int) * (q : Int) := Int.natCast_mul _ _
    omega
  have h := run_make (P := Try.prog) y 41 118 i z Try.underlying41 hi hz .i64 .i64 q q (by omega) (Int.le_refl _) hbb (by omega)
  simp only [Int.toNat_natCast] at h
  exact h
theorem ext4 (o : List UInt8) : (⟨(40 :: 48 :: 41 :: 41 :: o).toArray⟩ : ByteArray).extract 4 (o.length + 1 + 1 + 1 + 1) = ⟨o.toArray⟩ := by
  apply ByteArray.ext
  apply Array.ext'
  rw [Lib.extract_data]
  simp
/-- Both machines behind k bytes more. -/
def CmdsAt (w : World) (gm gx : Nat) (m x : MS) (l : List UInt8) (k : Nat) (wr : World) : Prop := Pair wr w.heap.size gm gx (m.run (l.take k)) (x.run (l.take k)) ∧ m.goes (l.take k) ∧ Below w.heap.size w wr
def BothAt (w wr : World) (gm gx : Nat) (m x : MS) (wx : World) : Prop := Pair wx w.heap.size gm gx m x ∧ Below w.heap.size wr wx
section
variable (s t : ByteArray) (n : Int) (w : World)
variable (hs : s.size ≤ 300) (ht : t.size ≤ 300) (hn0 : 0 ≤ n) (hn1 : n ≤ 255) (hg : ({} : MS).goes (s.data.toList ++ [36, 40])) {m : MS} (hm : ({} : MS).run (s.data.toList ++ [36, 40]) = m)
include hs ht hg hm hn0 hn1
set_option maxRecDepth 100000 in
set_option maxHeartbeats 3200000 in
theorem cmds_waits (hr : m.raw = false) (h3 : m.kind = 3) (q : Nat) (hq : n % 5 = (q : Int)) (hq5 : q ≤ 4) : Calls Try.prog 6 #[.string s, .string t, .int .u8 n] w (LawEnd w) := by
  obtain ⟨hgd, hk⟩ := cmds_good s hs hg hm
  have HF2 := fed_went s [36, 40] (by omega) (by simp) hg w
  rw [hm] at HF2
  have hrest := wait_rest h3
  have hol : (m.turn 15).rest.length ≤ 8000010 := by have := rest_len (m.turn 15); have := hgd.sz; rw [turn_sz] at *; omega
  generalize hO : (m.turn 15).rest = o at *
  have HF := Lib.hid HF2
  have HR := Lib.hid hr
  have HRS := Lib.hid hrest
  have HO := Lib.hid hO
  have HK := Lib.hid hk
  have HGD := Lib.hid hgd
  have H3 := Lib.hid h3
  have HQ := Lib.hid hq
  have HGO := Lib.hid hg
  have HC00 : Hid (m.cmdsOf = []) := Lib.hid (by rw [← hm]; exact run_cmds {} 0 Good.new _)
  have HMR := Lib.hid hm
  clear hgd hk hg hm hr HF2 hrest hO h3 hq
  go_enter Try.func6, Try.ntmps6
  go_wp2_with fail
  refine HF.out.mono ?_
  rintro e w1 ⟨rfl, hm⟩
  have HM := Lib.hid hm
  clear hm
  go_wp2_with fail
  refine (alive_raw HM.out.alive (Nat.le_trans HK.out (by decide))).mono ?_
  rw [HR.out]
  rintro e w2 ⟨rfl, rfl⟩
  go_wp2_with fail
  refine (made_rest HM.out HGD.out (by decide) (Nat.le_trans HK.out (by decide))).mono ?_
  rw [HRS.out]
  rintro e w2 ⟨rfl, hm⟩
  have HM2 := Lib.hid hm
  clear HM hm
  go_wp2_with fail
  refine (made_rest HM2.out HGD.out (by decide) (Nat.le_trans HK.out (by decide))).mono ?_
  rw [HRS.out]
  rintro e w3 ⟨rfl, hm⟩
  have HM3 := Lib.hid hm
  clear HM2 hm
  go_wp2_with fail
  refine (made_rest HM3.out HGD.out (by decide) (Nat.le_trans HK.out (by decide))).mono ?_
  rw [HRS.out]
  rintro e w4 ⟨rfl, hm⟩
  have HM4 := Lib.hid hm
  clear HM3 hm
  have hex := ext4 o
  obtain ⟨CS, hmk⟩ := make_nodes q hq5
  have HMK := Lib.hid hmk
  clear hmk
  go_wp2_with fail
  clear hex
  have hf1 := made_feed HM4.out HGD.out (by decide) 97
  rw [wait_feed H3.out] at hf1
  refine hf1.mono ?_
  clear hf1
  rintro e w5 ⟨rfl, hm⟩
  have HM5 := Lib.hid hm
  clear HM4 hm
  have HG15 : Hid (Good 4000 (m.turn 15)) := Lib.hid ⟨HGD.out.ok, (by show 15 ≤ 17; decide), HGD.out.sz⟩
  go_wp2_with fail
  have hf1 := made_feed HM5.out HG15.out (by decide) 97
  rw [wait_again] at hf1
  refine hf1.mono ?_
  clear hf1
  rintro e w6 ⟨rfl, hm⟩
  have HM6 := Lib.hid hm
  clear HM5 hm
  go_wp2_with fail
  refine (made_rest HM6.out HG15.out (by decide) (Nat.le_refl _)).mono ?_
  rw [HO.out]
  rintro e w7 ⟨rfl, hm⟩
  have HM7 := Lib.hid hm
  clear HM6 hm
  have hq := HQ.out
  have hmk := HMK.out
  go_wp2_with fail
  clear hq hmk
  have HM8 := Lib.hid (HM7.out.below (below_alloc w7 (.cells CS 118)))
  clear HM7
  refine (made_close HM8.out rfl HG15.out (by decide) (some ⟨w7.heap.size, 0, none⟩) q q).mono ?_
  rintro e w8 ⟨rfl, hm⟩
  have HM9 := Lib.hid hm
  clear HM8 hm
  go_wp2_with fail
  refine (close_no HM9.out.alive (by show (0 : Nat) ≠ 15; decide) (.slice none 0 0)).mono ?_
  rintro e w9 ⟨rfl, rfl⟩
  generalize hcv : Value.slice (some ⟨w7.heap.size, 0, none⟩) q q = cv at *
  obtain ⟨hgx, htw⟩ := wait_twin H3.out cv trivial
  have hg3 := HGD.out.closed cv
  generalize hm3 : (((m.turn 15).add (.mk 6 [] [] [] cv)).turn 0) = m3 at *
  generalize hx1 : m.run [40, 48, 41, 41] = x1 at *
  have HCV := Lib.hid hcv
  have HM3E := Lib.hid hm3
  have HX1E := Lib.hid hx1
  have HGX := Lib.hid hgx
  have HTW := Lib.hid htw
  have HK3 : Hid (m3.kind ≤ 14) := Lib.hid (by rw [← hm3]; exact Nat.zero_le 14)
  have HGX1 : Hid (Good 4100 x1) := Lib.hid (hx1 ▸ (Good.run HGD.out _).mono (by decide))
  have HG3 := Lib.hid hg3
  have hfed : ({} : MS).fed (s.data.toList ++ [36, 40, 40, 48, 41, 41]) = (x1, s.size + 6, 0) := by
    have h1 : s.data.toList ++ [36, 40, 40, 48, 41, 41] = (s.data.toList ++ [36, 40]) ++ [40, 48, 41, 41] := by simp
    rw [h1, fed_all _ _ ((goes_app _ _ _).2 ⟨HGO.out, by rw [HMR.out]; exact hgx⟩), mrun_app, HMR.out, hx1]
    simp
  have hpf := pair_fed (s ++ ⟨#[36, 40, 40, 48, 41, 41]⟩) (by rw [show (⟨#[36, 40, 40, 48, 41, 41]⟩ : ByteArray) = ⟨[36, 40, 40, 48, 41, 41].toArray⟩ from rfl, size2]; simp; omega) HM9.out
  rw [show (s ++ ⟨#[36, 40, 40, 48, 41, 41]⟩ : ByteArray).data.toList = s.data.toList ++ [36, 40, 40, 48, 41, 41] from str2 s [36, 40, 40, 48, 41, 41], hfed] at hpf
  have HPF := Lib.hid hpf
  have HB8 := Lib.hid HM9.out.frame
  clear hcv hm3 hx1 hgx htw hg3 hfed hpf HM9
  go_wp2_with fail
  refine HPF.out.mono ?_
  rintro e wa ⟨rfl, hp, hb⟩
  have HC0 : Hid (CmdsAt w (w.heap.size + 1) (w8.heap.size + 1) m3 x1 t.data.toList 0 wa) := Lib.hid ⟨hp, trivial, HB8.out.trans hb⟩
  clear hp hb HPF HB8
  generalize hgm : w.heap.size + 1 = gm at *
  generalize hgx : w8.heap.size + 1 = gx at *
  clear hgm hgx
  go_wp2
  go_loopw [14, 15, 16] (fun i _ _ wr => ∃ k : Nat, k ≤ t.size ∧ i = .int .i64 k ∧ CmdsAt w gm gx m3 x1 t.data.toList k wr) (fun i _ _ _ => t.size - (intOf i).toNat)
  case atStart => exact ⟨0, Nat.zero_le _, rfl, HC0.out⟩
  case round =>
    obtain ⟨k, hk, rfl, hpair, hgoes, hbw⟩ := hrel
    clear HC0
    by_cases hlt : k < t.size
    · have hgm : Good 8000 (m3.run (t.data.toList.take k)) := (Good.run HG3.out _).mono (by simp; omega)
      have htm := run_alike HTW.out HG3.out (t.data.toList.take k)
      have HTS := Lib.hid (take_snoc t k hlt)
      have HP := Lib.hid hpair
      have HGL := Lib.hid hgoes
      have HB := Lib.hid hbw
      have HGM := Lib.hid hgm
      have HTM := Lib.hid htm
      clear hpair hgoes hbw hgm htm
      have hk0 : (0 : Int) ≤ (k : Int) := Int.natCast_nonneg _
      have hk1 : (k : Int) < (t.size : Int) := by omega
      have hga : Good 8000 (x1.run (t.data.toList.take k)) := (Good.run HGX1.out _).mono (by simp; omega)
      have hfa := feed_alike HTM.out HGM.out.kind t[k]
      have HFA := Lib.hid hfa
      have HGA := Lib.hid hga
      clear hga hfa
      go_upto_region 13 with fail
      go_cut [15, 16] (fun a b wx => a = .int .i64 (((m3.run (t.data.toList.take k)).feed t[k]).2 : Nat) ∧ b = .int .i64 (((m3.run (t.data.toList.take k)).feed t[k]).2 : Nat) ∧
        BothAt w wr gm gx ((m3.run (t.data.toList.take k)).feed t[k]).1 ((x1.run (t.data.toList.take k)).feed t[k]).1 wx)
      case first =>
        go_region_held3 (fun w' => True) (trivial)
          (first
            | (go_at_call 18; (with_reducible refine (pair_feed (HP.out.below (below_drew _)) HGM.out (by decide) t[k]).mono ?_); rintro e w2 ⟨rfl, hp2, hb2⟩; have HP2 := Lib.hid hp2; have HB2 := Lib.hid hb2; clear hp2 hb2)
            | (go_at_call 18; (with_reducible refine (pair_feed HP2.out.symm HGA.out (by decide) t[k]).mono ?_); rintro e w3 ⟨rfl, hp3, hb3⟩; have HP3 := Lib.hid hp3; have HB3 := Lib.hid hb3; clear hp3 hb3))
        all_goals (
          go_wp2_with fail
          go_meet
          exact ⟨rfl, by rw [HFA.out.1], HP3.out.symm, ((Below.refl _ _).drew.trans HB2.out).trans HB3.out⟩)
      case rest =>
        obtain ⟨rfl, rfl, hp, hb⟩ := hcut
        have HB3 := Lib.hid (HB.out.trans hb)
        have HP3 := Lib.hid hp
        have hways := feed_ways HGM.out.ok (goes_live HG3.out.ok HK3.out _ HGL.out) t[k]
        have HGF := Lib.hid (HGM.out.feed t[k])
        have HFC := Lib.hid (feed_cmds _ HGM.out.ok t[k])
        have HTM3 := Lib.hid HFA.out.2
        have hgo : ((m3.run (t.data.toList.take k)).feed t[k]).2 = 0 → ∀ wy, Pair wy w.heap.size gm gx ((m3.run (t.data.toList.take k)).feed t[k]).1 ((x1.run (t.data.toList.take k)).feed t[k]).1 → Below w.heap.size w wy → CmdsAt w gm gx m3 x1 t.data.toList (k + 1) wy := fun h0 wy hy1 hy2 => by
          refine ⟨?_, ?_, hy2⟩
          · rw [HTS.out, mrun_app, mrun_app]; exact hy1
          · rw [HTS.out, goes_app]; exact ⟨HGL.out, h0, trivial⟩
        have HGOK := Lib.hid hgo
        have HGX3 := Lib.hid (HGA.out.feed t[k])
        clear hp hb hgo HP HB HFA HTS HGL HGA
        generalize hr : (m3.run (t.data.toList.take k)).feed t[k] = r at *
        generalize hx : ((x1.run (t.data.toList.take k)).feed t[k]).1 = rx at *
        obtain ⟨rm, sig⟩ := r
        simp only at *
        clear hr hx
        rcases hways with ⟨h0, hk14⟩ | ⟨h0, hk16, hl16⟩ | h0 | ⟨h0, hk17⟩
        · obtain rfl : sig = 0 := h0
          have HK14 := Lib.hid hk14
          clear hk14
          go_wp2_with fail
          obtain ⟨BA, ha⟩ := HP3.out.left
          refine (alive_rest_all ha HGF.out (by decide)).mono ?_
          rintro e w4 ⟨rfl, hb4⟩
          have HP4 := Lib.hid (HP3.out.below hb4)
          have HB4 := Lib.hid (HB3.out.trans (hb4.mono HB3.out.size))
          clear hb4 ha HP3 HB3
          go_wp2_with fail
          obtain ⟨BB, ha⟩ := HP4.out.symm.left
          refine (alive_rest_all ha HGX3.out (by decide)).mono ?_
          rw [HTM3.out.rest]
          generalize rm.rest = rr at *
          rintro e w5 ⟨rfl, hb5⟩
          have HP3 := Lib.hid (HP4.out.below hb5)
          have HB3 := Lib.hid (HB4.out.trans (hb5.mono HB4.out.size))
          clear hb5 ha HP4 HB4
          go_wp2_with fail
          obtain ⟨BA, ha⟩ := HP3.out.left
          refine (alive_raw ha HGF.out.kind).mono ?_
          rintro e w6 ⟨rfl, rfl⟩
          go_wp2_with fail
          obtain ⟨BB, hc⟩ := HP3.out.symm.left
          refine (alive_raw hc HGX3.out.kind).mono ?_
          rw [show rx.raw = rm.raw from HTM3.out.raw_eq]
          generalize rm.raw = rb at *
          rintro e w6 ⟨rfl, rfl⟩
          have hbb : (rb != rb) = false := by cases rb <;> rfl
          go_wp2_with fail
          refine (alive_deep ha HGF.out (by decide)).mono ?_
          rintro e w6 ⟨rfl, rfl⟩
          go_wp2_with fail
          refine (alive_deep hc HGX3.out (by decide)).mono ?_
          rw [HTM3.out.deep_eq]
          rintro e w6 ⟨rfl, rfl⟩
          clear ha hc hbb
          go_wp2
          go_roundw
          case rel => exact ⟨k + 1, by omega, by go_num, HGOK.out (by first | trivial | rfl) _ HP3.out HB3.out⟩
          case measure => simp [intOf]; omega
        · obtain rfl : sig = 1 := h0
          have HOV := Lib.hid (And.intro hk16 hl16)
          clear hk16 hl16
          go_wp2_with fail
          obtain ⟨BA, ha⟩ := HP3.out.left
          refine (alive_rest_all ha HGF.out (by decide)).mono ?_
          rintro e w4 ⟨rfl, hb4⟩
          have HP4 := Lib.hid (HP3.out.below hb4)
          have HB4 := Lib.hid (HB3.out.trans (hb4.mono HB3.out.size))
          clear hb4 ha HP3 HB3
          go_wp2_with fail
          obtain ⟨BB, ha⟩ := HP4.out.symm.left
          refine (alive_rest_all ha HGX3.out (by decide)).mono ?_
          rw [HTM3.out.rest]
          generalize rm.rest = rr at *
          rintro e w5 ⟨rfl, hb5⟩
          have HP3 := Lib.hid (HP4.out.below hb5)
          have HB3 := Lib.hid (HB4.out.trans (hb5.mono HB4.out.size))
          clear hb5 ha HP4 HB4
          go_wp2_with fail
          obtain ⟨BA, ha⟩ := HP3.out.left
          refine (alive_raw ha HGF.out.kind).mono ?_
          rintro e w6 ⟨rfl, rfl⟩
          go_wp2_with fail
          obtain ⟨BB, hc⟩ := HP3.out.symm.left
          refine (alive_raw hc HGX3.out.kind).mono ?_
          rw [show rx.raw = rm.raw from HTM3.out.raw_eq]
          generalize rm.raw = rb at *
          rintro e w6 ⟨rfl, rfl⟩
          have hbb : (rb != rb) = false := by cases rb <;> rfl
          go_wp2_with fail
          refine (alive_deep ha HGF.out (by decide)).mono ?_
          rintro e w6 ⟨rfl, rfl⟩
          go_wp2_with fail
          refine (alive_deep hc HGX3.out (by decide)).mono ?_
          rw [HTM3.out.deep_eq]
          rintro e w6 ⟨rfl, rfl⟩
          clear ha hc hbb
          go_wp2_with fail
          obtain ⟨BA, ha⟩ := HP3.out.left
          refine (alive_word ha HOV.out.1 HOV.out.2).mono ?_
          rintro e w4 ⟨VA, Vc, rfl, hd4, hb4⟩
          have HP4 := Lib.hid (HP3.out.below hb4)
          have HB4 := Lib.hid (HB3.out.trans (hb4.mono HB3.out.size))
          have HD4 := Lib.hid hd4
          clear hb4 ha hd4
          have hlx : rx.lower = [] := List.eq_nil_of_length_eq_zero (by rw [HTM3.out.deep_eq, HOV.out.2]; rfl)
          have hcm : cmdsOfL rm.top.parts = [.slice (some ⟨w7.heap.size, 0, none⟩) q q] := by
            have h1 := HFC.out
            have h2 : rm.cmdsOf = cmdsOfL rm.top.parts := by
              unfold MS.cmdsOf
              rw [HOV.out.2]
              rfl
            rw [← h2, h1, run_cmds m3 _ HG3.out, ← HM3E.out, wait_cmds m cv HC00.out, ← HCV.out]
          have hpe := HTM3.out.parts_eq
          have HLX := Lib.hid hlx
          have HCM := Lib.hid hcm
          have HPE := Lib.hid hpe
          clear hlx hcm hpe
          generalize hN : rm.top.parts.length = N at *
          have HN := Lib.hid hN
          clear hN
          go_wp2_with fail
          obtain ⟨BB, ha⟩ := (HP4.out.below (below_alloc w4 (.cells #[.slice VA N Vc] 24))).symm.left
          refine (alive_word ha (HTM3.out.kind.trans HOV.out.1) HLX.out).mono ?_
          rw [HPE.out]
          rintro e w5 ⟨XA, Xc, rfl, _, hb5⟩
          have HB5 := Lib.hid ((HB4.out.alloc HB4.out.size (.cells #[.slice VA N Vc] 24)).trans (hb5.mono (by have h1 := HB4.out.size; simp; omega)))
          have hz5 : w4.heap.size < w5.heap.size := by have := hb5.size; simp at this; omega
          have hcw : w5.cell? ⟨w4.heap.size, 0, none⟩ = some (.slice VA N Vc) := (hb5.cell (p := ⟨w4.heap.size, 0, none⟩) (by simp)).trans (by simp [World.cell?_alloc_new])
          have hbd : Below w4.heap.size w4 (w5.alloc (.cells #[.slice XA N Xc] 24)) := (((Below.refl _ _).alloc (Nat.le_refl _) _).trans (hb5.mono (by simp))).alloc (by omega) _
          have HBD := Lib.hid hbd
          clear hb5 ha hbd
          go_wp2_with fail
          have hall : AllSlices (cmdsOfL rm.top.parts) := by rw [HCM.out]; intro u hu; rw [List.mem_singleton.1 hu]; exact ⟨_, _, _, rfl⟩
          have hlen : (cmdsOfL rm.top.parts).length ≤ 1000 := by rw [HCM.out]; show 1 ≤ 1000; decide
          have HCA := Lib.hid (cmds_any HD4.out hall hlen)
          clear hall hlen
          refine (HCA.out _ HBD.out).mono ?_
          rintro e y6 ⟨co, rfl, CA1, cc1, rfl, ho6, hb6⟩
          rw [HCM.out] at ho6 ⊢
          simp only [List.length_cons, List.length_nil, Nat.zero_add] at ho6 ⊢
          have hbd6 := HBD.out.trans (hb6.mono HBD.out.size)
          have HBD6 := Lib.hid hbd6
          have hsz5 : w5.heap.size < y6.heap.size := by have := hb6.size; simp at this; omega
          have hcw6 : y6.cell? ⟨w4.heap.size, 0, none⟩ = some (.slice VA N Vc) := (hb6.cell (p := ⟨w4.heap.size, 0, none⟩) (by simp; omega)).trans ((((Below.refl w5.heap.size w5).alloc (Nat.le_refl _) (.cells #[.slice XA N Xc] 24)).cell (p := ⟨w4.heap.size, 0, none⟩) hz5).trans hcw)
          have HB6 := Lib.hid ((HB5.out.alloc HB5.out.size (.cells #[.slice XA N Xc] 24)).trans (hb6.mono (by have h1 := HB5.out.size; simp; omega)))
          clear ho6 hb6 hbd6 hcw
          have hq := HQ.out
          go_wp2_with fail
          refine (HCA.out _ HBD6.out).mono ?_
          rintro e y7 ⟨co, rfl, CA2, cc2, rfl, ho7, hb7⟩
          rw [HCM.out] at ho7 ⊢
          simp only [List.length_cons, List.length_nil, Nat.zero_add] at ho7 ⊢
          have HB7 := Lib.hid (HB6.out.trans (hb7.mono HB6.out.size))
          rcases own_form ho7 with ⟨_, h0⟩ | ⟨b, c, h1, _, hblt, hcc, _⟩
          · cases h0
          cases h1
          have hcell := own_cell ho7 0 (by decide)
          simp only [List.getElem?_cons_zero] at hcell
          clear ho7 hb7
          go_wp2_with (go_at_call 11; refine (awake_any _).mono ?_; rintro e y8 ⟨rfl, hb⟩; have HB8 := Lib.hid hb; clear hb)
          go_ret
          exact ⟨rfl, HB7.out.trans (HB8.out.mono HB7.out.size)⟩
        · obtain rfl : sig = 2 := h0
          go_wp2_with (go_at_call 11; refine (awake_any _).mono ?_; rintro e w6 ⟨rfl, hb⟩; have HB6 := Lib.hid hb; clear hb)
          go_ret
          exact ⟨rfl, HB3.out.trans (HB6.out.mono HB3.out.size)⟩
        · obtain rfl : sig = 3 := h0
          have HNE : Hid (rm.kind ≠ 16) := Lib.hid (by omega)
          clear hk17
          go_wp2_with fail
          obtain ⟨BA, ha⟩ := HP3.out.left
          refine (alive_rest_all ha HGF.out (by decide)).mono ?_
          rintro e w4 ⟨rfl, hb4⟩
          have HP4 := Lib.hid (HP3.out.below hb4)
          have HB4 := Lib.hid (HB3.out.trans (hb4.mono HB3.out.size))
          clear hb4 ha HP3 HB3
          go_wp2_with fail
          obtain ⟨BB, ha⟩ := HP4.out.symm.left
          refine (alive_rest_all ha HGX3.out (by decide)).mono ?_
          rw [HTM3.out.rest]
          generalize rm.rest = rr at *
          rintro e w5 ⟨rfl, hb5⟩
          have HP3 := Lib.hid (HP4.out.below hb5)
          have HB3 := Lib.hid (HB4.out.trans (hb5.mono HB4.out.size))
          clear hb5 ha HP4 HB4
          go_wp2_with fail
          obtain ⟨BA, ha⟩ := HP3.out.left
          refine (alive_raw ha HGF.out.kind).mono ?_
          rintro e w6 ⟨rfl, rfl⟩
          go_wp2_with fail
          obtain ⟨BB, hc⟩ := HP3.out.symm.left
          refine (alive_raw hc HGX3.out.kind).mono ?_
          rw [show rx.raw = rm.raw from HTM3.out.raw_eq]
          generalize rm.raw = rb at *
          rintro e w6 ⟨rfl, rfl⟩
          have hbb : (rb != rb) = false := by cases rb <;> rfl
          go_wp2_with fail
          refine (alive_deep ha HGF.out (by decide)).mono ?_
          rintro e w6 ⟨rfl, rfl⟩
          go_wp2_with fail
          refine (alive_deep hc HGX3.out (by decide)).mono ?_
          rw [HTM3.out.deep_eq]
          rintro e w6 ⟨rfl, rfl⟩
          clear ha hc hbb
          go_wp2_with fail
          obtain ⟨BA, ha⟩ := HP3.out.left
          refine (alive_word_no ha HNE.out).mono ?_
          rintro e w4 ⟨rfl, hb4⟩
          have HP4 := Lib.hid (HP3.out.below hb4)
          have HB4 := Lib.hid (HB3.out.trans (hb4.mono HB3.out.size))
          clear hb4 ha
          go_wp2_with fail
          obtain ⟨BB, ha⟩ := (HP4.out.below (below_alloc w4 (.cells #[.slice none 0 0] 24))).symm.left
          refine (alive_word_no ha (by have h := HNE.out; have h2 := HTM3.out.kind; omega)).mono ?_
          rintro e w5 ⟨rfl, hb5⟩
          have HB5 := Lib.hid ((HB4.out.alloc HB4.out.size (.cells #[.slice none 0 0] 24)).trans (hb5.mono (by have h1 := HB4.out.size; simp; omega)))
          have hz5 : w4.heap.size < w5.heap.size := by have := hb5.size; simp at this; omega
          have hcw : w5.cell? ⟨w4.heap.size, 0, none⟩ = some (.slice none 0 0) := (hb5.cell (p := ⟨w4.heap.size, 0, none⟩) (by simp)).trans (by simp [World.cell?_alloc_new])
          clear hb5 ha
          go_wp2_with (go_at_call 11; refine (awake_any _).mono ?_; rintro e w6 ⟨rfl, hb⟩; have HB6 := Lib.hid hb; clear hb)
          go_ret
          exact ⟨rfl, (HB5.out.alloc HB5.out.size _).trans (HB6.out.mono (by have := HB5.out.size; simp; omega))⟩
    · obtain rfl : k = t.size := by omega
      have hk14 := goes_live HG3.out.ok HK3.out _ hgoes
      have HNE : Hid ((m3.run (t.data.toList.take t.size)).kind ≠ 16) := Lib.hid (by omega)
      have HTM3 := Lib.hid (run_alike HTW.out HG3.out (t.data.toList.take t.size))
      have HP3 := Lib.hid hpair
      have HB3 := Lib.hid hbw
      clear hpair hgoes hbw hk14
      generalize m3.run (t.data.toList.take t.size) = rm at *
      generalize x1.run (t.data.toList.take t.size) = rx at *
      go_wp2_with fail
      obtain ⟨BA, ha⟩ := HP3.out.left
      refine (alive_word_no ha HNE.out).mono ?_
      rintro e w4 ⟨rfl, hb4⟩
      have HP4 := Lib.hid (HP3.out.below hb4)
      have HB4 := Lib.hid (HB3.out.trans (hb4.mono HB3.out.size))
      clear hb4 ha
      go_wp2_with fail
      obtain ⟨BB, ha⟩ := (HP4.out.below (below_alloc w4 (.cells #[.slice none 0 0] 24))).symm.left
      refine (alive_word_no ha (by have h := HNE.out; have h2 := HTM3.out.kind; omega)).mono ?_
      rintro e w5 ⟨rfl, hb5⟩
      have HB5 := Lib.hid ((HB4.out.alloc HB4.out.size (.cells #[.slice none 0 0] 24)).trans (hb5.mono (by have h1 := HB4.out.size; simp; omega)))
      have hz5 : w4.heap.size < w5.heap.size := by have := hb5.size; simp at this; omega
      have hcw : w5.cell? ⟨w4.heap.size, 0, none⟩ = some (.slice none 0 0) := (hb5.cell (p := ⟨w4.heap.size, 0, none⟩) (by simp)).trans (by simp [World.cell?_alloc_new])
      clear hb5 ha
      go_wp2_with (go_at_call 11; refine (awake_any _).mono ?_; rintro e w6 ⟨rfl, hb⟩; have HB6 := Lib.hid hb; clear hb)
      go_ret
      exact ⟨rfl, (HB5.out.alloc HB5.out.size _).trans (HB6.out.mono (by have := HB5.out.size; simp; omega))⟩
end
end Go.Proofs.Ytpadnckmheippaa
