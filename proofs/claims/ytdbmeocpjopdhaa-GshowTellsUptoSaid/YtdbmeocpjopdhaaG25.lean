/- Names, right sides, rules as text: the document's. -/
import Derived.Test.YtdbmeocpjopdhaaG21
import Derived.Test.YtdbmeocpjopdhaaG17
import Derived.Test.YtdbmeocpjopdhaaWd
namespace Go.Proofs.Ytdbmeocpjopdhaa
open Go.RowKit
open Gm (blanksL)
set_option linter.unusedVariables false
theorem name_mid {g : Gm} {s : Int} (h0 : ¬ s < 1) (h1 : ¬ (g.T.length : Int) + (g.N.length : Int) < s) : ∃ k x, s = ((k : Nat) : Int) + 1 ∧ (g.T ++ g.N)[k]? = some x ∧ g.name s = x := by
  have hlt : (s - 1).toNat < (g.T ++ g.N).length := by rw [List.length_append]; omega
  refine ⟨(s - 1).toNat, (g.T ++ g.N)[(s - 1).toNat], by omega, List.getElem?_eq_getElem hlt, ?_⟩
  unfold Gm.name
  rw [if_neg (by omega), if_neg (by omega), List.getD_eq_getElem?_getD, List.getElem?_eq_getElem hlt]
  rfl
theorem name_out {g : Gm} {s : Int} (h0 : s ≠ 0) (h : s < 1 ∨ (g.T.length : Int) + (g.N.length : Int) < s) : g.name s = ⟨#[]⟩ := by
  unfold Gm.name
  rw [if_neg h0, if_pos h]
set_option maxRecDepth 100000 in
set_option maxHeartbeats 1600000 in
theorem rgname_any {w : World} {v : Value} {g : Gm} (h : GrR w v g) (s : Int) (hs : -9223372036854775808 ≤ s) : Calls Try.prog 18 #[v, .int .i64 s] w (Text w (g.name s)) := by
  have hT20 := h.small.2.2.1
  have hN20 := h.small.2.2.2.1
  have HTP := Lib.hid (fun y (hy : Below w.heap.size w y) => rtop_any (h.later hy))
  have HNS := Lib.hid (fun y (hy : Below w.heap.size w y) => rnames_any (h.later hy))
  have HG := Lib.hid (GBox.new w 25 v)
  have HZ := Lib.hid (name_zero g)
  have HM := Lib.hid (@name_mid g s)
  have HO := Lib.hid (@name_out g s)
  have HLN : Hid ((g.T ++ g.N).length = g.T.length + g.N.length) := Lib.hid List.length_append
  obtain ⟨AT, cT, AN, cN, AR, cR, rfl, hT, hN, hR⟩ := h.open_
  clear h hT hN hR
  by_cases h0 : s = 0
  · subst h0
    rw [HZ.out]
    clear HTP HNS HM HO HLN
    generalize g.T.length = nT at *
    generalize g.N.length = nN at *
    generalize g.R.length = nR at *
    generalize g.s = gs at *
    go_enter Try.func18, Try.ntmps18
    go_wp2
    go_ret
    exact ⟨rfl, below_alloc _ _⟩
  have hs0 : (s == 0) = false := by simpa using h0
  by_cases h1 : s < 1
  · rw [HO.out h0 (.inl h1)]
    clear HTP HNS HM HO HLN HZ h0
    generalize g.T.length = nT at *
    generalize g.N.length = nN at *
    generalize g.R.length = nR at *
    generalize g.s = gs at *
    go_enter Try.func18, Try.ntmps18
    go_wp2
    go_ret
    exact ⟨rfl, below_alloc _ _⟩
  by_cases h2 : (g.T.length : Int) + (g.N.length : Int) < s
  · rw [HO.out h0 (.inr h2)]
    clear HNS HM HO HLN HZ h0
    generalize g.T.length = nT at *
    generalize g.N.length = nN at *
    generalize g.R.length = nR at *
    generalize g.s = gs at *
    go_enter Try.func18, Try.ntmps18
    go_wp2_with fail
    refine (HTP.out _ (below_alloc w _)).mono ?_
    rintro e w1 ⟨rfl, hb1⟩
    have HB1 := Lib.hid (below_alloc_trans hb1)
    clear hb1
    go_wp2
    go_ret
    exact ⟨rfl, HB1.out⟩
  · obtain ⟨k, x, hk, hx, hnm⟩ := HM.out h1 h2
    rw [hnm]
    have hkl := (List.getElem?_eq_some_iff.1 hx).1
    rw [HLN.out] at hkl
    have HX := Lib.hid hx
    have hsub : s - 1 = (k : Int) := by omega
    clear HM HO HZ h0 hx hnm hk
    generalize g.T ++ g.N = L at *
    generalize g.T.length = nT at *
    generalize g.N.length = nN at *
    generalize g.R.length = nR at *
    generalize g.s = gs at *
    go_enter Try.func18, Try.ntmps18
    go_wp2_with fail
    refine (HTP.out _ (below_alloc w _)).mono ?_
    rintro e w1 ⟨rfl, hb1⟩
    have HB1 := Lib.hid (below_alloc_trans hb1)
    obtain ⟨d0, d1, d2, d3⟩ := (HG.out.later hb1).four
    clear hb1
    go_wp2_with fail
    refine (HNS.out _ HB1.out).mono ?_
    rintro e w2 ⟨o, rfl, ho, hb2⟩
    have HB2 := Lib.hid (HB1.out.trans (hb2.mono HB1.out.size))
    obtain ⟨⟨A, c, rfl, hc⟩, _⟩ := ho
    obtain ⟨b, off, rfl, hb, hcell⟩ := hc k x HX.out
    simp only [StrV] at hcell
    have hll := HLN.out
    clear hb2 d0 d1 d2 d3 hc
    rw [hll]
    go_wp2
    go_ret
    exact ⟨rfl, HB2.out⟩
theorem rightL_snoc (g : Gm) {l : List Int} {k : Nat} {s : Int} (h : l[k]? = some s) : str (g.rightL (l.take (k + 1))) = str (g.rightL (l.take k)) ++ ⟨#[32]⟩ ++ g.name s := by
  obtain ⟨hk, rfl⟩ := List.getElem?_eq_some_iff.1 h
  rw [List.take_succ_eq_append_getElem hk]
  unfold Gm.rightL
  rw [List.flatMap_append, ← str_append]
  apply ByteArray.ext
  unfold str
  simp
set_option maxRecDepth 100000 in
set_option maxHeartbeats 3200000 in
theorem rright_any {w : World} {v u : Value} {g : Gm} {r : Ru} (h : GrR w v g) (hr : RuR w u r) (hl : r.right.length ≤ 1048576) (hi : ∀ s ∈ r.right, -9223372036854775808 ≤ s) : Calls Try.prog 19 #[v, u] w (Text w (str (g.rightL r.right))) := by
  have HNM := Lib.hid (fun s (hs : -9223372036854775808 ≤ s) y (hy : Below w.heap.size w y) => rgname_any (h.later hy) s hs)
  have HG := Lib.hid (GBox.new w 25 v)
  have hsm := h.small
  have HLN : Hid (∀ k, (str (g.rightL (r.right.take k))).size ≤ 1099512676352) := Lib.hid (fun k => by rw [str_size]; exact rightL_len g hsm _ (by rw [List.length_take]; omega))
  have HNZ := Lib.hid (fun s => Gm.name_size hsm s)
  have HSN := Lib.hid (fun (k : Nat) (s : Int) (hh : r.right[k]? = some s) => rightL_snoc g hh)
  obtain ⟨AT, cT, AN, cN, AR, cR, rfl, hT, hN, hR⟩ := h.open_
  obtain ⟨rfl, ⟨A, c, hv, hc⟩, hsr, _⟩ := hr
  unfold RuV
  rw [hv]
  have HC := Lib.hid hc
  have HI := Lib.hid hi
  have HTK : Hid (r.right.take r.right.length = r.right) := Lib.hid List.take_length
  clear h hT hN hR hsm hv hc hi
  generalize r.left = rl at *
  generalize g.T.length = nT at *
  generalize g.N.length = nN at *
  generalize g.R.length = nR at *
  generalize g.s = gs at *
  generalize r.right = l at *
  go_enter Try.func19, Try.ntmps19
  go_wp2
  go_loopw [5, 6] (fun o i wr => ∃ (k : Nat) (cs : ByteArray), k ≤ l.length ∧ i = .int .i64 k ∧ o = .string cs ∧ Hid (cs = str (g.rightL (l.take k))) ∧ Hid (Below ((w.alloc (.cells #[.slice AT nT cT, .slice AN nN cN, .slice AR nR cR, .int .i64 gs] 25)).alloc (.cells #[.int .i64 rl, .slice A l.length c] 28)).heap.size ((w.alloc (.cells #[.slice AT nT cT, .slice AN nN cN, .slice AR nR cR, .int .i64 gs] 25)).alloc (.cells #[.int .i64 rl, .slice A l.length c] 28)) wr)) (fun _ i _ => l.length - (intOf i).toNat)
  case atStart => exact ⟨0, _, Nat.zero_le _, rfl, rfl, Lib.hid rfl, Lib.hid (Below.refl _ _)⟩
  case round =>
    obtain ⟨k, cs, hk, rfl, rfl, HCS, HB⟩ := hrel
    have HW := Lib.hid ((below_more (below_alloc w _) _).trans (HB.out.mono (below_more (below_alloc w _) _).size))
    have hcs : cs.size ≤ 1099512676352 := by rw [HCS.out]; exact HLN.out k
    have HSIX : Hid (∀ y, Below wr.heap.size wr y → y.cell? ⟨w.heap.size, 0, none⟩ = some (.slice AT nT cT) ∧ y.cell? ⟨w.heap.size, 1, none⟩ = some (.slice AN nN cN) ∧ y.cell? ⟨w.heap.size, 2, none⟩ = some (.slice AR nR cR) ∧ y.cell? ⟨w.heap.size, 3, none⟩ = some (.int .i64 gs) ∧ y.cell? ⟨w.heap.size + 1, 0, none⟩ = some (.int .i64 rl) ∧ y.cell? ⟨w.heap.size + 1, 1, none⟩ = some (.slice A l.length c)) := Lib.hid (fun y hy => by
      have hb := HB.out.trans (hy.mono HB.out.size)
      obtain ⟨d0, d1, d2, d3⟩ := ((HG.out.later (below_alloc _ (.cells #[.int .i64 rl, .slice A l.length c] 28))).later hb).four
      refine ⟨d0, d1, d2, d3, (hb.cell (p := ⟨w.heap.size + 1, 0, none⟩) (by simp)).trans ?_, (hb.cell (p := ⟨w.heap.size + 1, 1, none⟩) (by simp)).trans ?_⟩
      · exact (World.cell?_alloc_at _ _ _ _ (by simp)).trans rfl
      · exact (World.cell?_alloc_at _ _ _ _ (by simp)).trans rfl)
    obtain ⟨d0, d1, d2, d3, d4, d5⟩ := HSIX.out wr (Below.refl _ _)
    by_cases hlt : k < l.length
    · have hs := List.getElem?_eq_getElem hlt
      generalize l[k] = s at hs
      obtain ⟨b, off, hA, hb, hcell⟩ := HC.out k s hs
      subst hA
      simp only [IntV] at hcell
      have hnz := HNZ.out s
      have HN : Hid (cs ++ ⟨#[32]⟩ ++ g.name s = str (g.rightL (l.take (k + 1)))) := Lib.hid (by rw [HCS.out]; exact (HSN.out k s hs).symm)
      have hin := HI.out s (List.mem_of_getElem? hs)
      obtain ⟨I, hI1, hI2⟩ : ∃ I : World → Prop, (∀ w', I w' → Below wr.heap.size wr w') ∧ (∀ w', Below wr.heap.size wr w' → I w') := ⟨_, fun _ h => h, fun _ h => h⟩
      have hI : I wr.drew := hI2 _ (below_drew (Below.refl _ _))
      have hne : Nonempty (Wd I) := ⟨⟨_, hI⟩⟩
      have XI := Lib.hid (fun x : Wd I => hI1 _ x.ok)
      have XW := Lib.hid (fun x : Wd I => HW.out.trans ((hI1 _ x.ok).mono HW.out.size))
      have XJ := Lib.hid hI2
      clear hI1 hI2
      have g0 := fun y : Wd I => (HSIX.out _ (XI.out y)).1
      have g1 := fun y : Wd I => (HSIX.out _ (XI.out y)).2.1
      have g2 := fun y : Wd I => (HSIX.out _ (XI.out y)).2.2.1
      have g3 := fun y : Wd I => (HSIX.out _ (XI.out y)).2.2.2.1
      have g4 := fun y : Wd I => (HSIX.out _ (XI.out y)).2.2.2.2.1
      have g5 := fun y : Wd I => (HSIX.out _ (XI.out y)).2.2.2.2.2
      have g6 := fun y : Wd I => ((XW.out y).cell (p := ⟨b, off + k, none⟩) hb).trans hcell
      have CN := Lib.hid (fun y : Wd I => wd_call (I := I) (v := .string (g.name s)) ((HNM.out s hin y.w (XW.out y)).mono fun e w' hh => ⟨hh.1, XJ.out _ ((XI.out y).trans (hh.2.mono (XI.out y).size))⟩))
      clear hs hcell hin
      generalize g.name s = nm at *
      have hq1 : ¬ (9223372036854775807 < cs.size + 1) := by omega
      have hq2 : ¬ (9223372036854775807 < cs.size + 1 + nm.size) := by omega
      have hq3 : cs.size + 1 ≤ 9223372036854775807 := by omega
      have hq4 : cs.size + 1 + nm.size ≤ 9223372036854775807 := by omega
      go_wp2_with fail
      refine wp_region_wd I (by kernel_rfl) (by kernel_rfl) hI ?_
      repeat (go_big_quiet_step ((first | (go_at_call 18; exact CN.out _))))
      refine wpQuiet_nil ?_
      intro _ hw'
      obtain ⟨x, rfl⟩ := hw'
      have HB5 := Lib.hid (HB.out.trans ((XI.out x).mono HB.out.size))
      clear d0 d1 d2 d3 d4 d5 g0 g1 g2 g3 g4 g5 g6
      go_wp2
      go_roundw
      case rel => exact ⟨k + 1, _, by omega, by go_num, rfl, HN, HB5⟩
      case measure => simp [intOf]; omega
    · obtain rfl : k = l.length := by omega
      go_wp2
      go_ret
      exact ⟨by rw [HCS.out, HTK.out]; rfl, HW.out⟩
set_option maxRecDepth 100000 in
set_option maxHeartbeats 3200000 in
theorem rrule_any {w : World} {v u : Value} {g : Gm} {r : Ru} (h : GrR w v g) (hr : RuR w u r) (hl : r.right.length ≤ 1048576) (hi : ∀ s ∈ r.right, -9223372036854775808 ≤ s) (hi0 : -9223372036854775808 ≤ r.left) : Calls Try.prog 9 #[v, u] w (Text w (str (g.ruleL r.left r.right))) := by
  have HNM := Lib.hid (fun y (hy : Below w.heap.size w y) => rgname_any (h.later hy) r.left hi0)
  have HRT := Lib.hid (fun y (hy : Below w.heap.size w y) => rright_any (h.later hy) (hr.later hy) hl hi)
  have hs1 := Gm.name_size h.small r.left
  have hs2 := rightL_len g h.small r.right hl
  have HRES : Hid (str (g.ruleL r.left r.right) = g.name r.left ++ str [32, 58] ++ str (g.rightL r.right)) := Lib.hid (by rw [str_three]; rfl)
  obtain ⟨AT, cT, AN, cN, AR, cR, rfl, hT, hN, hR⟩ := h.open_
  obtain ⟨rfl, ⟨A, c, hv, hc⟩, hsr, _⟩ := hr
  unfold RuV at *
  rw [hv] at HRT ⊢
  have hs3 : (str (g.rightL r.right)).size ≤ 1099512676352 := by rw [str_size]; exact hs2
  clear h hT hN hR hv hc hs2
  generalize str (g.ruleL r.left r.right) = res at *
  generalize r.left = rl at *
  generalize g.T.length = nT at *
  generalize g.N.length = nN at *
  generalize g.R.length = nR at *
  generalize g.s = gs at *
  generalize g.name rl = nm at *
  generalize str (g.rightL r.right) = rt at *
  generalize r.right.length = rn at *
  have HK : Hid (∀ w', Below ((w.alloc (.cells #[.slice AT nT cT, .slice AN nN cN, .slice AR nR cR, .int .i64 gs] 25)).alloc (.cells #[.int .i64 rl, .slice A rn c] 28)).heap.size ((w.alloc (.cells #[.slice AT nT cT, .slice AN nN cN, .slice AR nR cR, .int .i64 gs] 25)).alloc (.cells #[.int .i64 rl, .slice A rn c] 28)) w' →
      w'.cell? ⟨w.heap.size, 0, none⟩ = some (.slice AT nT cT) ∧ w'.cell? ⟨w.heap.size, 1, none⟩ = some (.slice AN nN cN) ∧ w'.cell? ⟨w.heap.size, 2, none⟩ = some (.slice AR nR cR) ∧ w'.cell? ⟨w.heap.size, 3, none⟩ = some (.int .i64 gs) ∧ w'.cell? ⟨w.heap.size + 1, 0, none⟩ = some (.int .i64 rl) ∧ w'.cell? ⟨w.heap.size + 1, 1, none⟩ = some (.slice A rn c)) := Lib.hid (fun w' hb => by
    obtain ⟨d0, d1, d2, d3⟩ := (((GBox.new w 25 (.agg #[.slice AT nT cT, .slice AN nN cN, .slice AR nR cR, .int .i64 gs])).later (below_alloc _ (.cells #[.int .i64 rl, .slice A rn c] 28))).later hb).four
    refine ⟨d0, d1, d2, d3, (hb.cell (p := ⟨w.heap.size + 1, 0, none⟩) (by simp)).trans ?_, (hb.cell (p := ⟨w.heap.size + 1, 1, none⟩) (by simp)).trans ?_⟩
    · exact (World.cell?_alloc_at _ _ _ _ (by simp)).trans rfl
    · exact (World.cell?_alloc_at _ _ _ _ (by simp)).trans rfl)
  have hq1 : ¬ (9223372036854775807 < nm.size + 2) := by omega
  have hq2 : ¬ (9223372036854775807 < nm.size + 2 + rt.size) := by omega
  have hq3 : nm.size + 2 ≤ 9223372036854775807 := by omega
  have hq4 : nm.size + 2 + rt.size ≤ 9223372036854775807 := by omega
  go_enter Try.func9, Try.ntmps9
  go_wp2_with fail
  go_region_held3 (fun w' => w'.cell? ⟨w.heap.size, 0, none⟩ = some (.slice AT nT cT) ∧ w'.cell? ⟨w.heap.size, 1, none⟩ = some (.slice AN nN cN) ∧ w'.cell? ⟨w.heap.size, 2, none⟩ = some (.slice AR nR cR) ∧ w'.cell? ⟨w.heap.size, 3, none⟩ = some (.int .i64 gs) ∧ w'.cell? ⟨w.heap.size + 1, 0, none⟩ = some (.int .i64 rl) ∧ w'.cell? ⟨w.heap.size + 1, 1, none⟩ = some (.slice A rn c))
    (first | exact HK.out _ HZ2.out | exact HK.out _ HZ1.out | exact HK.out _ ⟨rfl, rfl, rfl, Nat.le_refl _, fun _ _ => rfl⟩)
    (first
      | (go_at_call 18; refine (HNM.out _ (below_drew (below_more (below_alloc w _) _))).mono ?_; rintro e w1 ⟨rfl, hb1⟩; have HB1 := Lib.hid ((below_drew (below_more (below_alloc w _) _)).trans (hb1.mono (below_drew (below_more (below_alloc w _) _)).size)); have HZ1 := Lib.hid ((below_drew (Below.refl _ _)).trans (hb1.mono (Nat.le_refl _))); clear hb1)
      | (go_at_call 19; refine (HRT.out _ HB1.out).mono ?_; rintro e w2 ⟨rfl, hb2⟩; have HB2 := Lib.hid (HB1.out.trans (hb2.mono HB1.out.size)); have HZ2 := Lib.hid (HZ1.out.trans (hb2.mono HZ1.out.size)); clear hb2))
  all_goals go_wp2
  all_goals go_ret
  all_goals exact ⟨by rw [HRES.out]; rfl, HB2.out⟩
end Go.Proofs.Ytdbmeocpjopdhaa
