/- A grammar as text: the document's. -/
import Derived.Test.YtdbmeocpjopdhaaG18
import Derived.Test.YtdbmeocpjopdhaaG24
import Derived.Test.YtdbmeocpjopdhaaG25
namespace Go.Proofs.Ytdbmeocpjopdhaa
open Go.RowKit
open Gm (blanksL)
set_option linter.unusedVariables false
/-- What the document's Show asks of rules. -/
structure RShows (w : World) (AR : Option Addr) (v : Value) (g : Gm) : Prop where
  cell : ∀ (k : Nat) (r : Ru), g.R[k]? = some r → ∃ b off A c, AR = some ⟨b, off, none⟩ ∧ b < w.heap.size ∧ w.cell? ⟨b, off + k * 2, none⟩ = some (.int .i64 r.left) ∧ w.cell? ⟨b, off + k * 2 + 1, none⟩ = some (.slice A r.right.length c) ∧ r.v = .slice A r.right.length c
  right : ∀ (k : Nat) (r : Ru), g.R[k]? = some r → ∀ y, Below w.heap.size w y → Calls Try.prog 19 #[v, RuV r] y (Text y (str (g.rightL r.right)))
  rule : ∀ (k : Nat) (r : Ru), g.R[k]? = some r → ∀ y, Below w.heap.size w y → Calls Try.prog 9 #[v, RuV r] y (Text y (str (g.ruleL r.left r.right)))
theorem rshows_any {w : World} {v : Value} {g : Gm} {AR : Option Addr} {cR : Nat} (h : GrR w v g) (hi : g.ints) (h8 : ∀ r ∈ g.R, r.right.length ≤ 8) (hR : Rul w (.slice AR g.R.length cR) g.R) : RShows w AR v g where
  cell := (shows_any h hi h8 hR).cell
  right := fun k r hr y hy => rright_any (h.later hy) ⟨rfl, (hR.mem (List.mem_of_getElem? hr)).later hy⟩ (by have := h8 r (List.mem_of_getElem? hr); omega) (hi.2 r (List.mem_of_getElem? hr)).2
  rule := fun k r hr y hy => rrule_any (h.later hy) ⟨rfl, (hR.mem (List.mem_of_getElem? hr)).later hy⟩ (by have := h8 r (List.mem_of_getElem? hr); omega) (hi.2 r (List.mem_of_getElem? hr)).2 (hi.2 r (List.mem_of_getElem? hr)).1
/-- What has been shown so far, and the last left side. -/
def SoFar (g : Gm) (tot : List UInt8) (cs : ByteArray) (q : Int) (k : Nat) : Prop := ∃ bs, cs = str bs ∧ Left g tot bs q k ∧ (k = 0 → q = 0) ∧ ∀ r, 0 < k → g.R[k - 1]? = some r → r.left = q
theorem SoFar.size {g : Gm} {tot : List UInt8} {cs : ByteArray} {q : Int} {k : Nat} (h : SoFar g tot cs q k) (ht : tot.length ≤ 4000000000) : cs.size ≤ 4000000000 := by
  obtain ⟨bs, rfl, hl, _⟩ := h
  rw [str_size]
  exact Nat.le_trans hl.len ht
theorem SoFar.same {g : Gm} {tot : List UInt8} {cs : ByteArray} {q : Int} {k : Nat} {r : Ru} (h : SoFar g tot cs q k) (hr : g.R[k]? = some r) (e : r.left = q) : SoFar g tot (cs ++ ⟨#[10, 9, 124]⟩ ++ str (g.rightL r.right)) q (k + 1) := by
  obtain ⟨bs, rfl, hl, h0, h1⟩ := h
  refine ⟨_, ?_, hl.same hr e, fun h => absurd h (Nat.succ_ne_zero k), fun r' _ hr' => ?_⟩
  · rw [← str_append, ← str_append]
    apply ByteArray.ext
    unfold str
    simp
  · rw [Nat.add_sub_cancel, hr] at hr'
    cases hr'
    exact e
theorem SoFar.first {g : Gm} {tot : List UInt8} {cs : ByteArray} {q : Int} {r : Ru} (h : SoFar g tot cs q 0) (hr : g.R[0]? = some r) (e : 1 ≤ r.left) : SoFar g tot (cs ++ str (g.ruleL r.left r.right)) r.left (0 + 1) := by
  obtain ⟨bs, rfl, hl, h0, h1⟩ := h
  rw [h0 rfl] at hl
  refine ⟨_, str_append _ _, hl.first hr (by omega), fun h => absurd h (by omega), fun r' _ hr' => ?_⟩
  rw [Nat.zero_add, Nat.sub_self, hr] at hr'
  cases hr'
  rfl
theorem SoFar.other {g : Gm} {tot : List UInt8} {cs : ByteArray} {q : Int} {k : Nat} {r r0 : Ru} (h : SoFar g tot cs q k) (hk : 0 < k) (hr0 : g.R[k - 1]? = some r0) (h01 : 1 ≤ r0.left) (hr : g.R[k]? = some r) (e : ¬ r0.left = r.left) : SoFar g tot (cs ++ ⟨#[10, 9, 59, 10]⟩ ++ str (g.ruleL r.left r.right)) r.left (k + 1) := by
  obtain ⟨bs, rfl, hl, h0, h1⟩ := h
  have hq := h1 r0 hk hr0
  refine ⟨_, ?_, hl.other hr (fun hh => e (by rw [hq, hh])) (by omega), fun h => absurd h (Nat.succ_ne_zero k), fun r' _ hr' => ?_⟩
  · rw [← str_append, ← str_append]
    rfl
  · rw [Nat.add_sub_cancel, hr] at hr'
    cases hr'
    rfl
theorem blanksS_one {l : List ByteArray} {k : Nat} {s : ByteArray} (h : l[k]? = some s) : str (blanksL (l.take (k + 1))) = str (blanksL (l.take k)) ++ ⟨#[32]⟩ ++ s := by
  obtain ⟨hk, rfl⟩ := List.getElem?_eq_some_iff.1 h
  rw [List.take_succ_eq_append_getElem hk]
  unfold blanksL
  rw [List.flatMap_append, ← str_append]
  apply ByteArray.ext
  unfold str
  simp
theorem blanksS_snoc {l : List ByteArray} {k : Nat} {s : ByteArray} (h : l[k]? = some s) (p : ByteArray) : p ++ str (blanksL (l.take (k + 1))) = p ++ str (blanksL (l.take k)) ++ ⟨#[32]⟩ ++ s := by
  rw [blanksS_one h, ByteArray.append_assoc, ByteArray.append_assoc, ByteArray.append_assoc]
set_option maxRecDepth 100000 in
set_option maxHeartbeats 3200000 in
theorem rshow_any {w : World} {v : Value} {g : Gm} (h : GrR w v g) (hi : g.ints) : Calls Try.prog 7 #[v] w (Text w (str g.showL)) := by
  have HCK := Lib.hid (fun y (hy : Below w.heap.size w y) => rcheck_any (h.later hy))
  have HOR := Lib.hid (fun y (hy : Below w.heap.size w y) => rord_any (h.later hy))
  have HNM := Lib.hid (fun y (hy : Below w.heap.size w y) => rgname_any (h.later hy) g.s hi.1)
  have hsm := h.small
  have HG := Lib.hid (GBox.new w 25 v)
  have HNO := Lib.hid (@show_no g)
  obtain ⟨AT, cT, AN, cN, AR, cR, rfl, hT, hN, hR⟩ := h.open_
  by_cases hc : g.check = 0
  case neg =>
    have HR := Lib.hid (HNO.out (fun hh => hc hh.1))
    have hne : (g.check != 0) = true := by simpa using hc
    clear HOR HNM HNO h hi hsm hT hN hR hc
    generalize str g.showL = res at *
    generalize g.check = ck at *
    generalize g.T.length = nT at *
    generalize g.N.length = nN at *
    generalize g.R.length = nR at *
    generalize g.s = gs at *
    go_enter Try.func7, Try.ntmps7
    go_wp2_with fail
    refine (HCK.out _ (below_alloc w _)).mono ?_
    rintro e w1 ⟨rfl, hb1⟩
    have HB1 := Lib.hid (below_alloc_trans hb1)
    clear hb1
    go_wp2
    go_ret
    exact ⟨by rw [HR.out]; rfl, HB1.out⟩
  obtain ⟨q1, q2, q3, q4, q5⟩ := check_zero hc
  rw [hc] at HCK
  cases ho : g.ordered with
  | false =>
    rw [ho] at HOR
    have HR := Lib.hid (HNO.out (fun hh => by rw [ho] at hh; cases hh.2))
    clear HNM HNO h hi hsm hT hN hR hc ho q4 q5
    generalize str g.showL = res at *
    generalize g.T.length = nT at *
    generalize g.N.length = nN at *
    generalize g.R.length = nR at *
    generalize g.s = gs at *
    go_enter Try.func7, Try.ntmps7
    go_wp2_with fail
    refine (HCK.out _ (below_alloc w _)).mono ?_
    rintro e w1 ⟨rfl, hb1⟩
    have HB1 := Lib.hid (below_alloc_trans hb1)
    obtain ⟨d0, d1, d2, d3⟩ := (HG.out.later hb1).four
    clear hb1
    go_wp2_with fail
    refine (HOR.out _ HB1.out).mono ?_
    rintro e w2 ⟨rfl, hb2⟩
    have HB2 := Lib.hid (HB1.out.trans (hb2.mono HB1.out.size))
    clear hb2 d0 d1 d2 d3
    go_wp2
    go_ret
    exact ⟨by rw [HR.out]; rfl, HB2.out⟩
  | true =>
    rw [ho] at HOR
    have HSH := Lib.hid (rshows_any h hi q4 hR)
    have HRES : Hid (str g.showL = str (g.headsL ++ g.rulesL 0 g.R) ++ ⟨#[10, 9, 59, 10]⟩) := Lib.hid (by unfold Gm.showL; rw [if_pos ⟨hc, ho⟩, ← List.append_assoc, ← str_append]; rfl)
    have HLN : Hid ((g.headsL ++ g.rulesL 0 g.R).length ≤ 4000000000) := Lib.hid (by
      have h1 := headsL_len g hsm q1
      have h2 := rulesL_len g hsm g.R q4 0
      rw [List.length_append]
      omega)
    have HS0 : Hid (SoFar g (g.headsL ++ g.rulesL 0 g.R) (str g.headsL) 0 0) := Lib.hid ⟨_, rfl, by unfold Left; rw [List.drop_zero], fun _ => rfl, fun r h0 => absurd h0 (Nat.lt_irrefl 0)⟩
    have HLL := Lib.hid (fun (k : Nat) (r : Ru) (hr : g.R[k]? = some r) => q5 r (List.mem_of_getElem? hr))
    have HLD : Hid (∀ k, k < g.R.length → ∃ r, g.R[k]? = some r) := Lib.hid (fun k hk => loaded hk)
    have HAL : Hid (∀ cs q, SoFar g (g.headsL ++ g.rulesL 0 g.R) cs q g.R.length → cs = str (g.headsL ++ g.rulesL 0 g.R)) := Lib.hid (fun cs q hh => by obtain ⟨bs, rfl, hl, _⟩ := hh; rw [hl.all])
    have HRL : Hid (∀ (k : Nat) (r : Ru), g.R[k]? = some r → (str (g.rightL r.right)).size ≤ 8388616 ∧ (str (g.ruleL r.left r.right)).size ≤ 9437194) := Lib.hid (fun k r hr => by
      rw [str_size, str_size]
      exact ⟨rightL_len8 g hsm _ (q4 r (List.mem_of_getElem? hr)), ruleL_len8 g hsm _ _ (q4 r (List.mem_of_getElem? hr))⟩)
    have HNZ : Hid ((g.name g.s).size ≤ 1048576) := Lib.hid (Gm.name_size hsm g.s)
    have HH0 : Hid (g.T = [] → str g.headsL = (⟨#[]⟩ : ByteArray) ++ ⟨#[37, 115, 116, 97, 114, 116, 32]⟩ ++ g.name g.s ++ ⟨#[10, 37, 37, 10]⟩) := Lib.hid (fun hn => by unfold Gm.headsL Gm.startL; rw [if_pos hn]; apply ByteArray.ext; unfold str; simp)
    have HH1 : Hid (g.T ≠ [] → str g.headsL = (⟨#[37, 116, 111, 107, 101, 110]⟩ : ByteArray) ++ str (blanksL g.T) ++ ⟨#[10]⟩ ++ ⟨#[37, 115, 116, 97, 114, 116, 32]⟩ ++ g.name g.s ++ ⟨#[10, 37, 37, 10]⟩) := Lib.hid (fun hn => by unfold Gm.headsL Gm.startL; rw [if_neg hn]; apply ByteArray.ext; unfold str; simp)
    have HTS := Lib.hid hsm.1
    have HTB : Hid (∀ k, (str (blanksL (g.T.take k))).size ≤ 127000000) := Lib.hid (fun k => by
      rw [str_size]
      have h1 := blanksL_len (g.T.take k) 1048576 (fun s hh => hsm.1 s (List.mem_of_mem_take hh))
      have h2 : (g.T.take k).length ≤ 120 := by rw [List.length_take]; omega
      omega)
    have HTN := Lib.hid (fun (k : Nat) (s : ByteArray) (hs : g.T[k]? = some s) (p : ByteArray) => blanksS_snoc hs p)
    have HTE : Hid (g.T.length = 0 → g.T = []) := Lib.hid List.eq_nil_of_length_eq_zero
    have HTE2 : Hid (g.T.length ≠ 0 → g.T ≠ []) := Lib.hid (fun hh e => hh (by rw [e]; rfl))
    have HTT : Hid (g.T.take g.T.length = g.T) := Lib.hid List.take_length
    obtain ⟨⟨A1, c1, e1, hc1⟩, _⟩ := hT
    cases e1
    have HC1 := Lib.hid hc1
    clear HNO h hi hsm hN hR hc ho q4 q5 hc1
    generalize str g.showL = res at *
    generalize g.headsL ++ g.rulesL 0 g.R = tot at *
    generalize str g.headsL = hd at *
    generalize hlT : g.T = lT at *
    clear hlT
    generalize hnT : lT.length = nT at *
    have HNT := Lib.hid hnT
    clear hnT
    generalize g.N.length = nN at *
    generalize g.R.length = nR at *
    generalize g.name g.s = nm at *
    generalize g.s = gs at *
    have hnz := HNZ.out
    go_enter Try.func7, Try.ntmps7
    go_wp2_with fail
    refine (HCK.out _ (below_alloc w _)).mono ?_
    rintro e w1 ⟨rfl, hb1⟩
    have HB1 := Lib.hid (below_alloc_trans hb1)
    have HG1 := Lib.hid (HG.out.later hb1)
    obtain ⟨d0, d1, d2, d3⟩ := HG1.out.four
    clear hb1
    go_wp2_with fail
    refine (HOR.out _ HB1.out).mono ?_
    rintro e w2 ⟨rfl, hb2⟩
    have HB2 := Lib.hid (HB1.out.trans (hb2.mono HB1.out.size))
    have HG2 := Lib.hid (HG1.out.later hb2)
    clear hb2 d0 d1 d2 d3
    obtain ⟨d0, d1, d2, d3⟩ := HG2.out.four
    by_cases h0 : nT = 0
    · have HHD := Lib.hid (HH0.out (HTE.out h0))
      subst h0
      go_wp2_with fail
      refine (HNM.out _ HB2.out).mono ?_
      rintro e w3 ⟨rfl, hb3⟩
      have HB3 := Lib.hid (HB2.out.trans (hb3.mono HB2.out.size))
      have HG3 := Lib.hid (HG2.out.later hb3)
      clear hb3 d0 d1 d2 d3
      have hz1 : (⟨#[37, 115, 116, 97, 114, 116, 32]⟩ : ByteArray).size = 7 := rfl
      have hz2 : (⟨#[10, 37, 37, 10]⟩ : ByteArray).size = 4 := rfl
      have hz3 : (⟨#[10, 9, 59, 10]⟩ : ByteArray).size = 4 := rfl
      have hz4 : (⟨#[10, 9, 124]⟩ : ByteArray).size = 3 := rfl
      go_wp2
      go_loopw [3, 5] (fun o i wr => ∃ (k : Nat) (q : Int) (cs : ByteArray), k ≤ nR ∧ i = .int .i64 k ∧ o = .string cs ∧ Hid (SoFar g tot cs q k) ∧ Hid (Below w.heap.size w wr) ∧ Hid (GBox wr w.heap.size (.agg #[.slice AT 0 cT, .slice AN nN cN, .slice AR nR cR, .int .i64 gs]))) (fun _ i _ => nR - (intOf i).toNat)
      case atStart => exact ⟨0, 0, _, Nat.zero_le _, rfl, rfl, Lib.hid (by rw [← HHD.out]; exact HS0.out), HB3, HG3⟩
      case round =>
        obtain ⟨k, q, cs, hk, rfl, rfl, HS, HB, HGR⟩ := hrel
        obtain ⟨d0, d1, d2, d3⟩ := HGR.out.four
        have hcs := HS.out.size HLN.out
        by_cases hlt : k < nR
        · obtain ⟨r, hr⟩ := HLD.out k hlt
          obtain ⟨b, off, A, c, hA, hlt0, h1, h2, hv⟩ := HSH.out.cell k r hr
          subst hA
          have HR1 := Lib.hid h1
          have HR2 := Lib.hid h2
          have HRT := Lib.hid (HSH.out.right k r hr)
          have HRU := Lib.hid (HSH.out.rule k r hr)
          obtain ⟨hsz1, hsz2⟩ := HRL.out k r hr
          have hl1 := HLL.out k r hr
          have HSM := Lib.hid (fun e => HS.out.same hr e)
          have HSO := Lib.hid (fun r0 hk0 hr0 h01 e => HS.out.other (r0 := r0) hk0 hr0 h01 hr e)
          have HSF := Lib.hid (fun (hk0 : k = 0) => SoFar.first (show SoFar g tot cs q 0 from hk0 ▸ HS.out) (show g.R[0]? = some r from hk0 ▸ hr) hl1)
          simp only [RuV] at HRT HRU
          rw [hv] at HRT HRU
          obtain ⟨I, hI1, hI2⟩ : ∃ I : World → Prop, (∀ w', I w' → Below wr.heap.size wr w') ∧ (∀ w', Below wr.heap.size wr w' → I w') := ⟨_, fun _ h => h, fun _ h => h⟩
          have hI : I wr.drew := hI2 _ (below_drew (Below.refl _ _))
          have hne : Nonempty (Wd I) := ⟨⟨_, hI⟩⟩
          have XI := Lib.hid (fun x : Wd I => hI1 _ x.ok)
          have XW := Lib.hid (fun x : Wd I => HB.out.trans ((hI1 _ x.ok).mono HB.out.size))
          have XJ := Lib.hid hI2
          clear hI1 hI2
          have g0 := fun y : Wd I => ((HGR.out.later (XI.out y)).four).1
          have g1 := fun y : Wd I => ((HGR.out.later (XI.out y)).four).2.1
          have g2 := fun y : Wd I => ((HGR.out.later (XI.out y)).four).2.2.1
          have g3 := fun y : Wd I => ((HGR.out.later (XI.out y)).four).2.2.2
          have g4 := fun y : Wd I => ((XW.out y).cell (p := ⟨b, off + k * 2, none⟩) hlt0).trans HR1.out
          have g5 := fun y : Wd I => ((XW.out y).cell (p := ⟨b, off + k * 2 + 1, none⟩) hlt0).trans HR2.out
          have e1 := (HB.out.cell (p := ⟨b, off + k * 2, none⟩) hlt0).trans h1
          have e2 := (HB.out.cell (p := ⟨b, off + k * 2 + 1, none⟩) hlt0).trans h2
          have CR := Lib.hid (fun y : Wd I => wd_call (I := I) (v := .string (str (g.rightL r.right))) ((HRT.out y.w (XW.out y)).mono fun e w' hh => ⟨hh.1, XJ.out _ ((XI.out y).trans (hh.2.mono (XI.out y).size))⟩))
          have CU := Lib.hid (fun y : Wd I => wd_call (I := I) (v := .string (str (g.ruleL r.left r.right))) ((HRU.out y.w (XW.out y)).mono fun e w' hh => ⟨hh.1, XJ.out _ ((XI.out y).trans (hh.2.mono (XI.out y).size))⟩))
          clear h1 h2 hv HRT HRU
          generalize str (g.rightL r.right) = rt at *
          generalize str (g.ruleL r.left r.right) = ru at *
          have hq1 : ¬ (9223372036854775807 < cs.size + 3) := by omega
          have hq2 : ¬ (9223372036854775807 < cs.size + 3 + rt.size) := by omega
          have hq3 : cs.size + 3 ≤ 9223372036854775807 := by omega
          have hq4 : cs.size + 3 + rt.size ≤ 9223372036854775807 := by omega
          have hq5 : ¬ (9223372036854775807 < cs.size + 4) := by omega
          have hq6 : ¬ (9223372036854775807 < cs.size + 4 + ru.size) := by omega
          have hq7 : cs.size + 4 ≤ 9223372036854775807 := by omega
          have hq8 : cs.size + 4 + ru.size ≤ 9223372036854775807 := by omega
          have hq9 : ¬ (9223372036854775807 < cs.size + ru.size) := by omega
          have hq10 : cs.size + ru.size ≤ 9223372036854775807 := by omega
          by_cases hk0 : k = 0
          · have HN := Lib.hid (HSF.out hk0)
            subst hk0
            simp only [Nat.zero_mul, Nat.add_zero] at g4 g5 e1 e2
            go_wp2_with fail
            refine wp_region_wd I (by kernel_rfl) (by kernel_rfl) hI ?_
            repeat (go_big_quiet_step (fail))
            refine wpQuiet_nil ?_
            intro _ hw'
            obtain ⟨x0, rfl⟩ := hw'
            have hI0 : I x0.w.drew := XJ.out _ (below_drew (XI.out x0))
            go_wp2_with fail
            refine wp_region_wd I (by kernel_rfl) (by kernel_rfl) hI0 ?_
            repeat (go_big_quiet_step ((first | (go_at_call 19; exact CR.out _) | (go_at_call 9; exact CU.out _))))
            refine wpQuiet_nil ?_
            intro _ hw'
            obtain ⟨x, rfl⟩ := hw'
            have HB5 := Lib.hid (XW.out x)
            have HG5 := Lib.hid (HGR.out.later (XI.out x))
            clear d0 d1 d2 d3 e1 e2 g0 g1 g2 g3 g4 g5
            go_wp2
            go_roundw
            case rel => exact ⟨0 + 1, _, _, by omega, by go_num, rfl, HN, HB5, HG5⟩
            case measure => simp [intOf]; omega
          · obtain ⟨m, rfl⟩ : ∃ m, k = m + 1 := ⟨k - 1, by omega⟩
            obtain ⟨r0, hr0⟩ := HLD.out m (by omega)
            obtain ⟨b', off', A', c', hA', _, h3, h4, _⟩ := HSH.out.cell m r0 hr0
            cases hA'
            have hq0 : r0.left = q := by
              obtain ⟨bs, _, _, _, h1⟩ := HS.out
              exact h1 r0 (by omega) (by rw [Nat.add_sub_cancel]; exact hr0)
            have h01 := HLL.out m r0 hr0
            have HSO2 := Lib.hid (fun e => HSO.out r0 (by omega) (by rw [Nat.add_sub_cancel]; exact hr0) h01 e)
            have g6 := fun y : Wd I => ((XW.out y).cell (p := ⟨b, off + m * 2, none⟩) hlt0).trans h3
            have g7 := fun y : Wd I => ((XW.out y).cell (p := ⟨b, off + m * 2 + 1, none⟩) hlt0).trans h4
            have hm1 : ((m + 1 : Nat) : Int) - 1 = (m : Int) := by omega
            have hm2 : (0 : Int) < ((m + 1 : Nat) : Int) := by omega
            have hm3 : (m : Int) < (nR : Int) := by omega
            clear hr0 h3 h4 hk0
            by_cases hqq : r0.left = r.left
            · have HN := Lib.hid (HSM.out (by rw [← hqq, hq0]))
              have hb : (r0.left == r.left) = true := by simp [hqq]
              clear hqq hq0
              generalize r0.left = l0 at *
              generalize r.left = rl at *
              go_wp2_with fail
              refine wp_region_wd I (by kernel_rfl) (by kernel_rfl) hI ?_
              repeat (go_big_quiet_step (fail))
              refine wpQuiet_nil ?_
              intro _ hw'
              obtain ⟨x0, rfl⟩ := hw'
              have hI0 : I x0.w.drew := XJ.out _ (below_drew (XI.out x0))
              go_wp2_with fail
              refine wp_region_wd I (by kernel_rfl) (by kernel_rfl) hI0 ?_
              repeat (go_big_quiet_step ((first | (go_at_call 19; exact CR.out _) | (go_at_call 9; exact CU.out _))))
              refine wpQuiet_nil ?_
              intro _ hw'
              obtain ⟨x, rfl⟩ := hw'
              have HB5 := Lib.hid (XW.out x)
              have HG5 := Lib.hid (HGR.out.later (XI.out x))
              clear d0 d1 d2 d3 e1 e2 g0 g1 g2 g3 g4 g5
              clear g6 g7
              go_wp2
              go_roundw
              case rel => exact ⟨m + 1 + 1, _, _, by omega, by go_num, rfl, HN, HB5, HG5⟩
              case measure => simp [intOf]; omega
            · have HN := Lib.hid (HSO2.out hqq)
              have hb : (r0.left == r.left) = false := by simp [hqq]
              clear hqq hq0
              generalize r0.left = l0 at *
              generalize r.left = rl at *
              go_wp2_with fail
              refine wp_region_wd I (by kernel_rfl) (by kernel_rfl) hI ?_
              repeat (go_big_quiet_step (fail))
              refine wpQuiet_nil ?_
              intro _ hw'
              obtain ⟨x0, rfl⟩ := hw'
              have hI0 : I x0.w.drew := XJ.out _ (below_drew (XI.out x0))
              go_wp2_with fail
              refine wp_region_wd I (by kernel_rfl) (by kernel_rfl) hI0 ?_
              repeat (go_big_quiet_step ((first | (go_at_call 19; exact CR.out _) | (go_at_call 9; exact CU.out _))))
              refine wpQuiet_nil ?_
              intro _ hw'
              obtain ⟨x, rfl⟩ := hw'
              have HB5 := Lib.hid (XW.out x)
              have HG5 := Lib.hid (HGR.out.later (XI.out x))
              clear d0 d1 d2 d3 e1 e2 g0 g1 g2 g3 g4 g5
              clear g6 g7
              go_wp2
              go_roundw
              case rel => exact ⟨m + 1 + 1, _, _, by omega, by go_num, rfl, HN, HB5, HG5⟩
              case measure => simp [intOf]; omega
        · obtain rfl : k = nR := by omega
          have HT := Lib.hid (HAL.out _ _ HS.out)
          go_wp2
          go_ret
          exact ⟨by rw [HRES.out, ← HT.out]; rfl, HB.out⟩
    · have HHD := Lib.hid (HH1.out (HTE2.out h0))
      have h00 : (0 : Int) < (nT : Int) := by omega
      have hy1 : (⟨#[37, 115, 116, 97, 114, 116, 32]⟩ : ByteArray).size = 7 := rfl
      have hy2 : (⟨#[37, 116, 111, 107, 101, 110]⟩ : ByteArray).size = 6 := rfl
      have hy3 : (⟨#[10]⟩ : ByteArray).size = 1 := rfl
      have hy4 : (⟨#[32]⟩ : ByteArray).size = 1 := rfl
      go_wp2
      clear d0 d1 d2 d3
      go_loopw [3, 4] (fun o i wr => ∃ (k : Nat) (cs : ByteArray), k ≤ nT ∧ i = .int .i64 k ∧ o = .string cs ∧ Hid (cs = (⟨#[37, 116, 111, 107, 101, 110]⟩ : ByteArray) ++ str (blanksL (lT.take k))) ∧ wr = w2) (fun _ i _ => nT - (intOf i).toNat)
      case atStart => exact ⟨0, _, Nat.zero_le _, rfl, rfl, Lib.hid (by rw [List.take_zero]; rfl), rfl⟩
      case round =>
        obtain ⟨k, cs, hk, rfl, rfl, HCS, rfl⟩ := hrel
        obtain ⟨d0, d1, d2, d3⟩ := HG2.out.four
        have hcs : cs.size ≤ 127000006 := by rw [HCS.out, ByteArray.size_append]; have := HTB.out k; omega
        by_cases hlt : k < nT
        · have hx := List.getElem?_eq_getElem (show k < lT.length by rw [HNT.out]; exact hlt)
          generalize lT[k]'(by rw [HNT.out]; exact hlt) = s at hx
          obtain ⟨b, off, hA, hb, hcell⟩ := HC1.out k s hx
          subst hA
          simp only [StrV] at hcell
          have e1 := (HB2.out.cell (p := ⟨b, off + k, none⟩) hb).trans hcell
          have hsz := HTS.out s (List.mem_of_getElem? hx)
          have HN : Hid (cs ++ ⟨#[32]⟩ ++ s = (⟨#[37, 116, 111, 107, 101, 110]⟩ : ByteArray) ++ str (blanksL (lT.take (k + 1)))) := Lib.hid (by rw [HCS.out]; exact (HTN.out k s hx _).symm)
          clear hx hcell
          go_wp2
          go_roundw
          case rel => exact ⟨k + 1, _, by omega, by go_num, rfl, HN, trivial⟩
          case measure => simp [intOf]; omega
        · have hkn : nT = k := by omega
          subst hkn
          rw [HTT.out] at HCS
          go_wp2_with fail
          refine (HNM.out _ HB2.out).mono ?_
          rintro e w3 ⟨rfl, hb3⟩
          have HB3 := Lib.hid (HB2.out.trans (hb3.mono HB2.out.size))
          have HG3 := Lib.hid (HG2.out.later hb3)
          clear hb3 d0 d1 d2 d3
          have hz1 : (⟨#[37, 115, 116, 97, 114, 116, 32]⟩ : ByteArray).size = 7 := rfl
          have hz2 : (⟨#[10, 37, 37, 10]⟩ : ByteArray).size = 4 := rfl
          have hz3 : (⟨#[10, 9, 59, 10]⟩ : ByteArray).size = 4 := rfl
          have hz4 : (⟨#[10, 9, 124]⟩ : ByteArray).size = 3 := rfl
          go_wp2
          go_loopw [3, 5] (fun o i wr => ∃ (k : Nat) (q : Int) (cs : ByteArray), k ≤ nR ∧ i = .int .i64 k ∧ o = .string cs ∧ Hid (SoFar g tot cs q k) ∧ Hid (Below w.heap.size w wr) ∧ Hid (GBox wr w.heap.size (.agg #[.slice AT nT cT, .slice AN nN cN, .slice AR nR cR, .int .i64 gs]))) (fun _ i _ => nR - (intOf i).toNat)
          case atStart => exact ⟨0, 0, _, Nat.zero_le _, rfl, rfl, Lib.hid (by rw [HCS.out, ← HHD.out]; exact HS0.out), HB3, HG3⟩
          case round =>
            obtain ⟨k, q, cs, hk, rfl, rfl, HS, HB, HGR⟩ := hrel
            obtain ⟨d0, d1, d2, d3⟩ := HGR.out.four
            have hcs := HS.out.size HLN.out
            by_cases hlt : k < nR
            · obtain ⟨r, hr⟩ := HLD.out k hlt
              obtain ⟨b, off, A, c, hA, hlt0, h1, h2, hv⟩ := HSH.out.cell k r hr
              subst hA
              have HR1 := Lib.hid h1
              have HR2 := Lib.hid h2
              have HRT := Lib.hid (HSH.out.right k r hr)
              have HRU := Lib.hid (HSH.out.rule k r hr)
              obtain ⟨hsz1, hsz2⟩ := HRL.out k r hr
              have hl1 := HLL.out k r hr
              have HSM := Lib.hid (fun e => HS.out.same hr e)
              have HSO := Lib.hid (fun r0 hk0 hr0 h01 e => HS.out.other (r0 := r0) hk0 hr0 h01 hr e)
              have HSF := Lib.hid (fun (hk0 : k = 0) => SoFar.first (show SoFar g tot cs q 0 from hk0 ▸ HS.out) (show g.R[0]? = some r from hk0 ▸ hr) hl1)
              simp only [RuV] at HRT HRU
              rw [hv] at HRT HRU
              obtain ⟨I, hI1, hI2⟩ : ∃ I : World → Prop, (∀ w', I w' → Below wr.heap.size wr w') ∧ (∀ w', Below wr.heap.size wr w' → I w') := ⟨_, fun _ h => h, fun _ h => h⟩
              have hI : I wr.drew := hI2 _ (below_drew (Below.refl _ _))
              have hne : Nonempty (Wd I) := ⟨⟨_, hI⟩⟩
              have XI := Lib.hid (fun x : Wd I => hI1 _ x.ok)
              have XW := Lib.hid (fun x : Wd I => HB.out.trans ((hI1 _ x.ok).mono HB.out.size))
              have XJ := Lib.hid hI2
              clear hI1 hI2
              have g0 := fun y : Wd I => ((HGR.out.later (XI.out y)).four).1
              have g1 := fun y : Wd I => ((HGR.out.later (XI.out y)).four).2.1
              have g2 := fun y : Wd I => ((HGR.out.later (XI.out y)).four).2.2.1
              have g3 := fun y : Wd I => ((HGR.out.later (XI.out y)).four).2.2.2
              have g4 := fun y : Wd I => ((XW.out y).cell (p := ⟨b, off + k * 2, none⟩) hlt0).trans HR1.out
              have g5 := fun y : Wd I => ((XW.out y).cell (p := ⟨b, off + k * 2 + 1, none⟩) hlt0).trans HR2.out
              have e1 := (HB.out.cell (p := ⟨b, off + k * 2, none⟩) hlt0).trans h1
              have e2 := (HB.out.cell (p := ⟨b, off + k * 2 + 1, none⟩) hlt0).trans h2
              have CR := Lib.hid (fun y : Wd I => wd_call (I := I) (v := .string (str (g.rightL r.right))) ((HRT.out y.w (XW.out y)).mono fun e w' hh => ⟨hh.1, XJ.out _ ((XI.out y).trans (hh.2.mono (XI.out y).size))⟩))
              have CU := Lib.hid (fun y : Wd I => wd_call (I := I) (v := .string (str (g.ruleL r.left r.right))) ((HRU.out y.w (XW.out y)).mono fun e w' hh => ⟨hh.1, XJ.out _ ((XI.out y).trans (hh.2.mono (XI.out y).size))⟩))
              clear h1 h2 hv HRT HRU
              generalize str (g.rightL r.right) = rt at *
              generalize str (g.ruleL r.left r.right) = ru at *
              have hq1 : ¬ (9223372036854775807 < cs.size + 3) := by omega
              have hq2 : ¬ (9223372036854775807 < cs.size + 3 + rt.size) := by omega
              have hq3 : cs.size + 3 ≤ 9223372036854775807 := by omega
              have hq4 : cs.size + 3 + rt.size ≤ 9223372036854775807 := by omega
              have hq5 : ¬ (9223372036854775807 < cs.size + 4) := by omega
              have hq6 : ¬ (9223372036854775807 < cs.size + 4 + ru.size) := by omega
              have hq7 : cs.size + 4 ≤ 9223372036854775807 := by omega
              have hq8 : cs.size + 4 + ru.size ≤ 9223372036854775807 := by omega
              have hq9 : ¬ (9223372036854775807 < cs.size + ru.size) := by omega
              have hq10 : cs.size + ru.size ≤ 9223372036854775807 := by omega
              by_cases hk0 : k = 0
              · have HN := Lib.hid (HSF.out hk0)
                subst hk0
                simp only [Nat.zero_mul, Nat.add_zero] at g4 g5 e1 e2
                go_wp2_with fail
                refine wp_region_wd I (by kernel_rfl) (by kernel_rfl) hI ?_
                repeat (go_big_quiet_step (fail))
                refine wpQuiet_nil ?_
                intro _ hw'
                obtain ⟨x0, rfl⟩ := hw'
                have hI0 : I x0.w.drew := XJ.out _ (below_drew (XI.out x0))
                go_wp2_with fail
                refine wp_region_wd I (by kernel_rfl) (by kernel_rfl) hI0 ?_
                repeat (go_big_quiet_step ((first | (go_at_call 19; exact CR.out _) | (go_at_call 9; exact CU.out _))))
                refine wpQuiet_nil ?_
                intro _ hw'
                obtain ⟨x, rfl⟩ := hw'
                have HB5 := Lib.hid (XW.out x)
                have HG5 := Lib.hid (HGR.out.later (XI.out x))
                clear d0 d1 d2 d3 e1 e2 g0 g1 g2 g3 g4 g5
                go_wp2
                go_roundw
                case rel => exact ⟨0 + 1, _, _, by omega, by go_num, rfl, HN, HB5, HG5⟩
                case measure => simp [intOf]; omega
              · obtain ⟨m, rfl⟩ : ∃ m, k = m + 1 := ⟨k - 1, by omega⟩
                obtain ⟨r0, hr0⟩ := HLD.out m (by omega)
                obtain ⟨b', off', A', c', hA', _, h3, h4, _⟩ := HSH.out.cell m r0 hr0
                cases hA'
                have hq0 : r0.left = q := by
                  obtain ⟨bs, _, _, _, h1⟩ := HS.out
                  exact h1 r0 (by omega) (by rw [Nat.add_sub_cancel]; exact hr0)
                have h01 := HLL.out m r0 hr0
                have HSO2 := Lib.hid (fun e => HSO.out r0 (by omega) (by rw [Nat.add_sub_cancel]; exact hr0) h01 e)
                have g6 := fun y : Wd I => ((XW.out y).cell (p := ⟨b, off + m * 2, none⟩) hlt0).trans h3
                have g7 := fun y : Wd I => ((XW.out y).cell (p := ⟨b, off + m * 2 + 1, none⟩) hlt0).trans h4
                have hm1 : ((m + 1 : Nat) : Int) - 1 = (m : Int) := by omega
                have hm2 : (0 : Int) < ((m + 1 : Nat) : Int) := by omega
                have hm3 : (m : Int) < (nR : Int) := by omega
                clear hr0 h3 h4 hk0
                by_cases hqq : r0.left = r.left
                · have HN := Lib.hid (HSM.out (by rw [← hqq, hq0]))
                  have hb : (r0.left == r.left) = true := by simp [hqq]
                  clear hqq hq0
                  generalize r0.left = l0 at *
                  generalize r.left = rl at *
                  go_wp2_with fail
                  refine wp_region_wd I (by kernel_rfl) (by kernel_rfl) hI ?_
                  repeat (go_big_quiet_step (fail))
                  refine wpQuiet_nil ?_
                  intro _ hw'
                  obtain ⟨x0, rfl⟩ := hw'
                  have hI0 : I x0.w.drew := XJ.out _ (below_drew (XI.out x0))
                  go_wp2_with fail
                  refine wp_region_wd I (by kernel_rfl) (by kernel_rfl) hI0 ?_
                  repeat (go_big_quiet_step ((first | (go_at_call 19; exact CR.out _) | (go_at_call 9; exact CU.out _))))
                  refine wpQuiet_nil ?_
                  intro _ hw'
                  obtain ⟨x, rfl⟩ := hw'
                  have HB5 := Lib.hid (XW.out x)
                  have HG5 := Lib.hid (HGR.out.later (XI.out x))
                  clear d0 d1 d2 d3 e1 e2 g0 g1 g2 g3 g4 g5
                  clear g6 g7
                  go_wp2
                  go_roundw
                  case rel => exact ⟨m + 1 + 1, _, _, by omega, by go_num, rfl, HN, HB5, HG5⟩
                  case measure => simp [intOf]; omega
                · have HN := Lib.hid (HSO2.out hqq)
                  have hb : (r0.left == r.left) = false := by simp [hqq]
                  clear hqq hq0
                  generalize r0.left = l0 at *
                  generalize r.left = rl at *
                  go_wp2_with fail
                  refine wp_region_wd I (by kernel_rfl) (by kernel_rfl) hI ?_
                  repeat (go_big_quiet_step (fail))
                  refine wpQuiet_nil ?_
                  intro _ hw'
                  obtain ⟨x0, rfl⟩ := hw'
                  have hI0 : I x0.w.drew := XJ.out _ (below_drew (XI.out x0))
                  go_wp2_with fail
                  refine wp_region_wd I (by kernel_rfl) (by kernel_rfl) hI0 ?_
                  repeat (go_big_quiet_step ((first | (go_at_call 19; exact CR.out _) | (go_at_call 9; exact CU.out _))))
                  refine wpQuiet_nil ?_
                  intro _ hw'
                  obtain ⟨x, rfl⟩ := hw'
                  have HB5 := Lib.hid (XW.out x)
                  have HG5 := Lib.hid (HGR.out.later (XI.out x))
                  clear d0 d1 d2 d3 e1 e2 g0 g1 g2 g3 g4 g5
                  clear g6 g7
                  go_wp2
                  go_roundw
                  case rel => exact ⟨m + 1 + 1, _, _, by omega, by go_num, rfl, HN, HB5, HG5⟩
                  case measure => simp [intOf]; omega
            · obtain rfl : k = nR := by omega
              have HT := Lib.hid (HAL.out _ _ HS.out)
              go_wp2
              go_ret
              exact ⟨by rw [HRES.out, ← HT.out]; rfl, HB.out⟩
end Go.Proofs.Ytdbmeocpjopdhaa
