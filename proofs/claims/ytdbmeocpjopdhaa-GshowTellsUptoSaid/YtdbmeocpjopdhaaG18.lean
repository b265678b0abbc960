/- A grammar as text: the program's. -/
import Derived.Test.YtdbmeocpjopdhaaG17
namespace Go.Proofs.Ytdbmeocpjopdhaa
open Go.RowKit
open Gm (blanksL)
set_option linter.unusedVariables false
/-- All its numbers are numbers. -/
def Gm.ints (g : Gm) : Prop := -9223372036854775808 ≤ g.s ∧ ∀ r ∈ g.R, -9223372036854775808 ≤ r.left ∧ ∀ s ∈ r.right, -9223372036854775808 ≤ s
theorem check_zero {g : Gm} (h : g.check = 0) : g.T.length ≤ 120 ∧ g.N.length ≤ 120 ∧ g.R.length ≤ 300 ∧ (∀ r ∈ g.R, r.right.length ≤ 8) ∧ ∀ r ∈ g.R, 1 ≤ r.left := by
  unfold Gm.check at h
  split at h
  · rename_i hf
    split at h
    · split at h
      · split at h
        · rename_i hk
          unfold Gm.few at hf
          simp only [Bool.and_eq_true, decide_eq_true_eq, List.all_eq_true] at hf
          unfold Gm.known at hk
          simp only [Bool.and_eq_true, List.all_eq_true] at hk
          refine ⟨hf.1.1, hf.1.2, hf.2.1, fun r hr => ?_, fun r hr => ?_⟩
          · have := hf.2.2 r hr
            unfold shortR at this
            exact of_decide_eq_true this
          · have := hk.2 r hr
            unfold Gm.knownR Gm.non at this
            simp only [Bool.and_eq_true, decide_eq_true_eq] at this
            omega
        · cases h
      · cases h
    · cases h
  · cases h
theorem rightL_len8 (g : Gm) (h : g.small) (l : List Int) (hl : l.length ≤ 8) : (g.rightL l).length ≤ 8388616 := by
  rw [rightL_map]
  have h1 := blanksL_len (l.map g.name) 1048576 (fun s hs => by
    obtain ⟨x, _, rfl⟩ := List.mem_map.1 hs
    exact Gm.name_size h x)
  rw [List.length_map] at h1
  omega
theorem ruleL_len8 (g : Gm) (h : g.small) (k : Int) (l : List Int) (hl : l.length ≤ 8) : (g.ruleL k l).length ≤ 9437194 := by
  have h1 := rightL_len8 g h l hl
  have h2 := Gm.name_size h k
  unfold Gm.ruleL
  rw [List.length_append, List.length_append, len_size]
  simp only [List.length_cons, List.length_nil]
  omega
theorem rulesL_len (g : Gm) (h : g.small) (l : List Ru) (hl : ∀ r ∈ l, r.right.length ≤ 8) (k : Int) : (g.rulesL k l).length ≤ l.length * 10000000 := by
  induction l generalizing k with
  | nil => simp [Gm.rulesL]
  | cons r l ih =>
    have h1 := ih (fun x hx => hl x (List.mem_cons_of_mem _ hx)) r.left
    have h2 := rightL_len8 g h r.right (hl r (by simp))
    have h3 := ruleL_len8 g h r.left r.right (hl r (by simp))
    simp only [Gm.rulesL, List.length_append, List.length_cons]
    split
    · simp only [List.length_append, List.length_cons, List.length_nil]; omega
    · rw [List.length_append]
      split
      · simp only [List.length_nil]; omega
      · simp only [List.length_cons, List.length_nil]; omega
theorem headsL_len (g : Gm) (h : g.small) (hT : g.T.length ≤ 120) : g.headsL.length ≤ 127000000 := by
  have h1 := Gm.name_size h g.s
  have h2 := blanksL_len g.T 1048576 h.1
  have h3 : g.startL.length ≤ 1048587 := by
    unfold Gm.startL
    rw [List.length_append, List.length_append, len_size]
    simp only [List.length_cons, List.length_nil]
    omega
  unfold Gm.headsL
  split
  · omega
  · rw [List.length_append, List.length_append, List.length_append]
    simp only [List.length_cons, List.length_nil]
    omega
theorem builder_later {T e : TypeId} {B b : Nat} {bs : List Value} {w w' : World} (h : Lib.IsBuilder T e B b bs w) (hb : Below w.heap.size w w') : Lib.IsBuilder T e B b bs w' := by
  have step : ∀ p, Lib.BuilderAt T e B b p bs w → Lib.BuilderAt T e B b p bs w' := fun p hp => by
    have hlt := hp.lt
    obtain ⟨hB, v, h1, h2, h3⟩ := hp
    exact ⟨hB, v, by rw [hb.block b hlt]; exact h1, own_below h2 hb, h3⟩
  rcases h with h | h
  · exact .inl (step _ h)
  · exact .inr (step _ h)
theorem cells_app (l m : List UInt8) : Lib.byteCells l ++ Lib.strCells (str m) = Lib.byteCells (l ++ m) := by
  unfold Lib.byteCells Lib.strCells
  rw [data_str, List.map_append]
/-- What is still to be shown behind bs. -/
def Left (g : Gm) (tot bs : List UInt8) (q : Int) (k : Nat) : Prop := tot = bs ++ g.rulesL q (g.R.drop k)
theorem drop_cons {α : Type} {l : List α} {k : Nat} {r : α} (h : l[k]? = some r) : l.drop k = r :: l.drop (k + 1) := by
  obtain ⟨hk, rfl⟩ := List.getElem?_eq_some_iff.1 h
  exact List.drop_eq_getElem_cons hk
theorem Left.same {g : Gm} {tot bs : List UInt8} {q : Int} {k : Nat} {r : Ru} (h : Left g tot bs q k) (hr : g.R[k]? = some r) (e : r.left = q) : Left g tot (bs ++ ([10, 9, 124] ++ g.rightL r.right)) q (k + 1) := by
  unfold Left at *
  rw [h, drop_cons hr]
  simp only [Gm.rulesL, if_pos e]
  rw [e]
  simp only [List.append_assoc]
theorem Left.first {g : Gm} {tot bs : List UInt8} {k : Nat} {r : Ru} (h : Left g tot bs 0 k) (hr : g.R[k]? = some r) (e : ¬ r.left = 0) : Left g tot (bs ++ g.ruleL r.left r.right) r.left (k + 1) := by
  unfold Left at *
  rw [h, drop_cons hr]
  simp only [Gm.rulesL, if_neg e, if_pos trivial]
  simp only [List.append_assoc, List.nil_append]
theorem Left.other {g : Gm} {tot bs : List UInt8} {q : Int} {k : Nat} {r : Ru} (h : Left g tot bs q k) (hr : g.R[k]? = some r) (e : ¬ r.left = q) (e0 : ¬ q = 0) : Left g tot ((bs ++ [10, 9, 59, 10]) ++ g.ruleL r.left r.right) r.left (k + 1) := by
  unfold Left at *
  rw [h, drop_cons hr]
  simp only [Gm.rulesL, if_neg e, if_neg e0]
  simp only [List.append_assoc]
theorem Left.len {g : Gm} {tot bs : List UInt8} {q : Int} {k : Nat} (h : Left g tot bs q k) : bs.length ≤ tot.length := by
  unfold Left at h
  rw [h, List.length_append]
  omega
theorem Left.all {g : Gm} {tot bs : List UInt8} {q : Int} (h : Left g tot bs q g.R.length) : tot = bs := by
  unfold Left at h
  rw [h, List.drop_of_length_le (Nat.le_refl _)]
  simp [Gm.rulesL]
theorem loaded {α : Type} {l : List α} {k : Nat} (h : k < l.length) : ∃ r, l[k]? = some r := ⟨l[k], List.getElem?_eq_getElem h⟩
/-- What Show's loop asks. -/
structure Shows (w : World) (AR : Option Addr) (v : Value) (g : Gm) : Prop where
  cell : ∀ (k : Nat) (r : Ru), g.R[k]? = some r → ∃ b off A c, AR = some ⟨b, off, none⟩ ∧ b < w.heap.size ∧ w.cell? ⟨b, off + k * 2, none⟩ = some (.int .i64 r.left) ∧ w.cell? ⟨b, off + k * 2 + 1, none⟩ = some (.slice A r.right.length c) ∧ r.v = .slice A r.right.length c
  right : ∀ (k : Nat) (r : Ru), g.R[k]? = some r → ∀ y, Below w.heap.size w y → Calls Try.prog 14 #[v, RuV r] y (Text y (str (g.rightL r.right)))
  rule : ∀ (k : Nat) (r : Ru), g.R[k]? = some r → ∀ y, Below w.heap.size w y → Calls Try.prog 8 #[v, RuV r] y (Text y (str (g.ruleL r.left r.right)))
theorem shows_any {w : World} {v : Value} {g : Gm} {AR : Option Addr} {cR : Nat} (h : GrR w v g) (hi : g.ints) (h8 : ∀ r ∈ g.R, r.right.length ≤ 8) (hR : Rul w (.slice AR g.R.length cR) g.R) : Shows w AR v g where
  cell := fun k r hr => by
    obtain ⟨⟨A, c, e, hc⟩, _⟩ := id hR
    cases e
    obtain ⟨b, off, hA, hlt, h1, h2, ⟨A2, c2, hv, _⟩, _⟩ := hc k r hr
    exact ⟨b, off, A2, c2, hA, hlt, h1, by rw [← hv]; exact h2, hv⟩
  right := fun k r hr y hy => right_any (h.later hy) ⟨rfl, (hR.mem (List.mem_of_getElem? hr)).later hy⟩ (by have := h8 r (List.mem_of_getElem? hr); omega) (hi.2 r (List.mem_of_getElem? hr)).2
  rule := fun k r hr y hy => rule_any (h.later hy) ⟨rfl, (hR.mem (List.mem_of_getElem? hr)).later hy⟩ (by have := h8 r (List.mem_of_getElem? hr); omega) (hi.2 r (List.mem_of_getElem? hr)).2 (hi.2 r (List.mem_of_getElem? hr)).1
theorem show_no {g : Gm} (h : ¬ (g.check = 0 ∧ g.ordered = true)) : str g.showL = ⟨#[]⟩ := by unfold Gm.showL; rw [if_neg h]; rfl
set_option maxRecDepth 100000 in
set_option maxHeartbeats 6400000 in
theorem show_any {w : World} {v : Value} {g : Gm} (h : GrR w v g) (hi : g.ints) : Calls Try.prog 6 #[v] w (Text w (str g.showL)) := by
  have HCK := Lib.hid (fun y (hy : Below w.heap.size w y) => check_any (h.later hy))
  have HOR := Lib.hid (fun y (hy : Below w.heap.size w y) => ord_any (h.later hy))
  have HHD := Lib.hid (fun y (hy : Below w.heap.size w y) => heads_any (h.later hy) hi.1)
  have hsm := h.small
  have HG := Lib.hid (GBox.new w 25 v)
  have HNO := Lib.hid (@show_no g)
  obtain ⟨AT, cT, AN, cN, AR, cR, rfl, hT, hN, hR⟩ := h.open_
  by_cases hc : g.check = 0
  case neg =>
    have HR := Lib.hid (HNO.out (fun hh => hc hh.1))
    have hne : (g.check != 0) = true := by simpa using hc
    clear HOR HHD HNO h hi hsm hT hN hR hc
    generalize str g.showL = res at *
    generalize g.check = ck at *
    generalize g.T.length = nT at *
    generalize g.N.length = nN at *
    generalize g.R.length = nR at *
    generalize g.s = gs at *
    go_enter Try.func6, Try.ntmps6
    go_wp2_with fail
    refine (HCK.out _ (below_alloc w _)).mono ?_
    rintro e w1 ⟨rfl, hb1⟩
    have HB1 := Lib.hid (below_alloc_trans hb1)
    clear hb1
    go_wp2
    go_ret
    exact ⟨by rw [HR.out]; rfl, HB1.out⟩
  obtain ⟨q1, q2, q3, q4, q5⟩ := check_zero hc
  rw [hc] at HCK
  cases ho : g.ordered with
  | false =>
    rw [ho] at HOR
    have HR := Lib.hid (HNO.out (fun hh => by rw [ho] at hh; cases hh.2))
    clear HHD HNO h hi hsm hT hN hR hc ho q4 q5
    generalize str g.showL = res at *
    generalize g.T.length = nT at *
    generalize g.N.length = nN at *
    generalize g.R.length = nR at *
    generalize g.s = gs at *
    go_enter Try.func6, Try.ntmps6
    go_wp2_with fail
    refine (HCK.out _ (below_alloc w _)).mono ?_
    rintro e w1 ⟨rfl, hb1⟩
    have HB1 := Lib.hid (below_alloc_trans hb1)
    obtain ⟨d0, d1, d2, d3⟩ := (HG.out.later hb1).four
    clear hb1
    go_wp2_with fail
    refine (HOR.out _ HB1.out).mono ?_
    rintro e w2 ⟨rfl, hb2⟩
    have HB2 := Lib.hid (HB1.out.trans (hb2.mono HB1.out.size))
    clear hb2 d0 d1 d2 d3
    go_wp2
    go_ret
    exact ⟨by rw [HR.out]; rfl, HB2.out⟩
  | true =>
    rw [ho] at HOR
    have HSH := Lib.hid (shows_any h hi q4 hR)
    have HRES : Hid (str g.showL = str (g.headsL ++ (g.rulesL 0 g.R ++ [10, 9, 59, 10]))) := Lib.hid (by unfold Gm.showL; rw [if_pos ⟨hc, ho⟩])
    have HLN : Hid ((g.headsL ++ g.rulesL 0 g.R).length ≤ 4000000000) := Lib.hid (by
      have h1 := headsL_len g hsm q1
      have h2 := rulesL_len g hsm g.R q4 0
      rw [List.length_append]
      omega)
    have HL0 : Hid (Left g (g.headsL ++ g.rulesL 0 g.R) g.headsL 0 0) := Lib.hid (by unfold Left; rw [List.drop_zero])
    have HLL := Lib.hid (fun (k : Nat) (r : Ru) (hr : g.R[k]? = some r) => q5 r (List.mem_of_getElem? hr))
    have HH : Hid (g.headsL.length ≤ 127000000) := Lib.hid (headsL_len g hsm q1)
    have HAL : Hid (∀ bs q, Left g (g.headsL ++ g.rulesL 0 g.R) bs q g.R.length → g.headsL ++ g.rulesL 0 g.R = bs) := Lib.hid (fun bs q hh => hh.all)
    have HSM := Lib.hid hsm
    have HLD : Hid (∀ k, k < g.R.length → ∃ r, g.R[k]? = some r) := Lib.hid (fun k hk => loaded hk)
    rw [← List.append_assoc] at HRES
    clear HNO h hi hsm hT hN hR hc ho q4 q5
    generalize str g.showL = res at *
    generalize g.headsL ++ g.rulesL 0 g.R = tot at *
    generalize g.headsL = hd at *
    generalize g.T.length = nT at *
    generalize g.N.length = nN at *
    generalize g.R.length = nR at *
    generalize g.s = gs at *
    go_enter Try.func6, Try.ntmps6
    go_wp2_with fail
    refine (HCK.out _ (below_alloc w _)).mono ?_
    rintro e w1 ⟨rfl, hb1⟩
    have HB1 := Lib.hid (below_alloc_trans hb1)
    have HG1 := Lib.hid (HG.out.later hb1)
    obtain ⟨d0, d1, d2, d3⟩ := HG1.out.four
    clear hb1
    go_wp2_with fail
    refine (HOR.out _ HB1.out).mono ?_
    rintro e w2 ⟨rfl, hb2⟩
    have HB2 := Lib.hid (HB1.out.trans (hb2.mono HB1.out.size))
    have HG2 := Lib.hid (HG1.out.later hb2)
    clear hb2 d0 d1 d2 d3
    obtain ⟨d0, d1, d2, d3⟩ := HG2.out.four
    have hg2 := HG2.out.lt
    have hws2 := HB2.out.size
    go_wp2_with fail
    refine (HHD.out _ (below_more HB2.out _)).mono ?_
    rintro e w3 ⟨rfl, hb3⟩
    have hbld0 : Lib.IsBuilder 40 5 w2.heap.size w2.heap.size (Lib.byteCells []) (w2.alloc (.cells #[.pointer none, .slice none 0 0] 40)) := .inl ⟨Nat.le_refl _, _, Blk.new w2 40 _, ⟨rfl, .inl ⟨rfl, rfl⟩⟩, by simp [Value.ownBlock]⟩
    have HI3 := Lib.hid (builder_later hbld0 hb3)
    have HB3 := Lib.hid (below_alloc_trans hb3)
    have hws3 := HB3.out.size
    have hhd := HH.out
    clear hb3 hbld0 d0 d1 d2 d3
    go_wp2_with fail
    refine (wstr_any _ _ _ (str hd) w3 HI3.out (by rw [cells_len, str_size]; simp; omega) hws3).mono ?_
    rintro e w4 ⟨rfl, hi4, hb4⟩
    have HI4 : Hid (Lib.IsBuilder 40 5 w2.heap.size w2.heap.size (Lib.byteCells hd) w4) := Lib.hid (by rw [cells_app] at hi4; exact .inr hi4)
    have HB4 := Lib.hid (HB3.out.trans hb4)
    clear hi4 hb4
    obtain ⟨d0, d1, d2, d3⟩ := (HG2.out.later HB4.out).four
    go_wp2
    clear d0 d1 d2 d3
    go_loopw [4, 21] (fun la i wr => ∃ (k : Nat) (q : Int) (bs : List UInt8), k ≤ nR ∧ i = .int .i64 k ∧ la = .int .i64 q ∧ Hid (Left g tot bs q k) ∧ Hid (Lib.IsBuilder 40 5 w2.heap.size w2.heap.size (Lib.byteCells bs) wr) ∧ Hid (Below w2.heap.size w2 wr)) (fun _ i _ => nR - (intOf i).toNat)
    case atStart => exact ⟨0, 0, hd, Nat.zero_le _, rfl, rfl, HL0, HI4, HB4⟩
    case round =>
      obtain ⟨k, q, bs, hk, rfl, rfl, HL, HI, HB⟩ := hrel
      have hws := HB.out.size
      have HW := Lib.hid (HB2.out.trans (HB.out.mono hws2))
      have hln := Nat.le_trans HL.out.len HLN.out
      by_cases hlt : k < nR
      · obtain ⟨r, hr⟩ := HLD.out k hlt
        obtain ⟨b, off, A, c, hA, hlt0, h1, h2, hv⟩ := HSH.out.cell k r hr
        subst hA
        have e1 := (HW.out.cell (p := ⟨b, off + k * 2, none⟩) hlt0).trans h1
        have e2 := (HW.out.cell (p := ⟨b, off + k * 2 + 1, none⟩) hlt0).trans h2
        have HRT := Lib.hid (HSH.out.right k r hr)
        have HRU := Lib.hid (HSH.out.rule k r hr)
        have hl1 := HLL.out k r hr
        have HS := Lib.hid (fun e => HL.out.same hr e)
        have HO := Lib.hid (fun e e0 => HL.out.other hr e e0)
        have HF := Lib.hid (fun (hq : q = 0) (e : ¬ r.left = 0) => Left.first (show Left g tot bs 0 k from hq ▸ HL.out) hr e)
        obtain ⟨d0, d1, d2, d3⟩ := (HG2.out.later HB.out).four
        have hgr : w.heap.size < wr.heap.size := by omega
        simp only [RuV] at HRT HRU
        rw [hv] at HRT HRU
        clear hr h1 h2 hv
        generalize g.rightL r.right = rtl at *
        generalize g.ruleL r.left r.right = rul at *
        generalize r.left = rl at *
        generalize r.right.length = rn at *
        by_cases hq : rl = q
        · have HN := Lib.hid (HS.out hq)
          have hn := Nat.le_trans HN.out.len HLN.out
          have hq1 : (q == rl) = true := by simp [hq]
          rw [List.length_append, List.length_append] at hn
          simp only [List.length_cons, List.length_nil] at hn
          clear hq
          go_wp2_with fail
          refine (HRT.out _ (below_more HW.out _)).mono ?_
          rintro e w5 ⟨rfl, hb5⟩
          have HI5 := Lib.hid (builder_later HI.out ((below_alloc wr _).trans (hb5.mono (by simp))))
          have HB5 := Lib.hid (HB.out.trans ((below_alloc_trans hb5).mono hws))
          have hws5 := HB5.out.size
          have hrs : (str rtl).size = rtl.length := str_size rtl
          clear hb5 d0 d1 d2 d3
          go_wp2_with fail
          refine (wstr_any _ _ _ _ w5 HI5.out (by rw [cells_len, ByteArray.size_append, str_size]; have h3 : (⟨#[10, 9, 124]⟩ : ByteArray).size = 3 := rfl; omega) hws5).mono ?_
          rintro e w6 ⟨rfl, hi6, hb6⟩
          have HI6 : Hid (Lib.IsBuilder 40 5 w2.heap.size w2.heap.size (Lib.byteCells (bs ++ ([10, 9, 124] ++ rtl))) w6) := Lib.hid (by
            rw [show (⟨#[10, 9, 124]⟩ : ByteArray) ++ str rtl = str ([10, 9, 124] ++ rtl) from str_append _ _, cells_app] at hi6
            exact .inr hi6)
          have HB6 := Lib.hid (HB5.out.trans hb6)
          clear hi6 hb6
          go_wp2
          go_roundw
          case rel => exact ⟨k + 1, q, _, by omega, by go_num, rfl, HN, HI6, HB6⟩
          case measure => simp [intOf]; omega
        · have hq1 : (q == rl) = false := beq_eq_false_iff_ne.2 (fun e => hq e.symm)
          by_cases hq0 : q = 0
          · have HN := Lib.hid (HF.out hq0 (by omega))
            have hn := Nat.le_trans HN.out.len HLN.out
            have hq2 : (q == 0) = true := by simp [hq0]
            rw [List.length_append] at hn
            clear hq hq0
            go_wp2_with fail
            refine (HRU.out _ (below_more HW.out _)).mono ?_
            rintro e w5 ⟨rfl, hb5⟩
            have HI5 := Lib.hid (builder_later HI.out ((below_alloc wr _).trans (hb5.mono (by simp))))
            have HB5 := Lib.hid (HB.out.trans ((below_alloc_trans hb5).mono hws))
            have BX := Lib.hid ((Blk.new wr 28 #[.int .i64 rl, .slice A rn c]).below hb5 (by simp))
            have hws5 := HB5.out.size
            clear hb5 d0 d1 d2 d3
            go_wp2_with fail
            refine (wstr_full _ _ _ (str rul) w5 HI5.out (by rw [cells_len, str_size]; omega) hws5).mono ?_
            rintro e w6 ⟨rfl, ⟨hi6, hb6⟩, hk6⟩
            have HI6 : Hid (Lib.IsBuilder 40 5 w2.heap.size w2.heap.size (Lib.byteCells (bs ++ rul)) w6) := Lib.hid (by
              rw [cells_app] at hi6
              exact .inr hi6)
            have HB6 := Lib.hid (HB5.out.trans hb6)
            have c6 := (hk6.blk BX.out (.inr (by decide))).cell 0
            simp only [List.getElem?_toArray, List.getElem?_cons_zero] at c6
            clear hi6 hb6 hk6
            go_wp2
            go_roundw
            case rel => exact ⟨k + 1, rl, _, by omega, by go_num, rfl, HN, HI6, HB6⟩
            case measure => simp [intOf]; omega
          · have HN := Lib.hid (HO.out hq hq0)
            have hn := Nat.le_trans HN.out.len HLN.out
            have hq2 : (q == 0) = false := beq_eq_false_iff_ne.2 hq0
            rw [List.length_append, List.length_append] at hn
            simp only [List.length_cons, List.length_nil] at hn
            have hsz : (⟨#[10, 9, 59, 10]⟩ : ByteArray).size = 4 := rfl
            have hxa : Below w2.heap.size w2 (wr.alloc (.cells #[.int .i64 rl, .slice A rn c] 28)) := HB.out.alloc hws _
            have HXA := Lib.hid hxa
            have hxs := hxa.size
            have HI4' := Lib.hid (builder_later HI.out (below_alloc wr (.cells #[.int .i64 rl, .slice A rn c] 28)))
            clear hq hq0 hxa
            go_wp2_with fail
            refine (wstr_full _ _ _ (str [10, 9, 59, 10]) _ HI4'.out (by rw [cells_len, str_size]; simp only [List.length_cons, List.length_nil]; omega) hxs).mono ?_
            rintro e w4' ⟨rfl, ⟨hi4, hb4⟩, hk4⟩
            have HIX : Hid (Lib.IsBuilder 40 5 w2.heap.size w2.heap.size (Lib.byteCells (bs ++ [10, 9, 59, 10])) w4') := Lib.hid (by
              rw [cells_app] at hi4
              exact .inr hi4)
            have HBX := Lib.hid (HXA.out.trans hb4)
            have hwsx := HBX.out.size
            have BX4 := Lib.hid (hk4.blk (Blk.new wr 28 #[.int .i64 rl, .slice A rn c]) (.inr (by decide)))
            have c0 := BX4.out.cell 0
            have c1 := BX4.out.cell 1
            simp only [List.getElem?_toArray, List.getElem?_cons_zero, List.getElem?_cons_succ] at c0 c1
            have HWX := Lib.hid (HB2.out.trans (HBX.out.mono hws2))
            clear hi4 hb4 hk4 d0 d1 d2 d3
            obtain ⟨d0, d1, d2, d3⟩ := (HG2.out.later HBX.out).four
            go_wp2_with fail
            refine (HRU.out _ HWX.out).mono ?_
            rintro e w5 ⟨rfl, hb5⟩
            have HI5 := Lib.hid (builder_later HIX.out hb5)
            have HB5 := Lib.hid (HBX.out.trans (hb5.mono hwsx))
            have BX := Lib.hid (BX4.out.below hb5 BX4.out.lt)
            have hws5 := HB5.out.size
            clear hb5 d0 d1 d2 d3 c0 c1
            go_wp2_with fail
            refine (wstr_full _ _ _ (str rul) w5 HI5.out (by rw [cells_len, str_size, List.length_append]; simp only [List.length_cons, List.length_nil]; omega) hws5).mono ?_
            rintro e w6 ⟨rfl, ⟨hi6, hb6⟩, hk6⟩
            have HI6 : Hid (Lib.IsBuilder 40 5 w2.heap.size w2.heap.size (Lib.byteCells ((bs ++ [10, 9, 59, 10]) ++ rul)) w6) := Lib.hid (by
              rw [cells_app] at hi6
              exact .inr hi6)
            have HB6 := Lib.hid (HB5.out.trans hb6)
            have c6 := (hk6.blk BX.out (.inr (by decide))).cell 0
            simp only [List.getElem?_toArray, List.getElem?_cons_zero] at c6
            clear hi6 hb6 hk6
            go_wp2
            go_roundw
            case rel => exact ⟨k + 1, rl, _, by omega, by go_num, rfl, HN, HI6, HB6⟩
            case measure => simp [intOf]; omega
      · obtain rfl : k = nR := by omega
        have HT := Lib.hid (HAL.out bs q HL.out)
        have hsz : (⟨#[10, 9, 59, 10]⟩ : ByteArray).size = 4 := rfl
        go_wp2_with fail
        refine (wstr_any _ _ _ (str [10, 9, 59, 10]) wr HI.out (by rw [cells_len, str_size]; simp only [List.length_cons, List.length_nil]; omega) hws).mono ?_
        rintro e w5 ⟨rfl, hi5, hb5⟩
        have HI5 : Hid (Lib.IsBuilder 40 5 w2.heap.size w2.heap.size (Lib.byteCells (bs ++ [10, 9, 59, 10])) w5) := Lib.hid (by
          rw [cells_app] at hi5
          exact .inr hi5)
        have HB5 := Lib.hid (HB.out.trans hb5)
        have hws5 := HB5.out.size
        clear hi5 hb5
        go_wp2_with fail
        refine (Try.Builder_String_any _ _ _ w5 HI5.out hws5).mono ?_
        rintro e w6 ⟨rfl, hw6⟩
        have HB6 := Lib.hid (HB2.out.trans ((HB5.out.trans hw6).mono hws2))
        clear hw6
        go_wp2
        go_ret
        exact ⟨by rw [HRES.out, HT.out]; rfl, HB6.out⟩
end Go.Proofs.Ytdbmeocpjopdhaa
