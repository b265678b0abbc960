/- Parts as they lie in memory, read only: wherever they came from. The reference's one, its ways put together. The reference's All: are parts right at a place? The reference's Right: is a word right? Much: how many parts, and bytes, there are. Cmds over parts that came from anywhere. The reference's text of parts. Same: two trees of parts that are the same but for commands. -/
import Derived.Test.YtpadnckmheippaaTe
import Derived.Test.YtpadnckmheippaaTc
import Derived.Deep.QuietTactic
import Derived.BigQuiet
import Derived.IntWalk
import Derived.Test.YtpadnckmheippaaS27
namespace Go.Proofs.Ytpadnckmheippaa
open Go.RowKit
set_option linter.unusedVariables false
def bytesV (l : List UInt8) : ByteArray := ⟨l.toArray⟩
theorem bytesV_data (l : List UInt8) : (bytesV l).data.toList = l := by simp [bytesV]
theorem bytesV_list (l : List UInt8) : (bytesV l).toList = l := by rw [toList_data, bytesV_data]
theorem bytesV_size (l : List UInt8) : (bytesV l).size = l.length := by rw [← len_size, bytesV_data]
/-- What is asked of a part's texts and commands. -/
def Fit (p : PT) : Prop := p.text.length ≤ 4611686018427387904 ∧ p.op.length ≤ 4611686018427387904 ∧ ∃ A n k, p.cmds = .slice A n k
inductive Lies (w : World) : Value → List PT → Prop where
  | empty (A : Option Addr) (c : Nat) : Lies w (.slice A 0 c) []
  | row (b off c : Nat) (l : List (PT × Value)) (hb : b < w.heap.size) (hcell : ∀ i j, ∀ hi : i < l.length, j < 5 → w.cell? ⟨b, off + i * 5 + j, none⟩ = (partCells l[i])[j]?) (hm : l.length ≤ 9223372036854775807)
      (hq : ∀ x ∈ l, Fit x.1) (hk : ∀ x ∈ l, Lies w x.2 x.1.kids) : Lies w (.slice (some ⟨b, off, none⟩) l.length c) (l.map (·.1))
theorem Dead.lies {N : Nat} (hN : N ≤ 4611686018427387904) {w : World} {F : List Nat} {v : Value} {ps : List PT} (h : Dead w F v ps) : (∀ p ∈ ps, Neat N p) → Lies w v ps := by
  induction h with
  | nil => exact fun _ => .empty _ _
  | row b c cur l hF hb hc hl hm hk ih =>
    intro hne
    have hb0 : b < w.heap.size := (Array.getElem?_eq_some_iff.1 hb).1
    refine .row b 0 c l hb0 (fun i j hi hj => ?_) ?_ (fun x hx => ?_) (fun x hx => ?_)
    · rw [cell_of_row w b _ cur _ (0, 0) hb, Nat.zero_add, ← fm_get partCells 5 partCells_len l i j hi hj, ← hc, ← Array.getElem?_toList]
      have : i * 5 + j < l.length * 5 := by
        have := Nat.mul_le_mul_right 5 (show i + 1 ≤ l.length by omega)
        omega
      rw [List.getElem?_take_of_lt this]
    · unfold maxLen at hm; omega
    · have hn := hne x.1 (List.mem_map.2 ⟨x, hx, rfl⟩)
      cases hx1 : x.1 with
      | mk k t o kids cm =>
        rw [hx1] at hn
        cases hn with
        | mk _ _ _ _ ht ho hk2 => exact ⟨by simp only [PT.text]; omega, by simp only [PT.op]; omega, none, 0, 0, rfl⟩
    · refine ih x hx ?_
      have hn := hne x.1 (List.mem_map.2 ⟨x, hx, rfl⟩)
      cases hx1 : x.1 with
      | mk k t o kids cm =>
        rw [hx1] at hn
        cases hn with
        | mk _ _ _ _ ht ho hk2 => exact hk2
theorem Lies.later {w w' : World} {v : Value} {ps : List PT} (h : Lies w v ps) (hb : Below w.heap.size w w') : Lies w' v ps := by
  induction h with
  | empty A c => exact .empty A c
  | row b off c l hlt hcell hm hq hk ih => exact .row b off c l (Nat.lt_of_lt_of_le hlt hb.size) (fun i j hi hj => (hb.cell (p := ⟨b, off + i * 5 + j, none⟩) hlt).trans (hcell i j hi hj)) hm hq ih
/-- What a slice of kids is. -/
theorem Lies.form {w : World} {v : Value} {ps : List PT} (h : Lies w v ps) : ∃ A c, v = .slice A ps.length c := by
  cases h with
  | empty A c => exact ⟨A, c, rfl⟩
  | row b off c l => exact ⟨some ⟨b, off, none⟩, c, by simp⟩
theorem Lies.first {w : World} {v : Value} {p : PT} {r : List PT} (h : Lies w v (p :: r)) : ∃ b off c, v = .slice (some ⟨b, off, none⟩) (r.length + 1) c ∧ b < w.heap.size ∧ w.cell? ⟨b, off, none⟩ = some (.int .i64 p.k) ∧ w.cell? ⟨b, off + 1, none⟩ = some (.string (bytesV p.text)) := by
  generalize hps : p :: r = ps at h
  cases h with
  | empty A c => cases hps
  | row b off c l hlt hcell hm hq hk =>
    cases l with
    | nil => cases hps
    | cons x l =>
      simp only [List.map_cons, List.cons.injEq] at hps
      have h1 := hcell 0 0 (by simp) (by omega)
      have h2 := hcell 0 1 (by simp) (by omega)
      refine ⟨b, off, c, by rw [hps.2]; simp, hlt, ?_, ?_⟩
      · rw [hps.1]; exact h1
      · rw [hps.1]; exact h2
theorem isEmpty_len {α : Type} (l : List α) : l.isEmpty = ((l.length : Int) == 0) := by
  cases l with
  | nil => rfl
  | cons a l => symm; rw [beq_eq_false_iff_ne.2 (by simp; omega)]; rfl
end Go.Proofs.Ytpadnckmheippaa

namespace Go.Proofs.Ytpadnckmheippaa
open Go.RowKit
set_option linter.unusedVariables false
theorem named_any (t : ByteArray) (h : t.size ≤ 4611686018427387904) : Named t :=
  ⟨fun y => rname_any t (by omega) y, fun y => rdigits_any t (by omega) y, fun c y => rspecial_any c y⟩
theorem one_any {w0 w : World} {kv : Value} (p : PT) (hf : Fit p) (hd : Lies w0 kv p.kids) (hw : Below w0.heap.size w0 w) (pl : Nat) (hpl : pl ≤ 2)
    (hall : ∀ (q : Nat) (i : Int), i = q → q ≤ 2 → ∀ y, Below w0.heap.size w0 y → Calls Try.prog 24 #[kv, .int .i64 i] y (Says y (allB p.kids q))) :
    Calls Try.prog 31 #[partV p.k (bytesV p.text) (bytesV p.op) kv p.cmds, .int .i64 pl] w (Says w (oneB p pl)) := by
  cases p with
  | mk k t o kids cm =>
    obtain ⟨ht, ho, cA, cn, cc, hc⟩ := hf
    simp only [PT.kids] at hd hall
    simp only [PT.k, PT.text, PT.op, PT.cmds] at *
    subst hc
    obtain ⟨A, c, rfl⟩ := hd.form
    have hts : (bytesV t).size ≤ 4611686018427387904 := by rw [bytesV_size]; omega
    have hall2 : ∀ (q : Nat) (i : Int), i = q → q ≤ 2 → ∀ y, Below w.heap.size w y → Calls Try.prog 24 #[.slice A kids.length c, .int .i64 i] y (Says y (allB kids q)) := fun q i hi hq y hy => hall q i hi hq y (hw.trans (hy.mono hw.size))
    have hkl : kids ≠ [] → 0 < kids.length := fun h => by
      cases kids with
      | nil => exact absurd rfl h
      | cons _ _ => simp
    by_cases hcn : k ≠ 6 ∧ 0 < cn
    · have e0 : oneB (.mk k t o kids (.slice cA cn cc)) pl = false := by
        have a1 : (k == 6) = false := beq_eq_false_iff_ne.2 hcn.1
        have a2 : (cn == 0) = false := beq_eq_false_iff_ne.2 (by omega)
        unfold oneB
        simp [cmdsLen, a1, a2]
      rw [e0]
      by_cases h5 : k = 5
      · subst h5; exact one_bad3a hcn.2
      by_cases hoe : o = []
      · subst hoe
        by_cases h4 : k = 4
        · subst h4; exact one_bad3b hcn.2
        by_cases hkn : kids = []
        · subst hkn; exact one_bad3c h5 h4 hcn.1 hcn.2
        · exact one_bad2 h5 h4 (hkl hkn)
      · exact one_bad1 h5 (by rw [bytesV_list]; exact hoe)
    by_cases h6 : k = 6
    · subst h6
      by_cases hoe : o = []
      · subst hoe
        by_cases hkn : kids = []
        · subst hkn
          have e0 : oneB (.mk 6 t [] [] (.slice cA cn cc)) pl = (bytesV t).toList.isEmpty := by rw [bytesV_list]; unfold oneB; simp
          rw [e0]
          exact one_cmd
        · have e0 : oneB (.mk 6 t [] kids (.slice cA cn cc)) pl = false := by
            have a3 : kids.isEmpty = false := by simpa using hkn
            unfold oneB
            simp [a3]
          rw [e0]
          exact one_bad2 (by decide) (by decide) (hkl hkn)
      · have e0 : oneB (.mk 6 t o kids (.slice cA cn cc)) pl = false := by
          have a2 : o.isEmpty = false := by simpa using hoe
          unfold oneB
          simp [a2]
        rw [e0]
        exact one_bad1 (by decide) (by rw [bytesV_list]; exact hoe)
    obtain rfl : cn = 0 := by omega
    by_cases h5 : k = 5
    · subst h5
      have e0 : oneB (.mk 5 t o kids (.slice cA 0 cc)) pl = (paramText t && (if o = [] ∨ o = [108, 101, 110] then kids.isEmpty else opB o && t != [35] && allB kids 2 && frontB o kids)) := by
        unfold oneB; simp [cmdsLen]
      rw [e0]
      refine one_param fun y hy => ?_
      have hall3 : ∀ (q : Nat) (i : Int), i = q → q ≤ 2 → ∀ z, Below y.heap.size y z → Calls Try.prog 24 #[.slice A kids.length c, .int .i64 i] z (Says z (allB kids q)) := fun q i hi hq z hz => hall2 q i hi hq z (hy.trans (hz.mono hy.size))
      by_cases hpt : paramText t = true
      · have hw1 : NameWay (bytesV t) := name_way (named_any _ hts) (by rw [bytesV_data]; exact hpt)
        rw [hpt, Bool.true_and]
        by_cases hsh : o = [] ∨ o = [108, 101, 110]
        · rw [if_pos hsh, isEmpty_len]
          exact param_short hw1 (hsh.imp (fun e => by rw [e]; rfl) (fun e => by rw [e]; rfl))
        · rw [if_neg hsh]
          have ho1 : (bytesV o).toList ≠ [] := fun e => hsh (.inl (by rw [← bytesV_list o, e]))
          have ho2 : (bytesV o).toList ≠ [108, 101, 110] := fun e => hsh (.inr (by rw [← bytesV_list o, e]))
          have hop : ∀ z, Calls Try.prog 85 #[.string (bytesV o)] z (Says z (opB o)) := fun z => by
            have := op_any (bytesV o) z
            rw [bytesV_data] at this
            exact this
          by_cases hob : opB o = true
          · rw [hob] at hop ⊢
            rw [Bool.true_and]
            by_cases hth : t = [35]
            · subst hth
              exact param_op_hash hw1 (bytesV_list _) ho1 ho2 hop
            · have hth2 : (bytesV t).toList ≠ [35] := by rw [bytesV_list]; exact hth
              have hth3 : (t != [35]) = true := by simpa using hth
              rw [hth3, Bool.true_and]
              by_cases hsimple : allB kids 2 = false ∨ (allB kids 2 = true ∧ kids.length = 0) ∨ (allB kids 2 = true ∧ (bytesV o).toList ≠ [37] ∧ (bytesV o).toList ≠ [35])
              · have e1 : (allB kids 2 && frontB o kids) = allB kids 2 := by
                  rcases hsimple with h | ⟨_, h⟩ | ⟨_, h, h'⟩
                  · rw [h]; rfl
                  · have : kids = [] := List.eq_nil_of_length_eq_zero h
                    subst this
                    simp [frontB]
                  · rw [bytesV_list] at h h'
                    have a1 : (o == [37]) = false := beq_eq_false_iff_ne.2 h
                    have a2 : (o == [35]) = false := beq_eq_false_iff_ne.2 h'
                    simp [frontB, a1, a2]
                rw [e1]
                exact param_op_kids hw1 hth2 ho1 ho2 hop (hall3 2 2 rfl (by omega)) hsimple
              · have hb : allB kids 2 = true := by
                  cases h : allB kids 2 with
                  | true => rfl
                  | false => exact absurd (.inl h) hsimple
                have hq : o = [37] ∨ o = [35] := by
                  by_cases h1 : o = [37]
                  · exact .inl h1
                  · by_cases h2 : o = [35]
                    · exact .inr h2
                    · exact absurd (.inr (.inr ⟨hb, by rw [bytesV_list]; exact h1, by rw [bytesV_list]; exact h2⟩)) hsimple
                cases kids with
                | nil => exact absurd (.inr (.inl ⟨hb, rfl⟩)) hsimple
                | cons x r =>
                  obtain ⟨kb, ko, kc, hkv, hkb, hk0, hk1⟩ := hd.first
                  cases hkv
                  have hbw : kb < y.heap.size := Nat.lt_of_lt_of_le hkb (Nat.le_trans hw.size hy.size)
                  have hwy : Below w0.heap.size w0 y := hw.trans (hy.mono hw.size)
                  have hk0' := (hwy.cell (p := ⟨kb, ko, none⟩) hkb).trans hk0
                  have hk1' := (hwy.cell (p := ⟨kb, ko + 1, none⟩) hkb).trans hk1
                  have hx0 : x.k = 1 → 0 < (bytesV x.text).size := fun e => by
                    have h1 : oneB x 2 = true := by
                      simp only [allB, Bool.and_eq_true] at hb
                      exact hb.1.1
                    cases x with
                    | mk xk xt xo xkids xc =>
                      simp only [PT.k] at e
                      subst e
                      rw [bytesV_size]
                      simp only [PT.text]
                      cases xt with
                      | nil => simp [oneB, litB] at h1
                      | cons _ _ => simp
                  have hall4 := hall3 2 2 rfl (by omega)
                  rw [hb] at hall4
                  obtain ⟨q, hqo, hq2⟩ : ∃ q : UInt8, o = [q] ∧ (q = 37 ∨ q = 35) := by
                    rcases hq with h | h
                    · exact ⟨37, h, .inl rfl⟩
                    · exact ⟨35, h, .inr rfl⟩
                  subst hqo
                  have e2 : (allB (x :: r) 2 && frontB [q] (x :: r)) = (x.k != 1 || ((bytesV x.text).data.toList.headD 0 != q)) := by
                    rw [hb, bytesV_data]
                    rcases hq2 with rfl | rfl <;> simp [frontB]
                  rw [e2]
                  exact param_op_front hw1 hth2 q hq2 hop kb ko (by simp) x.k (bytesV x.text) hall4 hbw hk0' hk1' hx0
          · have hob2 : opB o = false := by simpa using hob
            rw [hob2] at hop ⊢
            exact param_op_no hw1 ho1 ho2 hop
      · have hpt2 : paramText t = false := by simpa using hpt
        rw [hpt2, Bool.false_and]
        exact param_no (named_any _ hts) (by rw [bytesV_data]; exact hpt2)
    · by_cases hoe : o = []
      · subst hoe
        by_cases h4 : k = 4
        · subst h4
          have e0 : oneB (.mk 4 t [] kids (.slice cA 0 cc)) pl = (!((pl : Int) == 1) && (bytesV t).toList.isEmpty && allB kids 1) := by
            have e1 : ((pl : Int) == 1) = (pl == 1) := nat_test pl 1
            rw [e1, bytesV_list]
            unfold oneB
            simp [cmdsLen, bne]
          rw [e0]
          exact one_double (hall2 1 1 rfl (by omega))
        · by_cases hkn : kids = []
          · subst hkn
            by_cases h1 : k = 1
            · subst h1
              have e0 : oneB (.mk 1 t [] [] (.slice cA 0 cc)) pl = litB pl t := by unfold oneB; simp [cmdsLen]
              rw [e0]
              exact one_lit fun y => by
                have := literal_any (bytesV t) hts pl hpl y
                rw [bytesV_data] at this
                exact this
            by_cases h2 : k = 2
            · subst h2
              by_cases hz : t.length = 1
              · match t, hz with
                | [x], _ =>
                  have h0 : 0 < (bytesV [x]).size := by rw [bytesV_size]; simp
                  have e0 : oneB (.mk 2 [x] [] [] (.slice cA 0 cc)) pl = (!((x.toNat : Int) == 0) && !((x.toNat : Int) == 10) && (!((pl : Int) == 1) || quotes x)) := by
                    have e1 : ((pl : Int) == 1) = (pl == 1) := nat_test pl 1
                    have e2 : ((x.toNat : Int) == 0) = (x == 0) := byte_test x 0
                    have e3 : ((x.toNat : Int) == 10) = (x == 10) := byte_test x 10
                    rw [e1, e2, e3]
                    unfold oneB
                    simp [cmdsLen, bne]
                  rw [e0]
                  exact one_esc h0 rfl fun y => rquotes_any x y
              · have e0 : oneB (.mk 2 t [] [] (.slice cA 0 cc)) pl = false := by
                  unfold oneB
                  have : (t.length == 1) = false := beq_eq_false_iff_ne.2 hz
                  simp [cmdsLen, this]
                rw [e0]
                exact one_esc1 (by rw [bytesV_size]; exact hz)
            by_cases h3 : k = 3
            · subst h3
              have e0 : oneB (.mk 3 t [] [] (.slice cA 0 cc)) pl = (pl != 1 && clearB t 39) := by unfold oneB; simp [cmdsLen]
              rw [e0]
              exact one_single fun y => by
                have := clear_any (bytesV t) (by omega) 39 y
                rw [bytesV_data] at this
                exact this
            by_cases h7 : k = 7
            · subst h7
              have e0 : oneB (.mk 7 t [] [] (.slice cA 0 cc)) pl = arithB t := by unfold oneB; simp [cmdsLen]
              rw [e0]
              exact one_arith fun y => by
                have := arithp_any (bytesV t) hts y
                rw [bytesV_data] at this
                exact this
            · have e0 : oneB (.mk k t [] [] (.slice cA 0 cc)) pl = false := by
                unfold oneB
                simp [h1, h2, h3, h4, h5, h6, h7]
              rw [e0]
              exact one_none h1 h2 h3 h4 h5 h6 h7
          · have e0 : oneB (.mk k t [] kids (.slice cA 0 cc)) pl = false := by
              have a1 : (k == 5) = false := beq_eq_false_iff_ne.2 h5
              have a2 : (k == 4) = false := beq_eq_false_iff_ne.2 h4
              have a3 : kids.isEmpty = false := by simpa using hkn
              unfold oneB
              simp [a1, a2, a3]
            rw [e0]
            exact one_bad2 h5 h4 (hkl hkn)
      · have e0 : oneB (.mk k t o kids (.slice cA 0 cc)) pl = false := by
          have a1 : (k == 5) = false := beq_eq_false_iff_ne.2 h5
          have a2 : o.isEmpty = false := by simpa using hoe
          unfold oneB
          simp [a1, a2]
        rw [e0]
        exact one_bad1 h5 (by rw [bytesV_list]; exact hoe)
end Go.Proofs.Ytpadnckmheippaa

namespace Go.Proofs.Ytpadnckmheippaa
open Go.RowKit
set_option linter.unusedVariables false
set_option linter.unusedSimpArgs false
theorem allB_app {a b : List PT} {q : Nat} (h : allB a q = false) : allB (a ++ b) q = false := by
  induction a with
  | nil => simp [allB] at h
  | cons p r ih =>
    rw [List.cons_append]
    simp only [allB] at h ⊢
    cases r with
    | nil =>
      simp only [allB, Bool.and_true] at h
      simp [h]
    | cons x r =>
      simp only [Bool.and_eq_false_iff] at h
      rcases h with (h | h) | h
      · simp [h]
      · have h2 : allB (x :: r ++ b) q = false := ih h
        simp only [List.cons_append] at h2
        simp [h2]
      · simp [h]
theorem allB_take {l : List (PT × Value)} {q k : Nat} (h : allB ((l.take k).map (·.1)) q = false) : allB (l.map (·.1)) q = false := by
  rw [← List.take_append_drop k l, List.map_append]
  exact allB_app h
theorem all_first (l : List (PT × Value)) (q : Nat) (h : 0 < l.length) : allB ((l.take 1).map (·.1)) q = oneB l[0].1 q := by
  cases l with
  | nil => simp at h
  | cons x r => simp [allB]
theorem all_next (l : List (PT × Value)) (q k : Nat) (h : k < l.length) (hk : 1 ≤ k) : allB ((l.take (k + 1)).map (·.1)) q = (allB ((l.take k).map (·.1)) q && oneB l[k].1 q && jointB (l[k - 1]'(by omega)).1 l[k].1) := by
  rw [List.take_succ_eq_append_getElem h, List.map_append, List.map_cons, List.map_nil, allB_snoc]
  have : ((l.take k).map (·.1)).getLast? = some (l[k - 1]'(by omega)).1 := by
    rw [List.getLast?_map, List.getLast?_take]
    rw [if_neg (by omega), List.getElem?_eq_getElem (by omega)]
    rfl
  rw [this]
/-- Each of the parts is right. -/
theorem all_each (l : List (PT × Value)) (q k j : Nat) (h : allB ((l.take k).map (·.1)) q = true) (hj : j < k) (hk : k ≤ l.length) : oneB (l[j]'(by omega)).1 q = true := by
  have h1 : ∀ (a : List PT), allB a q = true → ∀ x ∈ a, oneB x q = true := by
    intro a
    induction a with
    | nil => intro _ x hx; cases hx
    | cons y r ih =>
      intro ha x hx
      simp only [allB, Bool.and_eq_true] at ha
      rcases List.mem_cons.1 hx with rfl | hx
      · exact ha.1.1
      · exact ih ha.1.2 x hx
  refine h1 _ h _ (List.mem_map.2 ⟨l[j]'(by omega), ?_, rfl⟩)
  exact List.mem_take_iff_getElem.2 ⟨j, by omega, rfl⟩
theorem lit_pos {p : PT} {q : Nat} (h : oneB p q = true) (hk : p.k = 1) : 0 < p.text.length := by
  cases p with
  | mk k t o kids c =>
    simp only [PT.k] at hk
    subst hk
    simp only [PT.text]
    cases t with
    | nil => simp [oneB, litB] at h
    | cons _ _ => simp
/-- Where two parts stand side by side, in numbers. -/
theorem joint_lit (p q : PT) (h : p.k = 1) (hz : 0 < (bytesV p.text).size) : jointB p q = (!(q.k == 1) && !((((bytesV p.text)[(bytesV p.text).size - 1]'(by omega)).toNat : Int) == 36 && (q.k == 5 || q.k == 6 || q.k == 7))) := by
  have h1 : (p.k != 1) = false := by simpa using h
  have h2 : ((((bytesV p.text)[(bytesV p.text).size - 1]'(by omega)).toNat : Int) == 36) = (p.text.getLastD 0 == 36) := by
    rw [show ((((bytesV p.text)[(bytesV p.text).size - 1]'(by omega)).toNat : Int) == 36) = (((bytesV p.text)[(bytesV p.text).size - 1]'(by omega)) == 36) from byte_test _ 36]
    congr 1
    rw [List.getLastD_eq_getLast?, List.getLast?_eq_getElem?]
    have hs := bytesV_size p.text
    have h3 : p.text[p.text.length - 1]? = some ((bytesV p.text)[(bytesV p.text).size - 1]'(by omega)) := by
      have : (bytesV p.text).data.toList[(bytesV p.text).size - 1]? = some ((bytesV p.text)[(bytesV p.text).size - 1]'(by omega)) := by
        rw [Array.getElem?_toList]
        exact Array.getElem?_eq_getElem (by show (bytesV p.text).size - 1 < (bytesV p.text).size; omega)
      rw [bytesV_data] at this
      rw [← this, hs]
    rw [h3]; rfl
  unfold jointB
  rw [h1, Bool.false_or, h2]
  rfl
theorem joint_no (p q : PT) (h : p.k ≠ 1) : jointB p q = true := by
  unfold jointB
  have : (p.k != 1) = true := by simpa using h
  rw [this, Bool.true_or]
theorem all_nil (w : World) (q : Nat) (A : Option Addr) (c : Nat) : Calls Try.prog 24 #[.slice A 0 c, .int .i64 q] w (Says w true) := by
  go_enter Try.func24, Try.ntmps24
  go_wp2
  go_loop [5] (fun i => i = .int .i64 0) (fun _ => 0)
  case atStart => exact rfl
  case round =>
    subst hrel
    go_wp2
    go_ret
    exact ⟨rfl, Below.refl _ _⟩
/-- What is true at a round's head. -/
def AllAt (w : World) (l : List (PT × Value)) (q k : Nat) (wr : World) : Prop := allB ((l.take k).map (·.1)) q = true ∧ Below w.heap.size w wr
set_option maxRecDepth 100000 in
set_option maxHeartbeats 6400000 in
theorem all_any {w0 : World} {v : Value} {ps : List PT} (h : Lies w0 v ps) : ∀ (q : Nat) (qi : Int), qi = q → q ≤ 2 → ∀ w, Below w0.heap.size w0 w → Calls Try.prog 24 #[v, .int .i64 qi] w (Says w (allB ps q)) := by
  induction h with
  | empty A c => exact fun q qi hqi _ w _ => by subst hqi; exact all_nil w q A c
  | row b off c l hb0 hcell hll hfit hk ih =>
    intro q qi hqi hq w hw
    have hone : ∀ i, ∀ hi : i < l.length, ∀ y, Below w0.heap.size w0 y → Calls Try.prog 31 #[.agg #[.int .i64 l[i].1.k, .string (bytesV l[i].1.text), .string (bytesV l[i].1.op), l[i].2, l[i].1.cmds], .int .i64 qi] y (Says y (oneB l[i].1 q)) := fun i hi y hy => by
      rw [hqi]
      exact one_any l[i].1 (hfit l[i] (List.getElem_mem hi)) (hk l[i] (List.getElem_mem hi)) hy q hq fun q' i' hi' hq' z hz => ih l[i] (List.getElem_mem hi) q' i' hi' hq' z hz
    have HCELL := Lib.hid hcell
    have HONE := Lib.hid hone
    have HW := Lib.hid hw
    have HFIRST := Lib.hid (all_first l q)
    have HNEXT := Lib.hid (all_next l q)
    have HEACH := Lib.hid (fun k j => all_each l q k j)
    have HFALSE := Lib.hid (fun k => allB_take (l := l) (q := q) (k := k))
    have hws := hw.size
    have HSZ := Lib.hid (fun i => fun hi : i < l.length => (by rw [bytesV_size]; exact (hfit l[i] (List.getElem_mem hi)).1 : (bytesV l[i].1.text).size ≤ 4611686018427387904))
    clear hcell hone hw ih hk hqi hq hfit
    generalize hq0 : allB (l.map (·.1)) q = R at *
    have HR := Lib.hid hq0
    clear hq0
    go_enter Try.func24, Try.ntmps24
    go_wp2
    go_loopw [5, 6] (fun i _ wr => ∃ k : Nat, k ≤ l.length ∧ i = .int .i64 k ∧ AllAt w l q k wr) (fun i _ _ => l.length - (intOf i).toNat)
    case atStart => exact ⟨0, Nat.zero_le _, rfl, rfl, Below.refl _ _⟩
    case round =>
      obtain ⟨k, hk, rfl, hat⟩ := hrel
      have HAT := Lib.hid hat
      clear hat
      by_cases hlt : k < l.length
      · have hw2 : Below w0.heap.size w0 wr := HW.out.trans (HAT.out.2.mono hws)
        have e0 := (hw2.cell (p := ⟨b, off + k * 5 + 0, none⟩) hb0).trans (HCELL.out k 0 hlt (by omega))
        have e1 := (hw2.cell (p := ⟨b, off + k * 5 + 1, none⟩) hb0).trans (HCELL.out k 1 hlt (by omega))
        have e2 := (hw2.cell (p := ⟨b, off + k * 5 + 2, none⟩) hb0).trans (HCELL.out k 2 hlt (by omega))
        have e3 := (hw2.cell (p := ⟨b, off + k * 5 + 3, none⟩) hb0).trans (HCELL.out k 3 hlt (by omega))
        have e4 := (hw2.cell (p := ⟨b, off + k * 5 + 4, none⟩) hb0).trans (HCELL.out k 4 hlt (by omega))
        simp only [partCells, List.getElem?_cons_zero, List.getElem?_cons_succ, Nat.add_zero] at e0 e1 e2 e3 e4
        have H1 := Lib.hid (HONE.out k hlt wr hw2)
        have HW2 := Lib.hid hw2
        clear hw2
        go_wp2_with fail
        refine H1.out.mono ?_
        rintro e w2 ⟨rfl, hb2⟩
        have HB2 := Lib.hid (HAT.out.2.trans (hb2.mono HAT.out.2.size))
        have HW3 := Lib.hid (HW2.out.trans (hb2.mono HW2.out.size))
        clear hb2 e2 e3 e4
        by_cases ho : oneB l[k].1 q = true
        · have HO := Lib.hid ho
          rw [ho]
          clear ho
          have d0 := (HW3.out.cell (p := ⟨b, off + k * 5 + 0, none⟩) hb0).trans (HCELL.out k 0 hlt (by omega))
          simp only [partCells, List.getElem?_cons_zero, List.getElem?_cons_succ, Nat.add_zero] at d0
          clear e0 e1
          by_cases hk0 : k = 0
          · subst hk0
            go_wp2
            go_roundw
            case rel => exact ⟨1, by omega, by go_num, (HFIRST.out hlt).trans HO.out, HB2.out⟩
            case measure => simp [intOf]; omega
          · have hk1 : 1 ≤ k := by omega
            have hkk : 1 ≤ (k : Int) := by omega
            have hk0f : ((k : Int) == 0) = false := by simp; omega
            have hlt1 : k - 1 < l.length := by omega
            have HN := HNEXT.out k hlt hk1
            rw [HAT.out.1, HO.out, Bool.true_and] at HN
            have HNX := Lib.hid HN
            have c0 := (HW3.out.cell (p := ⟨b, off + (k - 1) * 5 + 0, none⟩) hb0).trans (HCELL.out (k - 1) 0 hlt1 (by omega))
            have c1 := (HW3.out.cell (p := ⟨b, off + (k - 1) * 5 + 1, none⟩) hb0).trans (HCELL.out (k - 1) 1 hlt1 (by omega))
            simp only [partCells, List.getElem?_cons_zero, List.getElem?_cons_succ, Nat.add_zero] at c0 c1
            have HP1 := Lib.hid (HEACH.out k (k - 1) HAT.out.1 (by omega) hk)
            have HS1 := Lib.hid (HSZ.out (k - 1) hlt1)
            clear HN hk0
            obtain ⟨x, hx⟩ : ∃ x, (l[k - 1]).1 = x := ⟨_, rfl⟩
            obtain ⟨y, hy⟩ : ∃ y, (l[k]).1 = y := ⟨_, rfl⟩
            rw [hx] at c0 c1 HNX HP1 HS1
            rw [hy] at d0 HNX
            have HX := Lib.hid hx
            have HY := Lib.hid hy
            clear hx hy
            by_cases hj : x.k = 1
            · have hz : 0 < (bytesV x.text).size := by rw [bytesV_size]; exact lit_pos HP1.out hj
              have hz2 := HS1.out
              have HJ := Lib.hid (joint_lit x y hj hz)
              rw [hj] at c0
              have c1' : w2.cell? ⟨b, off + (k - 1) * 5 + 1, none⟩ = some (.string (bytesV x.text)) := c1
              clear c1 hj
              generalize hyk : y.k = yk at *
              have HYK := Lib.hid hyk
              clear hyk
              go_wp2
              all_goals first
                | (go_ret
                   exact ⟨ret_bool (by
                     refine (HFALSE.out (k + 1) (HNX.out.trans (HJ.out.trans ?_))).symm
                     rw [Bool.eq_false_iff]; intro hh; simp only [Bool.and_eq_true, Bool.or_eq_true, Bool.and_eq_false_iff, Bool.or_eq_false_iff, Bool.not_eq_true', Bool.not_eq_false', beq_iff_eq, beq_eq_false_iff_ne, bne_iff_ne, bne_eq_false_iff_eq, ne_eq, Bool.false_eq_true, Bool.true_eq_false, reduceCtorEq, not_true, not_false_iff] at * <;> omega), HB2.out⟩)
                | (go_roundw
                   case rel => exact ⟨k + 1, by omega, by go_num, HNX.out.trans (HJ.out.trans (by simp only [Bool.and_eq_true, Bool.or_eq_true, Bool.and_eq_false_iff, Bool.or_eq_false_iff, Bool.not_eq_true', Bool.not_eq_false', beq_iff_eq, beq_eq_false_iff_ne, bne_iff_ne, bne_eq_false_iff_eq, ne_eq, Bool.false_eq_true, Bool.true_eq_false, reduceCtorEq, not_true, not_false_iff] at * <;> omega)), HB2.out⟩
                   case measure => simp [intOf]; omega)
            · have hj1 : (x.k != 1) = true := by simpa using hj
              have HJ := Lib.hid (joint_no x y hj)
              clear hj
              generalize x.k = xk at *
              go_wp2
              go_roundw
              case rel => exact ⟨k + 1, by omega, by go_num, HNX.out.trans HJ.out, HB2.out⟩
              case measure => simp [intOf]; omega
        · have ho2 : oneB l[k].1 q = false := by simpa using ho
          have HR2 : Hid (R = false) := Lib.hid (by
            refine HFALSE.out (k + 1) ?_
            by_cases hk0 : k = 0
            · subst hk0; rw [HFIRST.out hlt]; exact ho2
            · rw [HNEXT.out k hlt (by omega), ho2, Bool.and_false, Bool.false_and])
          rw [ho2]
          clear ho ho2 e0 e1
          go_wp2
          go_ret
          exact ⟨ret_bool HR2.out.symm, HB2.out⟩
      · obtain rfl : k = l.length := by omega
        have HR2 : Hid (R = true) := Lib.hid (by
          have h1 := HAT.out.1
          rw [List.take_length] at h1
          exact HR.out.symm.trans h1)
        have HB := Lib.hid HAT.out.2
        clear HAT
        go_wp2
        go_ret
        exact ⟨ret_bool HR2.out.symm, HB.out⟩
end Go.Proofs.Ytpadnckmheippaa

namespace Go.Proofs.Ytpadnckmheippaa
open Go.RowKit
set_option linter.unusedVariables false
theorem box_one {w w1 : World} {a : Value} {t : TypeId} (h : Below (w.alloc (.cells #[a] t)).heap.size (w.alloc (.cells #[a] t)) w1) : w1.cell? ⟨w.heap.size, 0, none⟩ = some a ∧ w.heap.size < w1.heap.size :=
  ⟨(h.cell (p := ⟨w.heap.size, 0, none⟩) (by simp)).trans ((Blk.new w t _).cell 0), by have := h.size; simp at this; omega⟩
theorem right_none (w : World) (c : Nat) (A : Option Addr) : Calls Try.prog 9 #[.agg #[.slice A 0 c]] w (Says w false) := by
  go_enter Try.func9, Try.ntmps9
  go_wp2
  all_goals go_ret
  all_goals exact ⟨rfl, below_box _ _⟩
theorem right_no {w : World} {n c : Nat} {A : Option Addr} (hn : 0 < n) (h : ∀ y, Below w.heap.size w y → Calls Try.prog 24 #[.slice A n c, .int .i64 0] y (Says y false)) : Calls Try.prog 9 #[.agg #[.slice A n c]] w (Says w false) := by
  have H := Lib.hid h
  clear h
  go_enter Try.func9, Try.ntmps9
  go_wp2_with (go_at_call 24; refine (H.out _ (below_box _ _)).mono ?_; rintro e w' ⟨rfl, hb⟩; have HB := Lib.hid (below_boxed hb); clear hb)
  all_goals go_ret
  all_goals exact ⟨rfl, HB.out⟩
theorem right_yes {w : World} {n c b off : Nat} (hn : 0 < n) (h : ∀ y, Below w.heap.size w y → Calls Try.prog 24 #[.slice (some ⟨b, off, none⟩) n c, .int .i64 0] y (Says y true)) (hb : b < w.heap.size) (k0 : Int) (t0 : ByteArray)
    (hk0 : w.cell? ⟨b, off, none⟩ = some (.int .i64 k0)) (hk1 : w.cell? ⟨b, off + 1, none⟩ = some (.string t0)) (ht0 : k0 = 1 → 0 < t0.size) :
    Calls Try.prog 9 #[.agg #[.slice (some ⟨b, off, none⟩) n c]] w (Says w (k0 != 1 || (t0.data.toList.headD 0 != 35))) := by
  have H := Lib.hid h
  clear h
  go_enter Try.func9, Try.ntmps9
  go_wp2_with fail
  refine (H.out _ (below_box _ _)).mono ?_
  rintro e w' ⟨rfl, hb2⟩
  obtain ⟨c0, c1⟩ := box_one hb2
  have HB := Lib.hid (below_boxed hb2)
  have d0 := (HB.out.cell (p := ⟨b, off, none⟩) hb).trans hk0
  have d1 := (HB.out.cell (p := ⟨b, off + 1, none⟩) hb).trans hk1
  clear hb2
  by_cases hk : k0 = 1
  · subst hk
    have hz := ht0 rfl
    clear ht0
    go_wp2
    all_goals go_ret
    all_goals exact ⟨ret_bool (front_eq hz _ _ rfl), HB.out⟩
  · have hk2 : (k0 != 1) = true := by simpa using hk
    clear hk ht0
    go_wp2
    all_goals go_ret
    all_goals exact ⟨ret_bool (by rw [hk2, Bool.true_or]), HB.out⟩
theorem right_any {w0 w : World} {v : Value} {ps : List PT} (h : Lies w0 v ps) (hw : Below w0.heap.size w0 w) : Calls Try.prog 9 #[.agg #[v]] w (Says w (rightB ps)) := by
  have hall : ∀ y, Below w.heap.size w y → Calls Try.prog 24 #[v, .int .i64 0] y (Says y (allB ps 0)) := fun y hy => all_any h 0 0 rfl (by omega) y (hw.trans (hy.mono hw.size))
  cases ps with
  | nil =>
    obtain ⟨A, c, rfl⟩ := h.form
    exact right_none w c A
  | cons p r =>
    obtain ⟨b, off, c, rfl, hb, hk0, hk1⟩ := h.first
    by_cases ha : allB (p :: r) 0 = true
    · rw [ha] at hall
      have e0 : rightB (p :: r) = (p.k != 1 || ((bytesV p.text).data.toList.headD 0 != 35)) := by
        unfold rightB
        rw [ha, bytesV_data]
        simp
      rw [e0]
      refine right_yes (by omega) hall (Nat.lt_of_lt_of_le hb hw.size) p.k (bytesV p.text) ((hw.cell (p := ⟨b, off, none⟩) hb).trans hk0) ((hw.cell (p := ⟨b, off + 1, none⟩) hb).trans hk1) fun e => ?_
      rw [bytesV_size]
      refine lit_pos (q := 0) ?_ e
      simp only [allB, Bool.and_eq_true] at ha
      exact ha.1.1
    · have ha2 : allB (p :: r) 0 = false := by simpa using ha
      rw [ha2] at hall
      have e0 : rightB (p :: r) = false := by unfold rightB; rw [ha2]; simp
      rw [e0]
      exact right_no (by omega) hall
end Go.Proofs.Ytpadnckmheippaa

namespace Go.Proofs.Ytpadnckmheippaa
open Go.RowKit
set_option linter.unusedVariables false
mutual
def PT.much : PT → Nat
  | .mk _ t o kids c => t.length / 10 + o.length / 10 + cmdsLen c + muchGo kids.length kids
def muchGo : Nat → List PT → Nat
  | n, [] => n
  | n, p :: r => if n ≤ 1000 then muchGo (n + p.much) r else n
end
def muchL (l : List PT) : Nat := muchGo l.length l
mutual
/-- How great a part is. -/
def PT.bulk : PT → Nat
  | .mk _ t o kids c => t.length + o.length + cmdsLen c + bulkL kids + 2
def bulkL : List PT → Nat
  | [] => 0
  | p :: r => p.bulk + bulkL r
end
def sumMuch (l : List PT) : Nat := (l.map PT.much).sum
theorem muchGo_le (l : List PT) (n : Nat) : muchGo n l ≤ n + sumMuch l := by
  induction l generalizing n with
  | nil => simp [muchGo, sumMuch]
  | cons p r ih =>
    simp only [muchGo]
    split
    · have := ih (n + p.much)
      simp only [sumMuch, List.map_cons, List.sum_cons] at this ⊢
      omega
    · simp only [sumMuch, List.map_cons, List.sum_cons]; omega
mutual
theorem much_bulk : (p : PT) → p.much + 2 ≤ p.bulk
  | .mk k t o kids c => by
    have h1 := much_bulkL kids
    have h2 := muchGo_le kids kids.length
    simp only [PT.much, PT.bulk]
    omega
theorem much_bulkL : (l : List PT) → l.length + sumMuch l ≤ bulkL l
  | [] => by simp [sumMuch, bulkL]
  | p :: r => by
    have h1 := much_bulk p
    have h2 := much_bulkL r
    simp only [sumMuch, List.map_cons, List.sum_cons, bulkL, List.length_cons] at *
    omega
end
/-- What is counted so far. -/
def MuchAt (l : List PT) (k m : Nat) : Prop := muchL l = muchGo m (l.drop k) ∧ m + sumMuch (l.drop k) ≤ 4000000
theorem MuchAt.next {l : List PT} {k m : Nat} {p : PT} (h : MuchAt l k m) (hp : l[k]? = some p) (hm : m ≤ 1000) : MuchAt l (k + 1) (m + p.much) := by
  obtain ⟨h1, h2⟩ := h
  obtain ⟨hk, rfl⟩ := List.getElem?_eq_some_iff.1 hp
  rw [List.drop_eq_getElem_cons hk] at h1 h2
  simp only [muchGo, if_pos hm] at h1
  simp only [sumMuch, List.map_cons, List.sum_cons] at h2
  exact ⟨h1, by unfold sumMuch; omega⟩
theorem MuchAt.over {l : List PT} {k m : Nat} (h : MuchAt l k m) (hk : k < l.length) (hm : ¬ m ≤ 1000) : muchL l = m := by
  obtain ⟨h1, h2⟩ := h
  rw [List.drop_eq_getElem_cons hk] at h1
  simp only [muchGo, if_neg hm] at h1
  exact h1
theorem MuchAt.all {l : List PT} {m : Nat} (h : MuchAt l l.length m) : muchL l = m := by
  obtain ⟨h1, h2⟩ := h
  rw [List.drop_of_length_le (Nat.le_refl _)] at h1
  exact h1
theorem bulk_mem {l : List PT} {p : PT} (h : p ∈ l) : p.bulk ≤ bulkL l := by
  induction l with
  | nil => cases h
  | cons x r ih =>
    simp only [bulkL]
    rcases List.mem_cons.1 h with rfl | h
    · omega
    · have := ih h; omega
theorem kids_bulk (p : PT) : p.text.length + p.op.length + cmdsLen p.cmds + bulkL p.kids + 2 = p.bulk := by cases p; rfl
theorem much_eq (p : PT) : p.much = p.text.length / 10 + p.op.length / 10 + cmdsLen p.cmds + muchL p.kids := by cases p; rfl
/-- It answers, and turns nothing but the tape. -/
def Counts (w : World) (n : Nat) (e : Ending) (w' : World) : Prop := e = .returned (.int .i64 n) ∧ ∃ d, w' = w.drewN d
set_option maxRecDepth 100000 in
set_option maxHeartbeats 3200000 in
theorem much_any {w0 : World} {v : Value} {ps : List PT} (h : Lies w0 v ps) : bulkL ps ≤ 4000000 → ∀ w, Below w0.heap.size w0 w → Calls Try.prog 8 #[v] w (Counts w (muchL ps)) := by
  induction h with
  | empty A c =>
    intro _ w _
    go_enter Try.func8, Try.ntmps8
    go_wp2
    go_loop [3, 4] (fun n i => n = .int .i64 0 ∧ i = .int .i64 0) (fun _ _ => 0)
    case atStart => exact ⟨rfl, rfl⟩
    case round =>
      obtain ⟨rfl, rfl⟩ := hrel
      go_wp2
      go_ret
      exact ⟨rfl, 0, rfl⟩
  | row b off c l hb0 hcell hll hfit hk ih =>
    intro hbulk w hw
    have hcall : ∀ i, ∀ hi : i < l.length, ∀ y, Below w0.heap.size w0 y → Calls Try.prog 8 #[l[i].2] y (Counts y (muchL l[i].1.kids)) := fun i hi y hy => by
      refine ih l[i] (List.getElem_mem hi) ?_ y hy
      have h1 := bulk_mem (List.mem_map.2 ⟨l[i], List.getElem_mem hi, rfl⟩ : l[i].1 ∈ l.map (·.1))
      have h2 := kids_bulk l[i].1
      omega
    have h0 : MuchAt (l.map (·.1)) 0 l.length := ⟨by simp [muchL], by
      have := much_bulkL (l.map (·.1))
      simp only [List.length_map] at this
      simp only [List.drop_zero]
      omega⟩
    have HCELL := Lib.hid hcell
    have HCALL := Lib.hid hcall
    have HW := Lib.hid hw
    have H0 := Lib.hid h0
    have HFIT := Lib.hid hfit
    have hlen : (l.map (·.1)).length = l.length := by simp
    have HLEN := Lib.hid hlen
    have hget : ∀ k, ∀ h : k < l.length, (l.map (·.1))[k]? = some l[k].1 := fun k h => by simp [h]
    have HGET := Lib.hid hget
    clear hcell hcall ih hk hw h0 hbulk hfit hlen hget
    generalize hps : l.map (·.1) = ps at *
    clear hps
    go_enter Try.func8, Try.ntmps8
    go_wp2
    go_loopw [3, 4] (fun n i wr => ∃ k m : Nat, k ≤ l.length ∧ n = .int .i64 m ∧ i = .int .i64 k ∧ Hid (MuchAt ps k m) ∧ Hid (∃ d, wr = w.drewN d)) (fun _ i _ => l.length - (intOf i).toNat)
    case atStart => exact ⟨0, l.length, Nat.zero_le _, rfl, rfl, H0, Lib.hid ⟨0, rfl⟩⟩
    case round =>
      obtain ⟨k, m, hk, rfl, rfl, HAT, HD⟩ := hrel
      have hm4 : m ≤ 4000000 := by have := HAT.out.2; omega
      by_cases hlt : k < l.length
      · by_cases hm : m ≤ 1000
        · have hwr : Below w0.heap.size w0 wr := by
            obtain ⟨d, rfl⟩ := HD.out
            exact ⟨HW.out.os, HW.out.tape, HW.out.output, HW.out.size, HW.out.block⟩
          have e1 := (hwr.cell (p := ⟨b, off + k * 5 + 1, none⟩) hb0).trans (HCELL.out k 1 hlt (by omega))
          have e2 := (hwr.cell (p := ⟨b, off + k * 5 + 2, none⟩) hb0).trans (HCELL.out k 2 hlt (by omega))
          have e3 := (hwr.cell (p := ⟨b, off + k * 5 + 3, none⟩) hb0).trans (HCELL.out k 3 hlt (by omega))
          have e4 := (hwr.cell (p := ⟨b, off + k * 5 + 4, none⟩) hb0).trans (HCELL.out k 4 hlt (by omega))
          simp only [partCells, List.getElem?_cons_zero, List.getElem?_cons_succ] at e1 e2 e3 e4
          have HC := Lib.hid (HCALL.out k hlt)
          have hfit := HFIT.out l[k] (List.getElem_mem hlt)
          have HN := Lib.hid (HAT.out.next (HGET.out k hlt) hm)
          have hsum := HN.out.2
          have heq := much_eq l[k].1
          obtain ⟨_, _, cA, cn, cc, hcm⟩ := hfit
          rw [hcm] at e4 heq
          have e1' : wr.cell? ⟨b, off + k * 5 + 1, none⟩ = some (.string (bytesV l[k].1.text)) := e1
          have e2' : wr.cell? ⟨b, off + k * 5 + 2, none⟩ = some (.string (bytesV l[k].1.op)) := e2
          rw [← bytesV_size, ← bytesV_size] at heq
          simp only [cmdsLen] at heq
          clear e1 e2 hcm
          generalize bytesV l[k].1.text = T at *
          generalize bytesV l[k].1.op = O at *
          generalize muchL l[k].1.kids = J at *
          generalize l[k].1.much = M at *
          generalize l[k].2 = kv at *
          have b1 : T.size / 10 ≤ 4000000 := by omega
          have b2 : O.size / 10 ≤ 4000000 := by omega
          have b3 : cn ≤ 4000000 := by omega
          have b4 : J ≤ 4000000 := by omega
          have hM : Hid (M = T.size / 10 + O.size / 10 + cn + J) := Lib.hid heq
          clear heq hsum
          go_wp2
          have w1 : IntKind.i64.wrap ((T.size : Int) / 10) = (T.size : Int) / 10 := IntWalk.i64_in _ (by omega)
          have w2 : IntKind.i64.wrap ((O.size : Int) / 10) = (O.size : Int) / 10 := IntWalk.i64_in _ (by omega)
          have w3 : IntKind.i64.wrap ((m : Int) + (T.size : Int) / 10) = (m : Int) + (T.size : Int) / 10 := IntWalk.i64_in _ (by omega)
          have w4 : IntKind.i64.wrap ((m : Int) + (T.size : Int) / 10 + (O.size : Int) / 10) = (m : Int) + (T.size : Int) / 10 + (O.size : Int) / 10 := IntWalk.i64_in _ (by omega)
          have w5 : IntKind.i64.wrap ((m : Int) + (T.size : Int) / 10 + (O.size : Int) / 10 + cn) = (m : Int) + (T.size : Int) / 10 + (O.size : Int) / 10 + cn := IntWalk.i64_in _ (by omega)
          have w6 : IntKind.i64.wrap ((m : Int) + (T.size : Int) / 10 + (O.size : Int) / 10 + cn + J) = (m : Int) + (T.size : Int) / 10 + (O.size : Int) / 10 + cn + J := IntWalk.i64_in _ (by omega)
          go_quiet ((go_at_call 8; exact Calls.quiet_of (HC.out _ (below_draws hwr _))))
          have hnew : ((m : Int) + (T.size : Int) / 10 + (O.size : Int) / 10 + cn + J) = ((m + M : Nat) : Int) := by have := hM.out; omega
          clear w1 w2 w3 w4 w5 w6
          have HNEW := Lib.hid hnew
          have HDD : Hid (∃ d, wr.drewN nq = w.drewN d) := Lib.hid (by
            obtain ⟨d, hd⟩ := HD.out
            exact ⟨d + nq, by rw [hd, World.drewN_drewN]⟩)
          clear hnew
          go_wp2
          go_roundw
          case rel => exact ⟨k + 1, m + M, by omega, by rw [← HNEW.out], by go_num, HN, HDD⟩
          case measure => simp [intOf]; omega
        · have HO := Lib.hid (HAT.out.over (by rw [HLEN.out]; exact hlt) hm)
          have hm2 : ¬ (m : Int) ≤ 1000 := by omega
          clear hm
          go_wp2
          go_ret
          exact ⟨ret_nat HO.out.symm, HD.out⟩
      · obtain rfl : k = l.length := by omega
        have HO := Lib.hid (MuchAt.all (by rw [HLEN.out]; exact HAT.out))
        go_wp2
        go_ret
        exact ⟨ret_nat HO.out.symm, HD.out⟩
end Go.Proofs.Ytpadnckmheippaa

namespace Go.Proofs.Ytpadnckmheippaa
open Go.RowKit
set_option linter.unusedVariables false
theorem cmdsOfL_mem {l : List PT} {c : Value} (h : c ∈ cmdsOfL l) : ∃ p ∈ l, (p.k = 6 ∧ c = p.cmds) ∨ c ∈ cmdsOfL p.kids := by
  induction l with
  | nil => simp [cmdsOfL] at h
  | cons p r ih =>
    simp only [cmdsOfL, List.mem_append] at h
    rcases h with h | h
    · rw [cmdsOf_eq, List.mem_append] at h
      refine ⟨p, by simp, ?_⟩
      rcases h with h | h
      · split at h
        · rename_i h6
          exact .inl ⟨h6, List.mem_singleton.1 h⟩
        · cases h
      · exact .inr h
    · obtain ⟨q, hq, hq2⟩ := ih h
      exact ⟨q, List.mem_cons_of_mem _ hq, hq2⟩
theorem Lies.slices {w : World} {v : Value} {ps : List PT} (h : Lies w v ps) : AllSlices (cmdsOfL ps) := by
  induction h with
  | empty A c => intro u hu; simp [cmdsOfL] at hu
  | row b off c l hb0 hcell hll hfit hk ih =>
    intro u hu
    obtain ⟨p, hp, hpu⟩ := cmdsOfL_mem hu
    obtain ⟨x, hx, rfl⟩ := List.mem_map.1 hp
    rcases hpu with ⟨_, rfl⟩ | hpu
    · exact (hfit x hx).2.2
    · exact ih x hx u hpu
theorem cmdsl_nil (w : World) (A : Option Addr) (c : Nat) : Calls Try.prog 10 #[.slice A 0 c] w (CmdsEnd w []) := by
  go_enter Try.func10, Try.ntmps10
  go_wp2
  go_loop [3, 4] (fun o i => o = .slice none 0 0 ∧ i = .int .i64 0) (fun _ _ => 0)
  case atStart => exact ⟨rfl, rfl⟩
  case round =>
    obtain ⟨rfl, rfl⟩ := hrel
    go_wp2
    go_ret
    exact ⟨_, rfl, none, 0, rfl, ⟨rfl, .inl ⟨rfl, rfl⟩⟩, Below.refl _ _⟩
set_option maxRecDepth 100000 in
set_option maxHeartbeats 3200000 in
theorem cmdsl_any {w0 : World} {v : Value} {ps : List PT} (h : Lies w0 v ps) : (cmdsOfL ps).length ≤ 1000 → ∀ w, Below w0.heap.size w0 w → Calls Try.prog 10 #[v] w (CmdsEnd w ps) := by
  induction h with
  | empty A c => exact fun _ w _ => cmdsl_nil w A c
  | row b off c l hb0 hcell hll hfit hk ih =>
    intro hn w hw
    have hsl : AllSlices (cmdsOfL (l.map (·.1))) := Lies.slices (.row b off c l hb0 hcell hll hfit hk)
    have HCELL := Lib.hid hcell
    have HIH := Lib.hid ih
    have HSL := Lib.hid hsl
    have HN := Lib.hid hn
    have HW := Lib.hid hw
    have HSN := Lib.hid (cmds_snoc l)
    have HLE := Lib.hid (cmds_le l)
    have HMEM := Lib.hid (cmds_mem l)
    have hws := hw.size
    clear hcell ih hsl hn hw hk hfit
    go_enter Try.func10, Try.ntmps10
    go_wp2
    go_loopw [3, 4] (fun o i wr => ∃ k : Nat, k ≤ l.length ∧ i = .int .i64 k ∧ OutAt w (cmdsOfL ((l.take k).map (·.1))) o wr) (fun _ i _ => l.length - (intOf i).toNat)
    case atStart => exact ⟨0, Nat.zero_le _, rfl, none, 0, rfl, ⟨rfl, .inl ⟨rfl, rfl⟩⟩, Below.refl _ _⟩
    case round =>
      obtain ⟨k, hk, rfl, A, oc, rfl, ho, hbw⟩ := hrel
      by_cases hlt : k < l.length
      · have hw2 : Below w0.heap.size w0 wr := HW.out.trans (hbw.mono hws)
        have e0 := (hw2.cell (p := ⟨b, off + k * 5 + 0, none⟩) hb0).trans (HCELL.out k 0 hlt (by omega))
        have e3 := (hw2.cell (p := ⟨b, off + k * 5 + 3, none⟩) hb0).trans (HCELL.out k 3 hlt (by omega))
        have e4 := (hw2.cell (p := ⟨b, off + k * 5 + 4, none⟩) hb0).trans (HCELL.out k 4 hlt (by omega))
        simp only [partCells, List.getElem?_cons_zero, List.getElem?_cons_succ, Nat.add_zero] at e0 e3 e4
        have hsn := HSN.out k hlt
        have hle1 := Nat.le_trans (HLE.out k) HN.out
        have hle2 := Nat.le_trans (HLE.out (k + 1)) HN.out
        have hmm := HMEM.out (k + 1)
        rw [hsn] at hle2 hmm
        have hone : ∀ u ∈ (if l[k].1.k = 6 then [l[k].1.cmds] else []) ++ cmdsOfL l[k].1.kids, ∃ A n c, u = .slice A n c := fun u hu => HSL.out u (hmm u (List.mem_append_right _ hu))
        have hkid : ∀ y, Below w0.heap.size w0 y → Calls Try.prog 10 #[l[k].2] y (fun e w' => ∃ o, e = .returned o ∧ OutAt y (cmdsOfL l[k].1.kids) o w') := fun y hy => HIH.out l[k] (List.getElem_mem hlt) (by simp only [List.length_append] at hle2; omega) y hy
        have HSNK := Lib.hid hsn
        have HKID := Lib.hid hkid
        have HO := Lib.hid ho
        have HB := Lib.hid hbw
        have HW2 := Lib.hid hw2
        have hwb := hbw.size
        have hNk := ElNodes
        have E30 := Lib.hid (HCELL.out k 3 hlt (by omega))
        have E30' := E30.out
        simp only [partCells, List.getElem?_cons_zero, List.getElem?_cons_succ] at E30'
        have E30 := Lib.hid E30'
        clear ho hbw hw2 hsn hkid hmm E30' HIH HCELL HSL HMEM HSN HLE HN HW
        generalize hp : l[k] = p at *
        generalize hx : cmdsOfL ((l.take k).map (·.1)) = xs at *
        generalize hy : cmdsOfL p.1.kids = ys at *
        have HX := Lib.hid hx
        have HY := Lib.hid hy
        have HP := Lib.hid hp
        clear hx hy hp
        by_cases h6 : p.1.k = 6
        · rw [h6] at e0
          rw [if_pos h6] at hone hle2 HSNK
          obtain ⟨CA, cn, cc, hcv⟩ := hone p.1.cmds (by simp)
          rw [hcv] at e4
          have hsc : ∀ y : World, SrcOK (y.alloc (.cells #[.slice CA cn cc] 41)) (.slice (some ⟨y.heap.size, 0, none⟩) 1 1) 1 1 [.slice CA cn cc] := fun y => SrcOK.blk (c := 1) (cs := [.slice CA cn cc]) (Blk.new y 41 _) rfl (fun u hu => by rw [List.mem_singleton.1 hu]; rfl)
          have hle3 : xs.length + 1 ≤ 1000 ∧ xs.length + 1 + ys.length ≤ 1000 := by simp only [List.length_append, List.length_cons, List.length_nil] at hle2; omega
          have HONE := Lib.hid hone
          have HCV := Lib.hid hcv
          have HSC := Lib.hid hsc
          clear hone hcv hsc h6 hle2
          go_wp2_with (first
            | (at_builtin; refine wpList_app ElNodes (.tmp 17) (.tmp 23) rfl rfl (base := w.heap.size) (n := xs.length) (m := 1) (N := xs.length + 1) (xs := xs) (news := [.slice CA cn cc]) rfl rfl (HO.out.alloc _) (HSC.out _) rfl (by unfold maxLen; omega) (by omega) (by simp; omega) ?_; intro A2 c2 w2 r1 r2 r3
               have HR1 := Lib.hid r1
               have hk2 := (Keeps.refl w.heap.size [41] wr).alloc (.cells #[.slice CA cn cc] 41) |>.trans r2
               have hw3 := HW2.out.trans ((hk2.below hwb).mono hws)
               have e3b := (hw3.cell (p := ⟨b, off + k * 5 + 3, none⟩) hb0).trans E30.out
               have HR2 := Lib.hid hk2
               have HW3 := Lib.hid hw3
               clear r1 r2 r3 hk2 hw3)
            | (go_at_call 10; refine (HKID.out _ HW3.out).mono ?_; rintro e w3 ⟨o, rfl, A3, c3, rfl, ho3, hb3⟩
               have hkk : Keeps w.heap.size [41] wr w3 := HR2.out.trans (Keeps.of_below hb3)
               have hbs : w.heap.size ≤ w3.heap.size := Nat.le_trans hwb hkk.size
               have HKK := Lib.hid hkk
               have HR3 := Lib.hid (own_below HR1.out hb3)
               have HS3 := Lib.hid (SrcOK.own ho3 (AllSlices.one (fun u hu => HONE.out u (List.mem_append_right _ hu))))
               clear hkk ho3 hb3)
            | (at_builtin; refine wpList_app ElNodes (.tmp 25) (.tmp 31) rfl rfl (base := w.heap.size) (n := (xs.length + 1)) (v := .slice A2 (xs.length + 1) c2) (src := .slice A3 ys.length c3) (m := ys.length) (N := (xs.length + 1) + ys.length) (xs := (xs ++ [.slice CA cn cc])) (news := ys) rfl rfl HR3.out HS3.out rfl (by unfold maxLen; omega) (by omega) hbs ?_; intro A4 c4 w4 r1 r2 r3
               have HF : Hid (OutAt w ((xs ++ [.slice CA cn cc]) ++ ys) (.slice A4 ((xs.length + 1) + ys.length) c4) w4) := Lib.hid (out_app HB.out (by simp) r1 (HKK.out.trans r2))
               clear r1 r2 r3))
          go_roundw
          case rel => exact ⟨k + 1, by omega, by go_num, by rw [HSNK.out, HCV.out, ← List.append_assoc]; exact HF.out⟩
          case measure => simp [intOf]; omega
        · have h6b : (p.1.k == 6) = false := by simpa using h6
          rw [if_neg h6] at hone hle2 HSNK
          have hle3 : xs.length + ys.length ≤ 1000 := by simp only [List.length_append, List.length_nil] at hle2; omega
          have HONE := Lib.hid hone
          have HW3 := HW2
          have HR1 := HO
          have HR2 := Lib.hid (Keeps.refl w.heap.size [41] wr)
          clear hone h6 hle2 HW2 HO
          generalize p.1.k = pk at *
          go_wp2_with (first
            | (go_at_call 10; refine (HKID.out _ HW3.out).mono ?_; rintro e w3 ⟨o, rfl, A3, c3, rfl, ho3, hb3⟩
               have hkk : Keeps w.heap.size [41] wr w3 := HR2.out.trans (Keeps.of_below hb3)
               have hbs : w.heap.size ≤ w3.heap.size := Nat.le_trans hwb hkk.size
               have HKK := Lib.hid hkk
               have HR3 := Lib.hid (own_below HR1.out hb3)
               have HS3 := Lib.hid (SrcOK.own ho3 (AllSlices.one (fun u hu => HONE.out u (List.mem_append_right _ hu))))
               clear hkk ho3 hb3)
            | (at_builtin; refine wpList_app ElNodes (.tmp 25) (.tmp 31) rfl rfl (base := w.heap.size) (n := xs.length) (v := .slice A xs.length oc) (src := .slice A3 ys.length c3) (m := ys.length) (N := xs.length + ys.length) (xs := xs) (news := ys) rfl rfl HR3.out HS3.out rfl (by unfold maxLen; omega) (by omega) hbs ?_; intro A4 c4 w4 r1 r2 r3
               have HF : Hid (OutAt w (xs ++ ys) (.slice A4 (xs.length + ys.length) c4) w4) := Lib.hid (out_app HB.out (by simp) r1 (HKK.out.trans r2))
               clear r1 r2 r3))
          go_roundw
          case rel => exact ⟨k + 1, by omega, by go_num, by rw [HSNK.out, List.nil_append]; exact HF.out⟩
          case measure => simp [intOf]; omega
      · obtain rfl : k = l.length := by omega
        have hall : l.take l.length = l := List.take_length
        rw [hall] at ho
        have HO := Lib.hid ho
        have HB := Lib.hid hbw
        rw [hall]
        clear ho hbw hall
        generalize hxs : cmdsOfL (l.map (·.1)) = xs at *
        have HXS := Lib.hid hxs
        clear hxs
        go_wp2
        go_ret
        unfold CmdsEnd
        rw [HXS.out]
        exact ⟨_, rfl, A, oc, rfl, HO.out, HB.out⟩
end Go.Proofs.Ytpadnckmheippaa

namespace Go.Proofs.Ytpadnckmheippaa
open Go.RowKit
set_option linter.unusedVariables false
mutual
def showP : PT → List UInt8
  | .mk k t o kids c =>
    if k = 1 then t else if k = 2 then [92] ++ t else if k = 3 then [39] ++ t ++ [39] else if k = 7 then [36, 40, 40] ++ t ++ [41, 41]
    else if k = 6 then [36, 40, 32, 41] else if k = 4 then [34] ++ showL kids ++ [34]
    else if k = 5 then (if o = [108, 101, 110] then [36, 123, 35] ++ t ++ showL kids ++ [125] else [36, 123] ++ t ++ o ++ showL kids ++ [125])
    else []
def showL : List PT → List UInt8
  | [] => []
  | p :: r => showP p ++ showL r
end
theorem showL_app (a b : List PT) : showL (a ++ b) = showL a ++ showL b := by
  induction a with
  | nil => simp [showL]
  | cons p a ih => simp [showL, ih, List.append_assoc]
mutual
theorem showP_bulk : (p : PT) → (showP p).length ≤ 3 * p.bulk
  | .mk k t o kids c => by
    have h1 := showL_bulk kids
    simp only [showP, PT.bulk]
    repeat' split
    all_goals (try simp only [List.length_append, List.length_cons, List.length_nil])
    all_goals omega
theorem showL_bulk : (l : List PT) → (showL l).length ≤ 3 * bulkL l
  | [] => by simp [showL, bulkL]
  | p :: r => by
    have h1 := showP_bulk p
    have h2 := showL_bulk r
    simp only [showL, bulkL, List.length_append]
    omega
end
/-- It answers a text, and no commands are left. -/
def Tells (w : World) (s : ByteArray) (e : Ending) (w' : World) : Prop := e = .returned (.tuple #[.string s, .slice none 0 0]) ∧ Below w.heap.size w w'
theorem tells_eq {w : World} {s t : ByteArray} (h : s = t) {e : Ending} {w' : World} (hx : Tells w s e w') : Tells w t e w' := h ▸ hx
section
variable {w : World} {k : Int} {t o s : ByteArray} {kv cv : Value}
theorem show_lit : Calls Try.prog 32 #[partV 1 t o kv cv, .slice none 0 0] w (Tells w t) := by
  unfold partV
  go_enter Try.func32, Try.ntmps32
  go_wp2
  all_goals go_ret2
  all_goals exact ⟨rfl, below_box _ _⟩
theorem show_esc (ht : t.size ≤ 100000000) : Calls Try.prog 32 #[partV 2 t o kv cv, .slice none 0 0] w (Tells w (⟨#[92]⟩ ++ t)) := by
  unfold partV
  go_enter Try.func32, Try.ntmps32
  go_wp2
  all_goals go_ret2
  all_goals exact ⟨rfl, below_box _ _⟩
theorem show_single (ht : t.size ≤ 100000000) : Calls Try.prog 32 #[partV 3 t o kv cv, .slice none 0 0] w (Tells w (⟨#[39]⟩ ++ t ++ ⟨#[39]⟩)) := by
  unfold partV
  go_enter Try.func32, Try.ntmps32
  go_wp2
  all_goals go_ret2
  all_goals exact ⟨rfl, below_box _ _⟩
theorem show_arith (ht : t.size ≤ 100000000) : Calls Try.prog 32 #[partV 7 t o kv cv, .slice none 0 0] w (Tells w (⟨#[36, 40, 40]⟩ ++ t ++ ⟨#[41, 41]⟩)) := by
  unfold partV
  go_enter Try.func32, Try.ntmps32
  go_wp2
  all_goals go_ret2
  all_goals exact ⟨rfl, below_box _ _⟩
theorem show_cmd : Calls Try.prog 32 #[partV 6 t o kv cv, .slice none 0 0] w (Tells w ⟨#[36, 40, 32, 41]⟩) := by
  unfold partV
  go_enter Try.func32, Try.ntmps32
  go_wp2
  all_goals go_ret2
  all_goals exact ⟨rfl, below_box _ _⟩
theorem show_none (h1 : k ≠ 1) (h2 : k ≠ 2) (h3 : k ≠ 3) (h4 : k ≠ 4) (h5 : k ≠ 5) (h6 : k ≠ 6) (h7 : k ≠ 7) : Calls Try.prog 32 #[partV k t o kv cv, .slice none 0 0] w (Tells w ⟨#[]⟩) := by
  have f1 : (k == 1) = false := by simpa using h1
  have f2 : (k == 2) = false := by simpa using h2
  have f3 : (k == 3) = false := by simpa using h3
  have f4 : (k == 4) = false := by simpa using h4
  have f5 : (k == 5) = false := by simpa using h5
  have f6 : (k == 6) = false := by simpa using h6
  have f7 : (k == 7) = false := by simpa using h7
  clear h1 h2 h3 h4 h5 h6 h7
  unfold partV
  go_enter Try.func32, Try.ntmps32
  go_wp2
  all_goals go_ret2
  all_goals exact ⟨rfl, below_box _ _⟩
theorem show_double (hs : s.size ≤ 100000000) (h : ∀ y, Below w.heap.size w y → Calls Try.prog 26 #[kv, .slice none 0 0] y (Tells y s)) : Calls Try.prog 32 #[partV 4 t o kv cv, .slice none 0 0] w (Tells w (⟨#[34]⟩ ++ s ++ ⟨#[34]⟩)) := by
  have H := Lib.hid h
  clear h
  unfold partV
  go_enter Try.func32, Try.ntmps32
  go_wp2_with fail
  refine (H.out _ (below_box _ _)).mono ?_
  rintro e w' ⟨rfl, hb⟩
  have HB := Lib.hid (below_boxed hb)
  clear hb
  go_wp2
  all_goals go_ret2
  all_goals exact ⟨rfl, HB.out⟩
theorem show_len (hs : s.size ≤ 100000000) (ht : t.size ≤ 100000000) (h : ∀ y, Below w.heap.size w y → Calls Try.prog 26 #[kv, .slice none 0 0] y (Tells y s)) :
    Calls Try.prog 32 #[partV 5 t ⟨#[108, 101, 110]⟩ kv cv, .slice none 0 0] w (Tells w (⟨#[36, 123, 35]⟩ ++ t ++ s ++ ⟨#[125]⟩)) := by
  have H := Lib.hid h
  clear h
  unfold partV
  go_enter Try.func32, Try.ntmps32
  go_wp2_with fail
  refine (H.out _ (below_box _ _)).mono ?_
  rintro e w' ⟨rfl, hb⟩
  obtain ⟨c1, c2, c3, c4⟩ := box_cells hb
  have HB := Lib.hid (below_boxed hb)
  clear hb
  go_wp2
  all_goals go_ret2
  all_goals exact ⟨rfl, HB.out⟩
theorem show_param (hs : s.size ≤ 100000000) (ht : t.size ≤ 100000000) (ho : o.size ≤ 100000000) (hne : o.toList ≠ [108, 101, 110]) (h : ∀ y, Below w.heap.size w y → Calls Try.prog 26 #[kv, .slice none 0 0] y (Tells y s)) :
    Calls Try.prog 32 #[partV 5 t o kv cv, .slice none 0 0] w (Tells w (⟨#[36, 123]⟩ ++ t ++ o ++ s ++ ⟨#[125]⟩)) := by
  have e2 := txt_ne hne
  have H := Lib.hid h
  clear h hne
  unfold partV
  go_enter Try.func32, Try.ntmps32
  go_wp2_with fail
  refine (H.out _ (below_box _ _)).mono ?_
  rintro e w' ⟨rfl, hb⟩
  obtain ⟨c1, c2, c3, c4⟩ := box_cells hb
  have HB := Lib.hid (below_boxed hb)
  clear hb
  go_wp2
  all_goals go_ret2
  all_goals exact ⟨rfl, HB.out⟩
end
theorem bytesV_app (a b : List UInt8) : bytesV (a ++ b) = bytesV a ++ bytesV b := bytes_eq _ _ (by simp [bytesV])
theorem show1_any {w0 w : World} {kv : Value} (p : PT) (hb : p.bulk ≤ 4000000) (hw : Below w0.heap.size w0 w) (h : ∀ y, Below w0.heap.size w0 y → Calls Try.prog 26 #[kv, .slice none 0 0] y (Tells y (bytesV (showL p.kids)))) :
    Calls Try.prog 32 #[partV p.k (bytesV p.text) (bytesV p.op) kv p.cmds, .slice none 0 0] w (Tells w (bytesV (showP p))) := by
  cases p with
  | mk k t o kids cm =>
    simp only [PT.kids, PT.k, PT.text, PT.op, PT.cmds, PT.bulk] at *
    have hts : (bytesV t).size ≤ 100000000 := by rw [bytesV_size]; omega
    have hos : (bytesV o).size ≤ 100000000 := by rw [bytesV_size]; omega
    have hss : (bytesV (showL kids)).size ≤ 100000000 := by rw [bytesV_size]; have := showL_bulk kids; omega
    have hk : ∀ y, Below w.heap.size w y → Calls Try.prog 26 #[kv, .slice none 0 0] y (Tells y (bytesV (showL kids))) := fun y hy => h y (hw.trans (hy.mono hw.size))
    simp only [showP]
    by_cases h1 : k = 1
    · subst h1; rw [if_pos rfl]; exact show_lit
    rw [if_neg h1]
    by_cases h2 : k = 2
    · subst h2; rw [if_pos rfl, bytesV_app]; exact show_esc hts
    rw [if_neg h2]
    by_cases h3 : k = 3
    · subst h3; rw [if_pos rfl, bytesV_app, bytesV_app]; exact show_single hts
    rw [if_neg h3]
    by_cases h7 : k = 7
    · subst h7; rw [if_pos rfl, bytesV_app, bytesV_app]; exact show_arith hts
    rw [if_neg h7]
    by_cases h6 : k = 6
    · subst h6; rw [if_pos rfl]; exact show_cmd
    rw [if_neg h6]
    by_cases h4 : k = 4
    · subst h4; rw [if_pos rfl, bytesV_app, bytesV_app]; exact show_double hss hk
    rw [if_neg h4]
    by_cases h5 : k = 5
    · subst h5
      rw [if_pos rfl]
      by_cases ho : o = [108, 101, 110]
      · subst ho
        rw [if_pos rfl, bytesV_app, bytesV_app, bytesV_app]
        exact show_len hss hts hk
      · rw [if_neg ho, bytesV_app, bytesV_app, bytesV_app, bytesV_app]
        exact show_param hss hts hos (by rw [bytesV_list]; exact ho) hk
    rw [if_neg h5]
    exact show_none h1 h2 h3 h4 h5 h6 h7
theorem show_snoc (l : List (PT × Value)) (k : Nat) (h : k < l.length) : bytesV (showL ((l.take (k + 1)).map (·.1))) = bytesV (showL ((l.take k).map (·.1))) ++ bytesV (showP l[k].1) := by
  rw [List.take_succ_eq_append_getElem h, List.map_append, showL_app, bytesV_app]
  simp [showL]
theorem bulk_app (a b : List PT) : bulkL (a ++ b) = bulkL a + bulkL b := by
  induction a with
  | nil => simp [bulkL]
  | cons p a ih => simp only [List.cons_append, bulkL, ih]; omega
theorem show_take (l : List (PT × Value)) (k : Nat) (h : bulkL (l.map (·.1)) ≤ 4000000) : (bytesV (showL ((l.take k).map (·.1)))).size ≤ 12000000 := by
  rw [bytesV_size]
  have h1 := showL_bulk ((l.take k).map (·.1))
  rw [← List.take_append_drop k l, List.map_append, bulk_app] at h
  omega
set_option maxRecDepth 100000 in
set_option maxHeartbeats 3200000 in
theorem show_any {w0 : World} {v : Value} {ps : List PT} (h : Lies w0 v ps) : bulkL ps ≤ 4000000 → ∀ w, Below w0.heap.size w0 w → Calls Try.prog 26 #[v, .slice none 0 0] w (Tells w (bytesV (showL ps))) := by
  induction h with
  | empty A c =>
    intro _ w _
    go_enter Try.func26, Try.ntmps26
    go_wp2
    go_loop [1, 6, 7] (fun c s i => c = .slice none 0 0 ∧ s = .string ⟨#[]⟩ ∧ i = .int .i64 0) (fun _ _ _ => 0)
    case atStart => exact ⟨rfl, rfl, rfl⟩
    case round =>
      obtain ⟨rfl, rfl, rfl⟩ := hrel
      go_wp2
      go_ret2
      exact ⟨rfl, Below.refl _ _⟩
  | row b off c l hb0 hcell hll hfit hk ih =>
    intro hbulk w hw
    have hpb : ∀ i, ∀ hi : i < l.length, l[i].1.bulk ≤ 4000000 := fun i hi => by
      have h1 := bulk_mem (List.mem_map.2 ⟨l[i], List.getElem_mem hi, rfl⟩ : l[i].1 ∈ l.map (·.1))
      omega
    have hone : ∀ i, ∀ hi : i < l.length, ∀ y, Below w0.heap.size w0 y → Calls Try.prog 32 #[.agg #[.int .i64 l[i].1.k, .string (bytesV l[i].1.text), .string (bytesV l[i].1.op), l[i].2, l[i].1.cmds], .slice none 0 0] y (Tells y (bytesV (showP l[i].1))) := fun i hi y hy => by
      refine show1_any l[i].1 (hpb i hi) hy fun z hz => ih l[i] (List.getElem_mem hi) ?_ z hz
      have h2 := kids_bulk l[i].1
      have := hpb i hi
      omega
    have HCELL := Lib.hid hcell
    have HONE := Lib.hid hone
    have HW := Lib.hid hw
    have HSN := Lib.hid (show_snoc l)
    have HTK := Lib.hid (fun k => show_take l k hbulk)
    have HPB := Lib.hid hpb
    have hws := hw.size
    clear hcell hone hw ih hk hfit hpb hbulk
    generalize hq0 : bytesV (showL (l.map (·.1))) = R at *
    have HR := Lib.hid hq0
    clear hq0
    go_enter Try.func26, Try.ntmps26
    go_wp2
    go_loopw [1, 6, 7] (fun c s i wr => ∃ k : Nat, ∃ sv : ByteArray, k ≤ l.length ∧ c = .slice none 0 0 ∧ s = .string sv ∧ i = .int .i64 k ∧ Hid (bytesV (showL ((l.take k).map (·.1))) = sv) ∧ Hid (Below w.heap.size w wr)) (fun _ _ i _ => l.length - (intOf i).toNat)
    case atStart => exact ⟨0, _, Nat.zero_le _, rfl, rfl, rfl, Lib.hid rfl, Lib.hid (Below.refl _ _)⟩
    case round =>
      obtain ⟨k, sv, hk, rfl, rfl, rfl, HS, HB⟩ := hrel
      have hsv : sv.size ≤ 12000000 := by rw [← HS.out]; exact HTK.out k
      by_cases hlt : k < l.length
      · have hw2 : Below w0.heap.size w0 wr := HW.out.trans (HB.out.mono hws)
        have e0 := (hw2.cell (p := ⟨b, off + k * 5 + 0, none⟩) hb0).trans (HCELL.out k 0 hlt (by omega))
        have e1 := (hw2.cell (p := ⟨b, off + k * 5 + 1, none⟩) hb0).trans (HCELL.out k 1 hlt (by omega))
        have e2 := (hw2.cell (p := ⟨b, off + k * 5 + 2, none⟩) hb0).trans (HCELL.out k 2 hlt (by omega))
        have e3 := (hw2.cell (p := ⟨b, off + k * 5 + 3, none⟩) hb0).trans (HCELL.out k 3 hlt (by omega))
        have e4 := (hw2.cell (p := ⟨b, off + k * 5 + 4, none⟩) hb0).trans (HCELL.out k 4 hlt (by omega))
        simp only [partCells, List.getElem?_cons_zero, List.getElem?_cons_succ, Nat.add_zero] at e0 e1 e2 e3 e4
        have H1 := Lib.hid (HONE.out k hlt wr hw2)
        have HSK := HSN.out k hlt
        rw [HS.out] at HSK
        have HSK2 := Lib.hid HSK
        have hpl : (bytesV (showP l[k].1)).size ≤ 12000000 := by
          rw [bytesV_size]
          have h1 := showP_bulk l[k].1
          have h2 := HPB.out k hlt
          omega
        clear hw2 HSK
        generalize bytesV (showP l[k].1) = pv at *
        go_wp2_with fail
        refine H1.out.mono ?_
        rintro e w2 ⟨rfl, hb2⟩
        have HB2 := Lib.hid (HB.out.trans (hb2.mono HB.out.size))
        clear hb2 e0 e1 e2 e3 e4
        go_wp2
        go_roundw
        case rel => exact ⟨k + 1, _, by omega, rfl, rfl, by go_num, HSK2, HB2⟩
        case measure => simp [intOf]; omega
      · obtain rfl : k = l.length := by omega
        have HF : Hid (sv = R) := Lib.hid (by rw [← HS.out, List.take_length]; exact HR.out)
        go_wp2
        go_ret2
        exact ⟨by rw [HF.out]; rfl, HB.out⟩
end Go.Proofs.Ytpadnckmheippaa

namespace Go.Proofs.Ytpadnckmheippaa
open Go.RowKit
set_option linter.unusedVariables false
mutual
def PT.bare : PT → PT
  | .mk k t o kids c => .mk k t o (bareL kids) noCmds
def bareL : List PT → List PT
  | [] => []
  | p :: r => p.bare :: bareL r
end
theorem bareL_map (l : List PT) : bareL l = l.map PT.bare := by
  induction l with
  | nil => rfl
  | cons p r ih => simp [bareL, ih]
theorem bare_parts {p q : PT} (h : p.bare = q.bare) : q.k = p.k ∧ q.text = p.text ∧ q.op = p.op ∧ bareL p.kids = bareL q.kids := by
  cases p; cases q
  simp only [PT.bare, PT.mk.injEq] at h
  obtain ⟨h1, h2, h3, h4, _⟩ := h
  exact ⟨h1.symm, h2.symm, h3.symm, h4⟩
/-- It says yes, and turns nothing but the tape. -/
def Yes (w : World) (e : Ending) (w' : World) : Prop := e = .returned (.bool true) ∧ ∃ d, w' = w.drewN d
theorem same_nil (w : World) (A A' : Option Addr) (c c' : Nat) : Calls Try.prog 15 #[.slice A 0 c, .slice A' 0 c'] w (Yes w) := by
  go_enter Try.func15, Try.ntmps15
  go_wp2
  go_loop [5] (fun i => i = .int .i64 0) (fun _ => 0)
  case atStart => exact rfl
  case round =>
    subst hrel
    go_wp2
    go_ret
    exact ⟨rfl, 0, rfl⟩
set_option maxRecDepth 100000 in
set_option maxHeartbeats 3200000 in
theorem same_any {w0 : World} {v : Value} {ps : List PT} (h : Lies w0 v ps) : ∀ (u : Value) (qs : List PT), Lies w0 u qs → bareL ps = bareL qs → ∀ w, Below w0.heap.size w0 w → Calls Try.prog 15 #[v, u] w (Yes w) := by
  induction h with
  | empty A c =>
    intro u qs hu hq w _
    obtain ⟨A', c', rfl⟩ := hu.form
    have hz : qs.length = 0 := by
      have := congrArg List.length hq
      rw [bareL_map, bareL_map] at this
      simpa using this.symm
    rw [hz]
    exact same_nil w A A' c c'
  | row b off c l hb0 hcell hll hfit hk ih =>
    intro u qs hu hq w hw
    have hlen : (l.map (·.1)).length = qs.length := by
      have := congrArg List.length hq
      rw [bareL_map, bareL_map] at this
      simpa using this
    cases hu with
    | empty A' c' =>
      have hz : l.length = 0 := by simpa using hlen
      rw [hz]
      exact same_nil w _ A' c c'
    | row b' off' c' m hb0' hcell' hll' hfit' hk' =>
      simp only [List.length_map] at hlen
      have hpq : ∀ i, ∀ hi : i < l.length, ∀ hi' : i < m.length, l[i].1.bare = m[i].1.bare := fun i hi hi' => by
        have h1 : (bareL (l.map (·.1)))[i]? = (bareL (m.map (·.1)))[i]? := by rw [hq]
        rw [bareL_map, bareL_map] at h1
        simpa [hi, hi'] using h1
      have hcall : ∀ i, ∀ hi : i < l.length, ∀ hi' : i < m.length, ∀ y, Below w0.heap.size w0 y → Calls Try.prog 15 #[l[i].2, m[i].2] y (Yes y) := fun i hi hi' y hy =>
        ih l[i] (List.getElem_mem hi) m[i].2 m[i].1.kids (hk' m[i] (List.getElem_mem hi')) (bare_parts (hpq i hi hi')).2.2.2 y hy
      have HCELL := Lib.hid hcell
      have HCELL' := Lib.hid hcell'
      have HPQ := Lib.hid hpq
      have HCALL := Lib.hid hcall
      have HW := Lib.hid hw
      have HLEN := Lib.hid hlen
      clear hcell hcell' hpq hcall hw hk hk' ih hfit hfit' hq hll'
      rw [show m.length = l.length from hlen.symm]
      clear hlen
      go_enter Try.func15, Try.ntmps15
      go_wp2
      go_loopw [5] (fun i wr => ∃ k : Nat, k ≤ l.length ∧ i = .int .i64 k ∧ Hid (∃ d, wr = w.drewN d)) (fun i _ => l.length - (intOf i).toNat)
      case atStart => exact ⟨0, Nat.zero_le _, rfl, Lib.hid ⟨0, rfl⟩⟩
      case round =>
        obtain ⟨k, hk, rfl, HD⟩ := hrel
        by_cases hlt : k < l.length
        · have hlt' : k < m.length := by have := HLEN.out; omega
          have hwr : Below w0.heap.size w0 wr := by
            obtain ⟨d, rfl⟩ := HD.out
            exact ⟨HW.out.os, HW.out.tape, HW.out.output, HW.out.size, HW.out.block⟩
          obtain ⟨q1, q2, q3, _⟩ := bare_parts (HPQ.out k hlt hlt')
          have e0 := (hwr.cell (p := ⟨b, off + k * 5 + 0, none⟩) hb0).trans (HCELL.out k 0 hlt (by omega))
          have e1 := (hwr.cell (p := ⟨b, off + k * 5 + 1, none⟩) hb0).trans (HCELL.out k 1 hlt (by omega))
          have e2 := (hwr.cell (p := ⟨b, off + k * 5 + 2, none⟩) hb0).trans (HCELL.out k 2 hlt (by omega))
          have e3 := (hwr.cell (p := ⟨b, off + k * 5 + 3, none⟩) hb0).trans (HCELL.out k 3 hlt (by omega))
          have f0 := (hwr.cell (p := ⟨b', off' + k * 5 + 0, none⟩) hb0').trans (HCELL'.out k 0 hlt' (by omega))
          have f1 := (hwr.cell (p := ⟨b', off' + k * 5 + 1, none⟩) hb0').trans (HCELL'.out k 1 hlt' (by omega))
          have f2 := (hwr.cell (p := ⟨b', off' + k * 5 + 2, none⟩) hb0').trans (HCELL'.out k 2 hlt' (by omega))
          have f3 := (hwr.cell (p := ⟨b', off' + k * 5 + 3, none⟩) hb0').trans (HCELL'.out k 3 hlt' (by omega))
          simp only [partCells, List.getElem?_cons_zero, List.getElem?_cons_succ, Nat.add_zero, q1, q2, q3] at e0 e1 e2 e3 f0 f1 f2 f3
          have HC := Lib.hid (HCALL.out k hlt hlt')
          clear q1 q2 q3
          generalize l[k].1.k = K at *
          generalize l[k].1.text.toArray = T at *
          generalize l[k].1.op.toArray = O at *
          generalize l[k].2 = kv at *
          generalize m[k].2 = kv' at *
          go_wp2
          go_quiet ((go_at_call 15; exact Calls.quiet_of (HC.out _ (below_draws hwr _))))
          have HDD : Hid (∃ d, wr.drewN nq = w.drewN d) := Lib.hid (by
            obtain ⟨d, hd⟩ := HD.out
            exact ⟨d + nq, by rw [hd, World.drewN_drewN]⟩)
          go_wp2
          go_roundw
          case rel => exact ⟨k + 1, by omega, by go_num, HDD⟩
          case measure => simp [intOf]; omega
        · obtain rfl : k = l.length := by omega
          go_wp2
          go_ret
          exact ⟨rfl, HD.out⟩
end Go.Proofs.Ytpadnckmheippaa
