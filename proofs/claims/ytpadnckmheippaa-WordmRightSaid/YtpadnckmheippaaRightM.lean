/- The reference's one, its ways put together. The reference's All: are parts right at a place? The reference's Right: is a word right? WordmRight: a word that ends is right, if it has a byte, and does not begin with #, whatever the bytes are; no condition. -/
import Derived.Test.YtpadnckmheippaaTb
import Derived.Test.YtpadnckmheippaaPz
import Derived.Test.YtpadnckmheippaaLaw
namespace Go.Proofs.Ytpadnckmheippaa
open Go.RowKit
set_option linter.unusedVariables false
def bytesV (l : List UInt8) : ByteArray := ⟨l.toArray⟩
theorem bytesV_data (l : List UInt8) : (bytesV l).data.toList = l := by simp [bytesV]
theorem bytesV_list (l : List UInt8) : (bytesV l).toList = l := by rw [toList_data, bytesV_data]
theorem bytesV_size (l : List UInt8) : (bytesV l).size = l.length := by rw [← len_size, bytesV_data]
theorem named_any (t : ByteArray) (h : t.size ≤ 4611686018427387904) : Named t :=
  ⟨fun y => rname_any t (by omega) y, fun y => rdigits_any t (by omega) y, fun c y => rspecial_any c y⟩
/-- What a slice of kids is. -/
theorem kids_form {w : World} {F : List Nat} {v : Value} {ps : List PT} (h : Dead w F v ps) : ∃ A c, v = .slice A ps.length c := by
  rcases h.read with ⟨rfl, rfl⟩ | ⟨b, c, l, rfl, _⟩
  · exact ⟨_, _, rfl⟩
  · exact ⟨_, _, rfl⟩
theorem kids_first {w : World} {F : List Nat} {v : Value} {p : PT} {r : List PT} (h : Dead w F v (p :: r)) : ∃ b c, v = .slice (some ⟨b, 0, none⟩) (r.length + 1) c ∧ b < w.heap.size ∧ w.cell? ⟨b, 0, none⟩ = some (.int .i64 p.k) ∧ w.cell? ⟨b, 1, none⟩ = some (.string (bytesV p.text)) := by
  rcases h.read with ⟨_, h0⟩ | ⟨b, c, l, rfl, hl, hc, _, hb, hcell, hkids⟩
  · cases h0
  · match l, hl with
    | x :: l, hl =>
      simp only [List.map_cons, List.cons.injEq] at hl
      have h1 := hcell 0 0 (by simp) (by omega)
      have h2 := hcell 0 1 (by simp) (by omega)
      refine ⟨b, c, rfl, hb, ?_, ?_⟩
      · rw [← hl.1]; exact h1
      · rw [← hl.1]; exact h2
theorem isEmpty_len {α : Type} (l : List α) : l.isEmpty = ((l.length : Int) == 0) := by
  cases l with
  | nil => rfl
  | cons a l => symm; rw [beq_eq_false_iff_ne.2 (by simp; omega)]; rfl
theorem one_any {w0 w : World} {F : List Nat} {kv : Value} {N : Nat} (hN : N ≤ 4611686018427387904) (p : PT) (hp : Neat N p) (hd : Dead w0 F kv p.kids) (hw : Below w0.heap.size w0 w) (pl : Nat) (hpl : pl ≤ 2)
    (hall : ∀ (q : Nat) (i : Int), i = q → q ≤ 2 → ∀ y, Below w0.heap.size w0 y → Calls Try.prog 24 #[kv, .int .i64 i] y (Says y (allB p.kids q))) :
    Calls Try.prog 31 #[partV p.k (bytesV p.text) (bytesV p.op) kv p.cmds, .int .i64 pl] w (Says w (oneB p pl)) := by
  cases hp with
  | mk k t o kids ht ho hk =>
    simp only [PT.kids] at hd hall
    simp only [PT.k, PT.text, PT.op, PT.cmds]
    obtain ⟨A, c, rfl⟩ := kids_form hd
    have hts : (bytesV t).size ≤ 4611686018427387904 := by rw [bytesV_size]; omega
    have hall2 : ∀ (q : Nat) (i : Int), i = q → q ≤ 2 → ∀ y, Below w.heap.size w y → Calls Try.prog 24 #[.slice A kids.length c, .int .i64 i] y (Says y (allB kids q)) := fun q i hi hq y hy => hall q i hi hq y (hw.trans (hy.mono hw.size))
    by_cases h5 : k = 5
    · subst h5
      have e0 : oneB (.mk 5 t o kids noCmds) pl = (paramText t && (if o = [] ∨ o = [108, 101, 110] then kids.isEmpty else opB o && t != [35] && allB kids 2 && frontB o kids)) := by
        unfold oneB; simp [noCmds, cmdsLen]
      rw [e0]
      unfold noCmds
      refine one_param fun y hy => ?_
      have hall3 : ∀ (q : Nat) (i : Int), i = q → q ≤ 2 → ∀ z, Below y.heap.size y z → Calls Try.prog 24 #[.slice A kids.length c, .int .i64 i] z (Says z (allB kids q)) := fun q i hi hq z hz => hall2 q i hi hq z (hy.trans (hz.mono hy.size))
      by_cases hpt : paramText t = true
      · have hw1 : NameWay (bytesV t) := name_way (named_any _ hts) (by rw [bytesV_data]; exact hpt)
        rw [hpt, Bool.true_and]
        by_cases hsh : o = [] ∨ o = [108, 101, 110]
        · rw [if_pos hsh, isEmpty_len]
          exact param_short hw1 (hsh.imp (fun e => by rw [e]; rfl) (fun e => by rw [e]; rfl))
        · rw [if_neg hsh]
          have ho1 : (bytesV o).toList ≠ [] := fun e => hsh (.inl (by rw [← bytesV_list o, e]))
          have ho2 : (bytesV o).toList ≠ [108, 101, 110] := fun e => hsh (.inr (by rw [← bytesV_list o, e]))
          have hop : ∀ z, Calls Try.prog 85 #[.string (bytesV o)] z (Says z (opB o)) := fun z => by
            have := op_any (bytesV o) z
            rw [bytesV_data] at this
            exact this
          by_cases hob : opB o = true
          · rw [hob] at hop ⊢
            rw [Bool.true_and]
            by_cases hth : t = [35]
            · subst hth
              exact param_op_hash hw1 (bytesV_list _) ho1 ho2 hop
            · have hth2 : (bytesV t).toList ≠ [35] := by rw [bytesV_list]; exact hth
              have hth3 : (t != [35]) = true := by simpa using hth
              rw [hth3, Bool.true_and]
              by_cases hsimple : allB kids 2 = false ∨ (allB kids 2 = true ∧ kids.length = 0) ∨ (allB kids 2 = true ∧ (bytesV o).toList ≠ [37] ∧ (bytesV o).toList ≠ [35])
              · have e1 : (allB kids 2 && frontB o kids) = allB kids 2 := by
                  rcases hsimple with h | ⟨_, h⟩ | ⟨_, h, h'⟩
                  · rw [h]; rfl
                  · have : kids = [] := List.eq_nil_of_length_eq_zero h
                    subst this
                    simp [frontB]
                  · rw [bytesV_list] at h h'
                    have a1 : (o == [37]) = false := beq_eq_false_iff_ne.2 h
                    have a2 : (o == [35]) = false := beq_eq_false_iff_ne.2 h'
                    simp [frontB, a1, a2]
                rw [e1]
                exact param_op_kids hw1 hth2 ho1 ho2 hop (hall3 2 2 rfl (by omega)) hsimple
              · have hb : allB kids 2 = true := by
                  cases h : allB kids 2 with
                  | true => rfl
                  | false => exact absurd (.inl h) hsimple
                have hq : o = [37] ∨ o = [35] := by
                  by_cases h1 : o = [37]
                  · exact .inl h1
                  · by_cases h2 : o = [35]
                    · exact .inr h2
                    · exact absurd (.inr (.inr ⟨hb, by rw [bytesV_list]; exact h1, by rw [bytesV_list]; exact h2⟩)) hsimple
                cases kids with
                | nil => exact absurd (.inr (.inl ⟨hb, rfl⟩)) hsimple
                | cons x r =>
                  obtain ⟨kb, kc, hkv, hkb, hk0, hk1⟩ := kids_first hd
                  cases hkv
                  have hbw : kb < y.heap.size := Nat.lt_of_lt_of_le hkb (Nat.le_trans hw.size hy.size)
                  have hwy : Below w0.heap.size w0 y := hw.trans (hy.mono hw.size)
                  have hk0' := (hwy.cell (p := ⟨kb, 0, none⟩) hkb).trans hk0
                  have hk1' := (hwy.cell (p := ⟨kb, 1, none⟩) hkb).trans hk1
                  have hx0 : x.k = 1 → 0 < (bytesV x.text).size := fun e => by
                    have h1 : oneB x 2 = true := by
                      simp only [allB, Bool.and_eq_true] at hb
                      exact hb.1.1
                    cases x with
                    | mk xk xt xo xkids xc =>
                      simp only [PT.k] at e
                      subst e
                      rw [bytesV_size]
                      simp only [PT.text]
                      cases xt with
                      | nil => simp [oneB, litB] at h1
                      | cons _ _ => simp
                  have hall4 := hall3 2 2 rfl (by omega)
                  rw [hb] at hall4
                  obtain ⟨q, hqo, hq2⟩ : ∃ q : UInt8, o = [q] ∧ (q = 37 ∨ q = 35) := by
                    rcases hq with h | h
                    · exact ⟨37, h, .inl rfl⟩
                    · exact ⟨35, h, .inr rfl⟩
                  subst hqo
                  have e2 : (allB (x :: r) 2 && frontB [q] (x :: r)) = (x.k != 1 || ((bytesV x.text).data.toList.headD 0 != q)) := by
                    rw [hb, bytesV_data]
                    rcases hq2 with rfl | rfl <;> simp [frontB]
                  rw [e2]
                  exact param_op_front hw1 hth2 q hq2 hop kb (by simp) x.k (bytesV x.text) hall4 hbw hk0' hk1' hx0
          · have hob2 : opB o = false := by simpa using hob
            rw [hob2] at hop ⊢
            exact param_op_no hw1 ho1 ho2 hop
      · have hpt2 : paramText t = false := by simpa using hpt
        rw [hpt2, Bool.false_and]
        exact param_no (named_any _ hts) (by rw [bytesV_data]; exact hpt2)
    · by_cases hoe : o = []
      · subst hoe
        by_cases h4 : k = 4
        · subst h4
          have e0 : oneB (.mk 4 t [] kids noCmds) pl = (!((pl : Int) == 1) && (bytesV t).toList.isEmpty && allB kids 1) := by
            have e1 : ((pl : Int) == 1) = (pl == 1) := nat_test pl 1
            rw [e1, bytesV_list]
            unfold oneB
            simp [noCmds, cmdsLen, bne]
          rw [e0]
          exact one_double (hall2 1 1 rfl (by omega))
        · by_cases hkn : kids = []
          · subst hkn
            by_cases h1 : k = 1
            · subst h1
              have e0 : oneB (.mk 1 t [] [] noCmds) pl = litB pl t := by unfold oneB; simp [noCmds, cmdsLen]
              rw [e0]
              exact one_lit fun y => by
                have := literal_any (bytesV t) hts pl hpl y
                rw [bytesV_data] at this
                exact this
            by_cases h2 : k = 2
            · subst h2
              by_cases hz : t.length = 1
              · match t, hz with
                | [x], _ =>
                  have h0 : 0 < (bytesV [x]).size := by rw [bytesV_size]; simp
                  have e0 : oneB (.mk 2 [x] [] [] noCmds) pl = (!((x.toNat : Int) == 0) && !((x.toNat : Int) == 10) && (!((pl : Int) == 1) || quotes x)) := by
                    have e1 : ((pl : Int) == 1) = (pl == 1) := nat_test pl 1
                    have e2 : ((x.toNat : Int) == 0) = (x == 0) := byte_test x 0
                    have e3 : ((x.toNat : Int) == 10) = (x == 10) := byte_test x 10
                    rw [e1, e2, e3]
                    unfold oneB
                    simp [noCmds, cmdsLen, bne]
                  rw [e0]
                  exact one_esc h0 rfl fun y => rquotes_any x y
              · have e0 : oneB (.mk 2 t [] [] noCmds) pl = false := by
                  unfold oneB
                  have : (t.length == 1) = false := beq_eq_false_iff_ne.2 hz
                  simp [noCmds, cmdsLen, this]
                rw [e0]
                exact one_esc1 (by rw [bytesV_size]; exact hz)
            by_cases h3 : k = 3
            · subst h3
              have e0 : oneB (.mk 3 t [] [] noCmds) pl = (pl != 1 && clearB t 39) := by unfold oneB; simp [noCmds, cmdsLen]
              rw [e0]
              exact one_single fun y => by
                have := clear_any (bytesV t) (by omega) 39 y
                rw [bytesV_data] at this
                exact this
            by_cases h6 : k = 6
            · subst h6
              have e0 : oneB (.mk 6 t [] [] noCmds) pl = (bytesV t).toList.isEmpty := by rw [bytesV_list]; unfold oneB; simp [noCmds, cmdsLen]
              rw [e0]
              exact one_cmd
            by_cases h7 : k = 7
            · subst h7
              have e0 : oneB (.mk 7 t [] [] noCmds) pl = arithB t := by unfold oneB; simp [noCmds, cmdsLen]
              rw [e0]
              exact one_arith fun y => by
                have := arithp_any (bytesV t) hts y
                rw [bytesV_data] at this
                exact this
            · have e0 : oneB (.mk k t [] [] noCmds) pl = false := by
                unfold oneB
                simp [h1, h2, h3, h4, h5, h6, h7]
              rw [e0]
              exact one_none h1 h2 h3 h4 h5 h6 h7
          · have e0 : oneB (.mk k t [] kids noCmds) pl = false := by
              have a1 : (k == 5) = false := beq_eq_false_iff_ne.2 h5
              have a2 : (k == 4) = false := beq_eq_false_iff_ne.2 h4
              have a3 : kids.isEmpty = false := by simpa using hkn
              unfold oneB
              simp [a1, a2, a3]
            rw [e0]
            have hln : 0 < kids.length := by
              cases kids with
              | nil => exact absurd rfl hkn
              | cons _ _ => simp
            exact one_bad2 h5 h4 hln
      · have e0 : oneB (.mk k t o kids noCmds) pl = false := by
          have a1 : (k == 5) = false := beq_eq_false_iff_ne.2 h5
          have a2 : o.isEmpty = false := by simpa using hoe
          unfold oneB
          simp [a1, a2]
        rw [e0]
        exact one_bad1 h5 (by rw [bytesV_list]; exact hoe)
end Go.Proofs.Ytpadnckmheippaa

namespace Go.Proofs.Ytpadnckmheippaa
open Go.RowKit
set_option linter.unusedVariables false
set_option linter.unusedSimpArgs false
theorem allB_app {a b : List PT} {q : Nat} (h : allB a q = false) : allB (a ++ b) q = false := by
  induction a with
  | nil => simp [allB] at h
  | cons p r ih =>
    rw [List.cons_append]
    simp only [allB] at h ⊢
    cases r with
    | nil =>
      simp only [allB, Bool.and_true] at h
      simp [h]
    | cons x r =>
      simp only [Bool.and_eq_false_iff] at h
      rcases h with (h | h) | h
      · simp [h]
      · have h2 : allB (x :: r ++ b) q = false := ih h
        simp only [List.cons_append] at h2
        simp [h2]
      · simp [h]
theorem allB_take {l : List (PT × Value)} {q k : Nat} (h : allB ((l.take k).map (·.1)) q = false) : allB (l.map (·.1)) q = false := by
  rw [← List.take_append_drop k l, List.map_append]
  exact allB_app h
theorem all_first (l : List (PT × Value)) (q : Nat) (h : 0 < l.length) : allB ((l.take 1).map (·.1)) q = oneB l[0].1 q := by
  cases l with
  | nil => simp at h
  | cons x r => simp [allB]
theorem all_next (l : List (PT × Value)) (q k : Nat) (h : k < l.length) (hk : 1 ≤ k) : allB ((l.take (k + 1)).map (·.1)) q = (allB ((l.take k).map (·.1)) q && oneB l[k].1 q && jointB (l[k - 1]'(by omega)).1 l[k].1) := by
  rw [List.take_succ_eq_append_getElem h, List.map_append, List.map_cons, List.map_nil, allB_snoc]
  have : ((l.take k).map (·.1)).getLast? = some (l[k - 1]'(by omega)).1 := by
    rw [List.getLast?_map, List.getLast?_take]
    rw [if_neg (by omega), List.getElem?_eq_getElem (by omega)]
    rfl
  rw [this]
/-- Each of the parts is right. -/
theorem all_each (l : List (PT × Value)) (q k j : Nat) (h : allB ((l.take k).map (·.1)) q = true) (hj : j < k) (hk : k ≤ l.length) : oneB (l[j]'(by omega)).1 q = true := by
  have h1 : ∀ (a : List PT), allB a q = true → ∀ x ∈ a, oneB x q = true := by
    intro a
    induction a with
    | nil => intro _ x hx; cases hx
    | cons y r ih =>
      intro ha x hx
      simp only [allB, Bool.and_eq_true] at ha
      rcases List.mem_cons.1 hx with rfl | hx
      · exact ha.1.1
      · exact ih ha.1.2 x hx
  refine h1 _ h _ (List.mem_map.2 ⟨l[j]'(by omega), ?_, rfl⟩)
  exact List.mem_take_iff_getElem.2 ⟨j, by omega, rfl⟩
theorem lit_pos {p : PT} {q : Nat} (h : oneB p q = true) (hk : p.k = 1) : 0 < p.text.length := by
  cases p with
  | mk k t o kids c =>
    simp only [PT.k] at hk
    subst hk
    simp only [PT.text]
    cases t with
    | nil => simp [oneB, litB] at h
    | cons _ _ => simp
/-- Where two parts stand side by side, in numbers. -/
theorem joint_lit (p q : PT) (h : p.k = 1) (hz : 0 < (bytesV p.text).size) : jointB p q = (!(q.k == 1) && !((((bytesV p.text)[(bytesV p.text).size - 1]'(by omega)).toNat : Int) == 36 && (q.k == 5 || q.k == 6 || q.k == 7))) := by
  have h1 : (p.k != 1) = false := by simpa using h
  have h2 : ((((bytesV p.text)[(bytesV p.text).size - 1]'(by omega)).toNat : Int) == 36) = (p.text.getLastD 0 == 36) := by
    rw [show ((((bytesV p.text)[(bytesV p.text).size - 1]'(by omega)).toNat : Int) == 36) = (((bytesV p.text)[(bytesV p.text).size - 1]'(by omega)) == 36) from byte_test _ 36]
    congr 1
    rw [List.getLastD_eq_getLast?, List.getLast?_eq_getElem?]
    have hs := bytesV_size p.text
    have h3 : p.text[p.text.length - 1]? = some ((bytesV p.text)[(bytesV p.text).size - 1]'(by omega)) := by
      have : (bytesV p.text).data.toList[(bytesV p.text).size - 1]? = some ((bytesV p.text)[(bytesV p.text).size - 1]'(by omega)) := by
        rw [Array.getElem?_toList]
        exact Array.getElem?_eq_getElem (by show (bytesV p.text).size - 1 < (bytesV p.text).size; omega)
      rw [bytesV_data] at this
      rw [← this, hs]
    rw [h3]; rfl
  unfold jointB
  rw [h1, Bool.false_or, h2]
  rfl
theorem joint_no (p q : PT) (h : p.k ≠ 1) : jointB p q = true := by
  unfold jointB
  have : (p.k != 1) = true := by simpa using h
  rw [this, Bool.true_or]
theorem all_nil (w : World) (q : Nat) : Calls Try.prog 24 #[.slice none 0 0, .int .i64 q] w (Says w true) := by
  go_enter Try.func24, Try.ntmps24
  go_wp2
  go_loop [5] (fun i => i = .int .i64 0) (fun _ => 0)
  case atStart => exact rfl
  case round =>
    subst hrel
    go_wp2
    go_ret
    exact ⟨rfl, Below.refl _ _⟩
/-- What is true at a round's head. -/
def AllAt (w : World) (l : List (PT × Value)) (q k : Nat) (wr : World) : Prop := allB ((l.take k).map (·.1)) q = true ∧ Below w.heap.size w wr
set_option maxRecDepth 100000 in
set_option maxHeartbeats 6400000 in
theorem all_any {N : Nat} (hN : N ≤ 4611686018427387904) {w0 : World} {F : List Nat} {v : Value} {ps : List PT} (h : Dead w0 F v ps) : (∀ p ∈ ps, Neat N p) → ∀ (q : Nat) (qi : Int), qi = q → q ≤ 2 → ∀ w, Below w0.heap.size w0 w → Calls Try.prog 24 #[v, .int .i64 qi] w (Says w (allB ps q)) := by
  induction h with
  | nil => exact fun _ q qi hqi _ w _ => by subst hqi; exact all_nil w q
  | row b c cur l hF hb hc hl hm hk ih =>
    intro hne q qi hqi hq w hw
    unfold maxLen at hm
    have hll : l.length ≤ 9223372036854775807 := by omega
    have hcell : ∀ i j, ∀ hi : i < l.length, j < 5 → w0.cell? ⟨b, i * 5 + j, none⟩ = (partCells l[i])[j]? := fun i j hi hj => by
      rw [cell_of_row w0 b _ cur _ (0, 0) hb, ← fm_get partCells 5 partCells_len l i j hi hj, ← hc, ← Array.getElem?_toList]
      have : i * 5 + j < l.length * 5 := by
        have := Nat.mul_le_mul_right 5 (show i + 1 ≤ l.length by omega)
        omega
      rw [List.getElem?_take_of_lt this]
    have hb0 : b < w0.heap.size := (Array.getElem?_eq_some_iff.1 hb).1
    have hone : ∀ i, ∀ hi : i < l.length, ∀ y, Below w0.heap.size w0 y → Calls Try.prog 31 #[.agg #[.int .i64 l[i].1.k, .string (bytesV l[i].1.text), .string (bytesV l[i].1.op), l[i].2, l[i].1.cmds], .int .i64 qi] y (Says y (oneB l[i].1 q)) := fun i hi y hy => by
      have hn := hne l[i].1 (List.mem_map.2 ⟨l[i], List.getElem_mem hi, rfl⟩)
      have hd := hk l[i] (List.getElem_mem hi)
      rw [hqi]
      refine one_any hN l[i].1 hn hd hy q hq fun q' i' hi' hq' z hz => ?_
      exact ih l[i] (List.getElem_mem hi) (by cases hn2 : l[i].1; rw [hn2] at hn; cases hn; assumption) q' i' hi' hq' z hz
    have HCELL := Lib.hid hcell
    have HONE := Lib.hid hone
    have HW := Lib.hid hw
    have HFIRST := Lib.hid (all_first l q)
    have HNEXT := Lib.hid (all_next l q)
    have HEACH := Lib.hid (fun k j => all_each l q k j)
    have HFALSE := Lib.hid (fun k => allB_take (l := l) (q := q) (k := k))
    have hws := hw.size
    have HSZ := Lib.hid (fun i => fun hi : i < l.length => (by
      have hn := hne l[i].1 (List.mem_map.2 ⟨l[i], List.getElem_mem hi, rfl⟩)
      rw [bytesV_size]
      cases hn2 : l[i].1
      rw [hn2] at hn
      cases hn
      simp only [PT.text]
      omega : (bytesV l[i].1.text).size ≤ 4611686018427387904))
    clear hcell hone hw ih hne hk hb hc hF hqi hq
    generalize hq0 : allB (l.map (·.1)) q = R at *
    have HR := Lib.hid hq0
    clear hq0
    go_enter Try.func24, Try.ntmps24
    go_wp2
    go_loopw [5, 6] (fun i _ wr => ∃ k : Nat, k ≤ l.length ∧ i = .int .i64 k ∧ AllAt w l q k wr) (fun i _ _ => l.length - (intOf i).toNat)
    case atStart => exact ⟨0, Nat.zero_le _, rfl, rfl, Below.refl _ _⟩
    case round =>
      obtain ⟨k, hk, rfl, hat⟩ := hrel
      have HAT := Lib.hid hat
      clear hat
      by_cases hlt : k < l.length
      · have hw2 : Below w0.heap.size w0 wr := HW.out.trans (HAT.out.2.mono hws)
        have e0 := (hw2.cell (p := ⟨b, k * 5 + 0, none⟩) hb0).trans (HCELL.out k 0 hlt (by omega))
        have e1 := (hw2.cell (p := ⟨b, k * 5 + 1, none⟩) hb0).trans (HCELL.out k 1 hlt (by omega))
        have e2 := (hw2.cell (p := ⟨b, k * 5 + 2, none⟩) hb0).trans (HCELL.out k 2 hlt (by omega))
        have e3 := (hw2.cell (p := ⟨b, k * 5 + 3, none⟩) hb0).trans (HCELL.out k 3 hlt (by omega))
        have e4 := (hw2.cell (p := ⟨b, k * 5 + 4, none⟩) hb0).trans (HCELL.out k 4 hlt (by omega))
        simp only [partCells, List.getElem?_cons_zero, List.getElem?_cons_succ, Nat.add_zero] at e0 e1 e2 e3 e4
        have H1 := Lib.hid (HONE.out k hlt wr hw2)
        have HW2 := Lib.hid hw2
        clear hw2
        go_wp2_with fail
        refine H1.out.mono ?_
        rintro e w2 ⟨rfl, hb2⟩
        have HB2 := Lib.hid (HAT.out.2.trans (hb2.mono HAT.out.2.size))
        have HW3 := Lib.hid (HW2.out.trans (hb2.mono HW2.out.size))
        clear hb2 e2 e3 e4
        by_cases ho : oneB l[k].1 q = true
        · have HO := Lib.hid ho
          rw [ho]
          clear ho
          have d0 := (HW3.out.cell (p := ⟨b, k * 5 + 0, none⟩) hb0).trans (HCELL.out k 0 hlt (by omega))
          simp only [partCells, List.getElem?_cons_zero, List.getElem?_cons_succ, Nat.add_zero] at d0
          clear e0 e1
          by_cases hk0 : k = 0
          · subst hk0
            go_wp2
            go_roundw
            case rel => exact ⟨1, by omega, by go_num, (HFIRST.out hlt).trans HO.out, HB2.out⟩
            case measure => simp [intOf]; omega
          · have hk1 : 1 ≤ k := by omega
            have hkk : 1 ≤ (k : Int) := by omega
            have hk0f : ((k : Int) == 0) = false := by simp; omega
            have hlt1 : k - 1 < l.length := by omega
            have HN := HNEXT.out k hlt hk1
            rw [HAT.out.1, HO.out, Bool.true_and] at HN
            have HNX := Lib.hid HN
            have c0 := (HW3.out.cell (p := ⟨b, (k - 1) * 5 + 0, none⟩) hb0).trans (HCELL.out (k - 1) 0 hlt1 (by omega))
            have c1 := (HW3.out.cell (p := ⟨b, (k - 1) * 5 + 1, none⟩) hb0).trans (HCELL.out (k - 1) 1 hlt1 (by omega))
            simp only [partCells, List.getElem?_cons_zero, List.getElem?_cons_succ, Nat.add_zero] at c0 c1
            have HP1 := Lib.hid (HEACH.out k (k - 1) HAT.out.1 (by omega) hk)
            have HS1 := Lib.hid (HSZ.out (k - 1) hlt1)
            clear HN hk0
            obtain ⟨x, hx⟩ : ∃ x, (l[k - 1]).1 = x := ⟨_, rfl⟩
            obtain ⟨y, hy⟩ : ∃ y, (l[k]).1 = y := ⟨_, rfl⟩
            rw [hx] at c0 c1 HNX HP1 HS1
            rw [hy] at d0 HNX
            have HX := Lib.hid hx
            have HY := Lib.hid hy
            clear hx hy
            by_cases hj : x.k = 1
            · have hz : 0 < (bytesV x.text).size := by rw [bytesV_size]; exact lit_pos HP1.out hj
              have hz2 := HS1.out
              have HJ := Lib.hid (joint_lit x y hj hz)
              rw [hj] at c0
              have c1' : w2.cell? ⟨b, (k - 1) * 5 + 1, none⟩ = some (.string (bytesV x.text)) := c1
              clear c1 hj
              generalize hyk : y.k = yk at *
              have HYK := Lib.hid hyk
              clear hyk
              go_wp2
              all_goals first
                | (go_ret
                   exact ⟨ret_bool (by
                     refine (HFALSE.out (k + 1) (HNX.out.trans (HJ.out.trans ?_))).symm
                     rw [Bool.eq_false_iff]; intro hh; simp only [Bool.and_eq_true, Bool.or_eq_true, Bool.and_eq_false_iff, Bool.or_eq_false_iff, Bool.not_eq_true', Bool.not_eq_false', beq_iff_eq, beq_eq_false_iff_ne, bne_iff_ne, bne_eq_false_iff_eq, ne_eq, Bool.false_eq_true, Bool.true_eq_false, reduceCtorEq, not_true, not_false_iff] at * <;> omega), HB2.out⟩)
                | (go_roundw
                   case rel => exact ⟨k + 1, by omega, by go_num, HNX.out.trans (HJ.out.trans (by simp only [Bool.and_eq_true, Bool.or_eq_true, Bool.and_eq_false_iff, Bool.or_eq_false_iff, Bool.not_eq_true', Bool.not_eq_false', beq_iff_eq, beq_eq_false_iff_ne, bne_iff_ne, bne_eq_false_iff_eq, ne_eq, Bool.false_eq_true, Bool.true_eq_false, reduceCtorEq, not_true, not_false_iff] at * <;> omega)), HB2.out⟩
                   case measure => simp [intOf]; omega)
            · have hj1 : (x.k != 1) = true := by simpa using hj
              have HJ := Lib.hid (joint_no x y hj)
              clear hj
              generalize x.k = xk at *
              go_wp2
              go_roundw
              case rel => exact ⟨k + 1, by omega, by go_num, HNX.out.trans HJ.out, HB2.out⟩
              case measure => simp [intOf]; omega
        · have ho2 : oneB l[k].1 q = false := by simpa using ho
          have HR2 : Hid (R = false) := Lib.hid (by
            refine HFALSE.out (k + 1) ?_
            by_cases hk0 : k = 0
            · subst hk0; rw [HFIRST.out hlt]; exact ho2
            · rw [HNEXT.out k hlt (by omega), ho2, Bool.and_false, Bool.false_and])
          rw [ho2]
          clear ho ho2 e0 e1
          go_wp2
          go_ret
          exact ⟨ret_bool HR2.out.symm, HB2.out⟩
      · obtain rfl : k = l.length := by omega
        have HR2 : Hid (R = true) := Lib.hid (by
          have h1 := HAT.out.1
          rw [List.take_length] at h1
          exact HR.out.symm.trans h1)
        have HB := Lib.hid HAT.out.2
        clear HAT
        go_wp2
        go_ret
        exact ⟨ret_bool HR2.out.symm, HB.out⟩
end Go.Proofs.Ytpadnckmheippaa

namespace Go.Proofs.Ytpadnckmheippaa
open Go.RowKit
set_option linter.unusedVariables false
theorem box_one {w w1 : World} {a : Value} {t : TypeId} (h : Below (w.alloc (.cells #[a] t)).heap.size (w.alloc (.cells #[a] t)) w1) : w1.cell? ⟨w.heap.size, 0, none⟩ = some a ∧ w.heap.size < w1.heap.size :=
  ⟨(h.cell (p := ⟨w.heap.size, 0, none⟩) (by simp)).trans ((Blk.new w t _).cell 0), by have := h.size; simp at this; omega⟩
theorem right_none (w : World) (c : Nat) (A : Option Addr) : Calls Try.prog 9 #[.agg #[.slice A 0 c]] w (Says w false) := by
  go_enter Try.func9, Try.ntmps9
  go_wp2
  all_goals go_ret
  all_goals exact ⟨rfl, below_box _ _⟩
theorem right_no {w : World} {n c : Nat} {A : Option Addr} (hn : 0 < n) (h : ∀ y, Below w.heap.size w y → Calls Try.prog 24 #[.slice A n c, .int .i64 0] y (Says y false)) : Calls Try.prog 9 #[.agg #[.slice A n c]] w (Says w false) := by
  have H := Lib.hid h
  clear h
  go_enter Try.func9, Try.ntmps9
  go_wp2_with (go_at_call 24; refine (H.out _ (below_box _ _)).mono ?_; rintro e w' ⟨rfl, hb⟩; have HB := Lib.hid (below_boxed hb); clear hb)
  all_goals go_ret
  all_goals exact ⟨rfl, HB.out⟩
theorem right_yes {w : World} {n c b : Nat} (hn : 0 < n) (h : ∀ y, Below w.heap.size w y → Calls Try.prog 24 #[.slice (some ⟨b, 0, none⟩) n c, .int .i64 0] y (Says y true)) (hb : b < w.heap.size) (k0 : Int) (t0 : ByteArray)
    (hk0 : w.cell? ⟨b, 0, none⟩ = some (.int .i64 k0)) (hk1 : w.cell? ⟨b, 1, none⟩ = some (.string t0)) (ht0 : k0 = 1 → 0 < t0.size) :
    Calls Try.prog 9 #[.agg #[.slice (some ⟨b, 0, none⟩) n c]] w (Says w (k0 != 1 || (t0.data.toList.headD 0 != 35))) := by
  have H := Lib.hid h
  clear h
  go_enter Try.func9, Try.ntmps9
  go_wp2_with fail
  refine (H.out _ (below_box _ _)).mono ?_
  rintro e w' ⟨rfl, hb2⟩
  obtain ⟨c0, c1⟩ := box_one hb2
  have HB := Lib.hid (below_boxed hb2)
  have d0 := (HB.out.cell (p := ⟨b, 0, none⟩) hb).trans hk0
  have d1 := (HB.out.cell (p := ⟨b, 1, none⟩) hb).trans hk1
  clear hb2
  by_cases hk : k0 = 1
  · subst hk
    have hz := ht0 rfl
    clear ht0
    go_wp2
    all_goals go_ret
    all_goals exact ⟨ret_bool (front_eq hz _ _ rfl), HB.out⟩
  · have hk2 : (k0 != 1) = true := by simpa using hk
    clear hk ht0
    go_wp2
    all_goals go_ret
    all_goals exact ⟨ret_bool (by rw [hk2, Bool.true_or]), HB.out⟩
theorem right_any {N : Nat} (hN : N ≤ 4611686018427387904) {w0 w : World} {F : List Nat} {v : Value} {ps : List PT} (h : Dead w0 F v ps) (hne : ∀ p ∈ ps, Neat N p) (hw : Below w0.heap.size w0 w) : Calls Try.prog 9 #[.agg #[v]] w (Says w (rightB ps)) := by
  have hall : ∀ y, Below w.heap.size w y → Calls Try.prog 24 #[v, .int .i64 0] y (Says y (allB ps 0)) := fun y hy => all_any hN h hne 0 0 rfl (by omega) y (hw.trans (hy.mono hw.size))
  cases ps with
  | nil =>
    obtain ⟨A, c, rfl⟩ := kids_form h
    exact right_none w c A
  | cons p r =>
    obtain ⟨b, c, rfl, hb, hk0, hk1⟩ := kids_first h
    by_cases ha : allB (p :: r) 0 = true
    · rw [ha] at hall
      have e0 : rightB (p :: r) = (p.k != 1 || ((bytesV p.text).data.toList.headD 0 != 35)) := by
        unfold rightB
        rw [ha, bytesV_data]
        simp
      rw [e0]
      refine right_yes (by omega) hall (Nat.lt_of_lt_of_le hb hw.size) p.k (bytesV p.text) ((hw.cell (p := ⟨b, 0, none⟩) hb).trans hk0) ((hw.cell (p := ⟨b, 1, none⟩) hb).trans hk1) fun e => ?_
      rw [bytesV_size]
      refine lit_pos (q := 0) ?_ e
      simp only [allB, Bool.and_eq_true] at ha
      exact ha.1.1
    · have ha2 : allB (p :: r) 0 = false := by simpa using ha
      rw [ha2] at hall
      have e0 : rightB (p :: r) = false := by unfold rightB; rw [ha2]; simp
      rw [e0]
      exact right_no (by omega) hall
end Go.Proofs.Ytpadnckmheippaa

namespace Go.Proofs.Ytpadnckmheippaa
open Go.ChangeShapes Go.WideShapes Go.ChangeAt Go.RowKit
open Go.ChangeMaps (open_string shut_string)
set_option linter.unusedVariables false
theorem fed_kind (l : List UInt8) (m : MS) (h : m.ok) (hk : m.kind ≤ 14) : ((m.fed l).2.2 = 1 → (m.fed l).1.kind = 16 ∧ (m.fed l).1.lower = []) ∧ ((m.fed l).2.2 ≠ 1 → (m.fed l).1.kind ≠ 16) := by
  induction l generalizing m with
  | nil => exact ⟨(fun e => by cases e), fun _ => by show m.kind ≠ 16; omega⟩
  | cons c l ih =>
    have hf := (Good.feed (n := m.sz) ⟨h, by omega, Nat.le_refl _⟩ c).ok
    by_cases h0 : (m.feed c).2 = 0
    · simp only [MS.fed, h0, if_true]
      exact ih _ hf (feed_live h (by omega) c h0)
    · simp only [MS.fed, h0, if_false]
      refine ⟨fun e => feed_end0 h hk c e, fun e => ?_⟩
      rcases feed_ways h hk c with ⟨a, _⟩ | ⟨a, _⟩ | a | ⟨_, b⟩
      · exact absurd a h0
      · exact absurd a e
      · have hw := (next_fine m h (by omega) c).waits (by rw [← feed_sig]; exact a)
        rw [MS.feed_no m c (by rw [← feed_sig]; exact h0), hw]; decide
      · rw [b]; decide
def Ends (w : World) (e : Ending) (w' : World) : Prop := e = .returned (.bool true) ∧ Below w.heap.size w w'
section
variable {s : ByteArray} {w : World}
theorem wright_skip (hs : s.size ≤ 9223372036854775807) (h : 600 < s.size ∨ s.toList.isEmpty = true ∨ (∃ h0 : 0 < s.size, ((s[0].toNat : Int) == 35) = true)) : Calls Try.prog 4 #[.string s] w (Ends w) := by
  by_cases h1 : 600 < s.size
  · clear h
    go_enter Try.func4, Try.ntmps4
    go_wp2_with (go_at_call 11; refine (awake_any _).mono ?_; rintro e w3 ⟨rfl, hb⟩; have HB3 := Lib.hid hb; clear hb)
    go_ret
    exact ⟨rfl, HB3.out⟩
  · by_cases h2 : s.toList.isEmpty = true
    · clear h
      have h3 : s.toList = [] := by simpa using h2
      go_enter Try.func4, Try.ntmps4
      go_wp2_with (go_at_call 11; refine (awake_any _).mono ?_; rintro e w3 ⟨rfl, hb⟩; have HB3 := Lib.hid hb; clear hb)
      go_ret
      exact ⟨rfl, HB3.out⟩
    · obtain ⟨h0, h3⟩ : ∃ h0 : 0 < s.size, ((s[0].toNat : Int) == 35) = true := by
        rcases h with h | h | h
        · exact absurd h h1
        · exact absurd h h2
        · exact h
      have h4 : s.toList.isEmpty = false := by simpa using h2
      clear h2
      go_enter Try.func4, Try.ntmps4
      go_wp2_with (go_at_call 11; refine (awake_any _).mono ?_; rintro e w3 ⟨rfl, hb⟩; have HB3 := Lib.hid hb; clear hb)
      go_ret
      exact ⟨rfl, HB3.out⟩
theorem wright_main (h600 : s.size ≤ 600) (h0 : 0 < s.size) (h4 : s.toList.isEmpty = false) (h35 : ((s[0].toNat : Int) == 35) = false) : Calls Try.prog 4 #[.string s] w (Ends w) := by
  have HFED := Lib.hid (fed_any s (by omega) w ⟨w.heap.size, []⟩ (Nat.le_refl _) (fun b hb => by cases hb))
  have hways := fed_kind s.data.toList {} Good.new.ok (by decide)
  have hhead : s.data.toList.head? ≠ some 35 := fun e => by
    have h1 := head_at s h0
    cases hl : s.data.toList with
    | nil => rw [hl] at e; cases e
    | cons a r =>
      rw [hl] at e h1
      simp only [List.head?_cons, Option.some.injEq] at e
      subst e
      have h2 : s[0] = 35 := h1.symm
      rw [h2] at h35
      cases h35
  have hright := fed_right s.data.toList hhead
  have hneat := fed_parts s.data.toList
  have hlen : s.data.toList.length ≤ 600 := by rw [len_size]; exact h600
  have hF2 := HFED.out
  unfold FedEnd at hF2
  have HF := Lib.hid hF2
  have HWAYS := Lib.hid hways
  have HRIGHT := Lib.hid hright
  have HNEAT := Lib.hid hneat
  have HLEN := Lib.hid hlen
  clear HFED hF2 hways hright hneat hhead hlen
  generalize hr : ({} : MS).fed s.data.toList = r at *
  have HR := Lib.hid hr
  clear hr
  by_cases h1 : r.2.2 = 1
  · obtain ⟨hk, hl⟩ := HWAYS.out.1 h1
    have HK := Lib.hid hk
    have HL := Lib.hid hl
    by_cases hat : r.2.1 = 0
    · have hs1 : (r.2.2 : Int) = 1 := by rw [h1]; rfl
      have ha1 : (r.2.1 : Int) = 0 := by rw [hat]; rfl
      have HF2 := HF.out
      rw [hs1, ha1] at HF2
      have HF3 := Lib.hid HF2
      clear HF HF2 hs1 ha1 h1 hat hk hl
      go_enter Try.func4, Try.ntmps4
      go_wp2_with fail
      refine HF3.out.mono ?_
      rintro e w1 ⟨rfl, hm⟩
      have HM := Lib.hid hm
      clear hm
      go_wp2_with fail
      refine (made_word (n := 0) HM.out HK.out HL.out).mono ?_
      rintro e w2 ⟨A, c, rfl, _, hm⟩
      have HB := Lib.hid hm.frame
      clear hm HM
      generalize r.1.top.parts.length = vn at *
      go_wp2_with (go_at_call 11; refine (awake_any _).mono ?_; rintro e w3 ⟨rfl, hb⟩; have HB3 := Lib.hid hb; clear hb)
      go_ret
      exact ⟨rfl, (HB.out.alloc HB.out.size _).trans (HB3.out.mono (by have := HB.out.size; simp; omega))⟩
    · have hrb := (HRIGHT.out h1 hat).2.2
      have hs1 : (r.2.2 : Int) = 1 := by rw [h1]; rfl
      have ha1 : ((r.2.1 : Int) == 0) = false := by simp; omega
      have HRB := Lib.hid hrb
      have HF2 := HF.out
      rw [hs1] at HF2
      have HF3 := Lib.hid HF2
      clear HF HF2 hs1 h1 hat hk hl hrb
      generalize (r.2.1 : Int) = at_ at *
      go_enter Try.func4, Try.ntmps4
      go_wp2_with fail
      refine HF3.out.mono ?_
      rintro e w1 ⟨rfl, hm⟩
      have HM := Lib.hid hm
      clear hm
      go_wp2_with fail
      refine (made_word (n := 0) HM.out HK.out HL.out).mono ?_
      rintro e w2 ⟨A, c, rfl, hd, hm⟩
      have HB := Lib.hid hm.frame
      have hright : ∀ y, Below w2.heap.size w2 y → Calls Try.prog 9 #[.agg #[.slice A r.1.top.parts.length c]] y (Says y true) := fun y hy => by
        have := right_any (N := 10 * s.data.toList.length) (by have := HLEN.out; omega) hd HNEAT.out hy
        rw [HRB.out] at this
        exact this
      have HRT := Lib.hid hright
      clear hm HM hd hright
      generalize r.1.top.parts.length = vn at *
      go_wp2_with fail
      refine (HRT.out _ (below_box _ _)).mono ?_
      rintro e w3 ⟨rfl, hb⟩
      have HB2 := Lib.hid (HB.out.trans ((below_boxed hb).mono HB.out.size))
      clear hb
      go_wp2_with (go_at_call 11; refine (awake_any _).mono ?_; rintro e w3 ⟨rfl, hb⟩; have HB3 := Lib.hid hb; clear hb)
      go_ret
      exact ⟨rfl, HB2.out.trans (HB3.out.mono HB2.out.size)⟩
  · have hk := HWAYS.out.2 h1
    have hs1 : ((r.2.2 : Int) != 1) = true := by simp; omega
    have HK := Lib.hid hk
    clear h1 hk
    go_enter Try.func4, Try.ntmps4
    go_wp2_with fail
    refine HF.out.mono ?_
    rintro e w1 ⟨rfl, hm⟩
    have HM := Lib.hid hm
    clear hm
    generalize (r.2.2 : Int) = sg at *
    generalize (r.2.1 : Int) = at_ at *
    go_wp2_with fail
    refine (alive_word_no HM.out.alive HK.out).mono ?_
    rintro e w2 ⟨rfl, hb⟩
    have HB := Lib.hid (HM.out.frame.trans (hb.mono HM.out.frame.size))
    clear hb HM
    go_wp2_with (go_at_call 11; refine (awake_any _).mono ?_; rintro e w3 ⟨rfl, hb⟩; have HB3 := Lib.hid hb; clear hb)
    go_ret
    exact ⟨rfl, (HB.out.alloc HB.out.size _).trans (HB3.out.mono (by have := HB.out.size; simp; omega))⟩
theorem wright_law (s : ByteArray) (hs : s.size ≤ maxLen) (w : World) : Calls Try.prog 4 #[.string s] w fun e w' => e = .returned (.bool true) ∧ Below w.heap.size w w' := by
  unfold maxLen at hs
  by_cases h1 : 600 < s.size
  · exact wright_skip (by omega) (.inl h1)
  by_cases h2 : s.toList.isEmpty = true
  · exact wright_skip (by omega) (.inr (.inl h2))
  have h3 : s.toList.isEmpty = false := by simpa using h2
  have h0 : 0 < s.size := by
    rw [toList_data] at h3
    rw [list_empty] at h3
    have := of_decide_eq_false h3
    omega
  by_cases h4 : ((s[0].toNat : Int) == 35) = true
  · exact wright_skip (by omega) (.inr (.inr ⟨h0, h4⟩))
  · exact wright_main (by omega) h0 h3 (by simpa using h4)
end
theorem wright_own : ownKnob Try.prog.godebug = none := by kernel_rfl
theorem wright_laid : laidOutB Try.prog = true := by kernel_rfl
set_option maxRecDepth 100000 in
theorem wright_lifted (os : Os) (started : os.Started) (H : Type) (enc : TypeId × Value → H) :
    ReturnsInHanded {} Try.checked os 4 .any (Rows.wordmRightSpec.pre6 enc Try.prog Try.f4 Rows.wordmRightRow.domain false) (Rows.wordmRightSpec.post enc Try.prog Try.f4 false true false false) := by
  refine returnsInHanded_of_change (C := Try.checked) wright_own started (by kernel_rfl) Try.func4
    (ChangeSpec.witness6 (enc := enc) (C := Try.checked) false ⟨#[], #[.string ByteArray.empty], []⟩ 8 (by kernel_rfl) (by kernel_rfl) (by kernel_rfl) (by kernel_rfl)) ?_
  intro W base args ds gs before hval0 hW hcnd hsz
  have hval : ∀ (j : Nat) t v, Try.f4.params[j]? = some t → args[j]? = some v → Value.okWide Try.prog W .any base t v := hval0
  have hW' := hW
  obtain ⟨p, q, hA0, hV, rfl, hfz, hnd⟩ := hW
  have hA : DataW.TrodAll enc Try.prog W 0 (fun _ => true) true Try.f4.params.toList args.toList ds p := hA0
  rw [Try.params4] at hA hval
  obtain ⟨v0, vs0, d0, ds0, p0, q0, hargs, rfl, rfl, h0, r0⟩ := trodAll_cons hA
  obtain ⟨rfl, rfl, rfl⟩ := trodAll_nil r0
  obtain rfl : args = #[v0] := by cases args; simp_all
  obtain ⟨rfl, rfl⟩ := trodVars_none hV
  obtain ⟨a0, rfl, rfl, rfl, w0⟩ := open_string Try.underlying9 (hval 0 9 v0 rfl rfl) h0
  refine (wright_law a0 w0 W).mono fun e W' ⟨he, hb⟩ => ?_
  subst he
  exact ⟨_, rfl, law_post hW' rfl rfl rfl Try.underlying4 wright_laid (by decide +kernel) hb (ok_one (by kernel_rfl) rfl (okWide_bool_mk Try.underlying4 _))⟩

theorem wright_over : Rows.wordmRightRow.holds Try.pinned (OpenSpec.ofChange Rows.wordmRightSpec) :=
  OpenClaim.holds_of_wide 4 Try.f4 rfl rfl rfl rfl rfl rfl rfl ⟨rfl, rfl, rfl, rfl, rfl⟩ rfl rfl rfl rfl rfl (by kernel_rfl) Try.func4 (by kernel_rfl)
    (of_decide_eq_true (by kernel_rfl)) (by unfold Func.isWrapper; first | (rw [if_pos (by decide +kernel)]; kernel_rfl) | (rw [if_neg (by decide +kernel)]; exact ⟨rfl, rfl⟩))
    (fun os started H enc _ => wright_lifted os started H enc)

theorem wright_holds : Rows.WordmRightSaid := wright_over
#print axioms wright_holds
end Go.Proofs.Ytpadnckmheippaa
