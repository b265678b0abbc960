/- What is read is short, and ends; what is wrong has a number: plainly. The builder: all that is declared, and a second %start (a deferred call that gives up anew). The first symbol of a name. The builder: names turn into symbols; what stands then. -/
import Derived.Test.YtnpjhndgdlihjaaDoorZf
import Derived.Test.YtnpjhndgdlihjaaDoorZh
import Derived.Defers
import Derived.Recover
namespace Go.Proofs.YtnpjhndgdlihjaaDoor
open Go.RowKit
set_option linter.unusedVariables false
def TQ (t : Tk) : Prop := t.s.length ≤ 8192 ∧ t.p ≤ 8192
def SQ (s : PS) : Prop := (∀ t ∈ s.l, TQ t) ∧ s.l.length ≤ 100000
def RQ (r : PR) : Prop := TQ r.left ∧ ∀ s ∈ r.sides, SQ s
structure Ql (l : List Tk) : Prop where
  ended : Ended l
  all : ∀ t ∈ l, TQ t
  len : l.length ≤ 100000
structure Txt.q (x : Txt) : Prop where
  decl : ∀ t ∈ x.decl, TQ t
  marks : ∀ m ∈ x.marks, m ≤ 8192
  starts : ∀ t ∈ x.starts, TQ t
  same : x.marks.length = x.starts.length
theorem Ql.tail {t : Tk} {r : List Tk} (h : Ql (t :: r)) (hk : t.k ≠ 0) : Ql r :=
  ⟨(h.ended.tail hk).1, fun u hu => h.all u (by simp [hu]), by have := h.len; simp at this; omega⟩
theorem Ql.dropW : ∀ {l : List Tk}, Ql l → Ql (l.dropWhile symT)
  | [], h => h.ended.elim
  | t :: r, h => by
    rw [List.dropWhile_cons]
    split
    · rename_i hs; exact Ql.dropW (h.tail (sym_nz hs))
    · exact h
theorem Ql.bad {l : List Tk} (h : Ql l) : (badT l).1 ≠ 0 := by
  obtain ⟨t, r, rfl⟩ := h.ended.cons
  unfold badT
  simp only
  split <;> simp
theorem Ql.take {l : List Tk} (h : Ql l) : (∀ t ∈ l.takeWhile symT, TQ t) ∧ (l.takeWhile symT).length ≤ 100000 :=
  ⟨fun t ht => h.all t ((List.takeWhile_sublist symT).mem ht), Nat.le_trans (List.takeWhile_sublist symT).length_le h.len⟩
theorem isK_nz {k : Nat} {l : List Tk} (h : isK k l = true) : ∃ t r, l = t :: r ∧ t.k = k := by
  cases l with
  | nil => cases h
  | cons t r => exact ⟨t, r, rfl, by simpa [isK] using h⟩
theorem head_q {x : Txt} {l : List Tk} (hx : x.q) (hl : Ql l) : match headL x l with | .error f => f.1 ≠ 0 | .ok (x', l') => x'.q ∧ Ql l' ∧ l'.length < l.length := by
  cases he : headL x l with
  | error f =>
    simp only
    unfold headL at he
    obtain ⟨t, r, rfl⟩ := hl.ended.cons
    simp only at he
    split at he
    · rename_i h7
      split at he
      · injection he with he; rw [← he]; exact (hl.tail (by omega)).bad
      · cases he
    split at he
    · rename_i h8
      split at he
      · cases he
      · injection he with he; rw [← he]; exact (hl.tail (by omega)).bad
    · injection he with he; rw [← he]; exact hl.bad
  | ok q =>
    obtain ⟨x', l'⟩ := q
    simp only
    refine ⟨?_, ?_, (head_less he).1⟩
    all_goals
      unfold headL at he
      obtain ⟨t, r, rfl⟩ := hl.ended.cons
      simp only at he
      split at he
    · rename_i h7
      split at he
      · cases he
      · injection he with he
        obtain ⟨rfl, rfl⟩ := Prod.mk.inj he
        have hr := hl.tail (by omega)
        refine ⟨fun u hu => ?_, hx.marks, hx.starts, hx.same⟩
        rcases List.mem_append.1 hu with hu | hu
        · exact hx.decl u hu
        · exact hr.take.1 u hu
    · rename_i h7
      split at he
      · rename_i h8
        split at he
        · rename_i h1
          injection he with he
          obtain ⟨rfl, rfl⟩ := Prod.mk.inj he
          have hr := hl.tail (by omega)
          obtain ⟨u, r2, rfl, hu1⟩ := isK_nz h1
          refine ⟨hx.decl, fun m hm => ?_, fun v hv => ?_, by simp [hx.same]⟩
          · rcases List.mem_append.1 hm with hm | hm
            · exact hx.marks m hm
            · rw [List.mem_singleton.1 hm]; exact (hl.all t (by simp)).2
          · rcases List.mem_append.1 hv with hv | hv
            · exact hx.starts v hv
            · simp at hv; rw [hv]; exact hr.all u (by simp)
        · cases he
      · cases he
    · rename_i h7
      split at he
      · cases he
      · injection he with he
        obtain ⟨rfl, rfl⟩ := Prod.mk.inj he
        exact (hl.tail (by omega)).dropW
    · rename_i h7
      split at he
      · rename_i h8
        split at he
        · rename_i h1
          injection he with he
          obtain ⟨rfl, rfl⟩ := Prod.mk.inj he
          have hr := hl.tail (by omega)
          obtain ⟨u, r2, rfl, hu1⟩ := isK_nz h1
          exact hr.tail (by omega)
        · cases he
      · cases he
theorem heads_q : ∀ (f : Nat) {x : Txt} {l : List Tk}, x.q → Ql l → l.length < f → match headsL f x l with | .error f => f.1 ≠ 0 | .ok (x', l') => x'.q ∧ Ql l' ∧ l'.length ≤ l.length
  | 0, x, l, _, _, hf => by omega
  | f + 1, x, l, hx, hl, hf => by
    have h1 := head_q hx hl
    unfold headsL
    by_cases h6 : isK 6 l = true
    · rw [if_pos h6]
      obtain ⟨t, r, rfl, ht⟩ := isK_nz h6
      exact ⟨hx, hl.tail (by omega), by simp⟩
    · rw [if_neg h6]
      cases hh : headL x l with
      | error e => rw [hh] at h1; exact h1
      | ok q =>
        obtain ⟨x', l'⟩ := q
        rw [hh] at h1
        obtain ⟨g1, g2, g3⟩ := h1
        have ih := heads_q f g1 g2 (by omega)
        simp only
        cases hq : headsL f x' l' with
        | error e => rw [hq] at ih; exact ih
        | ok p =>
          obtain ⟨x2, l2⟩ := p
          rw [hq] at ih
          exact ⟨ih.1, ih.2.1, by have := ih.2.2; omega⟩
theorem sideL_q {l : List Tk} (h : Ql l) : SQ (sideL l) := by
  unfold SQ
  rw [sideL_l]
  exact h.take
theorem sides_q : ∀ (f : Nat) {a : List PS} {l : List Tk}, (∀ s ∈ a, SQ s) → Ql l → (∀ s ∈ (sidesL f a l).1, SQ s) ∧ Ql (sidesL f a l).2
  | 0, a, l, h1, h2 => ⟨h1, h2⟩
  | f + 1, a, l, h1, h2 => by
    unfold sidesL
    by_cases h4 : isK 4 l = true
    · rw [if_pos h4]
      obtain ⟨t, r, rfl, ht⟩ := isK_nz h4
      have hr := h2.tail (by omega)
      refine sides_q f ?_ hr.dropW
      intro s hs
      rcases List.mem_append.1 hs with hs | hs
      · exact h1 s hs
      · rw [List.mem_singleton.1 hs]; exact sideL_q hr
    · rw [if_neg h4]; exact ⟨h1, h2⟩
theorem one_q {l : List Tk} (hl : Ql l) : match oneR l with | .error f => f.1 ≠ 0 | .ok (r, l') => RQ r ∧ Ql l' ∧ l'.length < l.length := by
  cases he : oneR l with
  | error f =>
    simp only
    obtain ⟨t, r, rfl⟩ := hl.ended.cons
    unfold oneR at he
    simp only at he
    split at he
    · injection he with he; rw [← he]; exact hl.bad
    rename_i h1
    have hr := hl.tail (by omega)
    split at he
    · rename_i h3
      obtain ⟨u, r2, rfl, hu⟩ := isK_nz h3
      have hr2 := hr.tail (by omega)
      have hs := sides_q (u :: r2).length (a := [sideL r2]) (l := r2.dropWhile symT) (fun s hs => by rw [List.mem_singleton.1 hs]; exact sideL_q hr2) hr2.dropW
      split at he
      · cases he
      · injection he with he; rw [← he]; exact hs.2.bad
    · injection he with he; rw [← he]; exact hr.bad
  | ok q =>
    obtain ⟨r1, l'⟩ := q
    simp only
    have hlt := (one_less he).1
    obtain ⟨t, r, rfl⟩ := hl.ended.cons
    unfold oneR at he
    simp only at he
    split at he
    · cases he
    rename_i h1
    have hr := hl.tail (by omega)
    split at he
    · rename_i h3
      obtain ⟨u, r2, rfl, hu⟩ := isK_nz h3
      have hr2 := hr.tail (by omega)
      have hs := sides_q (u :: r2).length (a := [sideL r2]) (l := r2.dropWhile symT) (fun s hs => by rw [List.mem_singleton.1 hs]; exact sideL_q hr2) hr2.dropW
      split at he
      · rename_i h5
        injection he with he
        obtain ⟨rfl, rfl⟩ := Prod.mk.inj he
        refine ⟨⟨hl.all t (by simp), hs.1⟩, ?_, hlt⟩
        obtain ⟨v, r3, hv, hv5⟩ := isK_nz h5
        simp only [List.drop_succ_cons, List.drop_zero] at hv h5 ⊢
        rw [hv]
        have := hs.2
        rw [hv] at this
        exact this.tail (by omega)
      · cases he
    · cases he
theorem more_q : ∀ (f : Nat) {a : List PR} {l : List Tk}, (∀ r ∈ a, RQ r) → Ql l → l.length < f → match moreR f a l with | .error f => f.1 ≠ 0 | .ok rs => ∀ r ∈ rs, RQ r
  | 0, a, l, _, _, hf => by omega
  | f + 1, a, l, ha, hl, hf => by
    have h1 := one_q hl
    unfold moreR
    by_cases h0 : isK 0 l = true
    · rw [if_pos h0]; exact ha
    · rw [if_neg h0]
      cases hh : oneR l with
      | error e => rw [hh] at h1; exact h1
      | ok q =>
        obtain ⟨r, l'⟩ := q
        rw [hh] at h1
        obtain ⟨g1, g2, g3⟩ := h1
        refine more_q f ?_ g2 (by omega)
        intro u hu
        rcases List.mem_append.1 hu with hu | hu
        · exact ha u hu
        · rw [List.mem_singleton.1 hu]; exact g1
theorem form_q {l : List Tk} (hl : Ql l) : match formL l with | .error f => f.1 ≠ 0 | .ok x => x.q ∧ ∀ r ∈ x.rules, RQ r := by
  have h1 := heads_q (l.length + 1) (x := ⟨[], [], [], []⟩) ⟨by simp, by simp, by simp, rfl⟩ hl (by omega)
  unfold formL
  cases hh : headsL (l.length + 1) ⟨[], [], [], []⟩ l with
  | error e => rw [hh] at h1; exact h1
  | ok q =>
    obtain ⟨x, l1⟩ := q
    rw [hh] at h1
    obtain ⟨g1, g2, g3⟩ := h1
    have h2 := one_q g2
    simp only
    cases ho : oneR l1 with
    | error e => rw [ho] at h2; exact h2
    | ok q =>
      obtain ⟨r, l2⟩ := q
      rw [ho] at h2
      obtain ⟨k1, k2, k3⟩ := h2
      have h3 := more_q (l.length + 1) (a := [r]) (fun u hu => by rw [List.mem_singleton.1 hu]; exact k1) k2 (by omega)
      simp only
      cases hm : moreR (l.length + 1) [r] l2 with
      | error e => rw [hm] at h3; exact h3
      | ok rs =>
        rw [hm] at h3
        exact ⟨⟨g1.decl, g1.marks, g1.starts, g1.same⟩, h3⟩
theorem toks_q {sz : Nat} (h8 : sz ≤ 8192) : ∀ (f p : Nat) (l : List UInt8) {ts : List Tk}, p + l.length = sz → toksL sz f p l = .ok ts → Ended ts ∧ (∀ t ∈ ts, TQ t) ∧ ts.length ≤ l.length + 1
  | 0, _, _, _, _, he => by cases he
  | f + 1, p, l, ts, hp, he => by
    simp only [toksL] at he
    split at he
    · injection he with he; subst he
      exact ⟨rfl, fun t ht => by rw [List.mem_singleton.1 ht]; exact ⟨by simp, h8⟩, by simp⟩
    · rename_i hne
      have hlp : 0 < l.length := by cases l with | nil => simp at hne | cons _ _ => simp
      cases ho : oneL sz p l with
      | error e => rw [ho] at he; cases he
      | ok q =>
        obtain ⟨k, n⟩ := q
        have hn := (one_ok ho).2 hlp
        have hnl := one_len ho (by omega)
        rw [ho] at he
        simp only at he
        cases hq : toksL sz f (p + n) (l.drop n) with
        | error e => rw [hq] at he; cases he
        | ok ts' =>
          rw [hq] at he
          injection he with he
          obtain ⟨g1, g2, g3⟩ := toks_q h8 f (p + n) (l.drop n) (by rw [List.length_drop]; omega) hq
          rw [List.length_drop] at g3
          subst he
          split
          · exact ⟨g1, g2, by omega⟩
          · rename_i hk
            refine ⟨?_, fun t ht => ?_, by simp; omega⟩
            · obtain ⟨u, r, hu⟩ := g1.cons
              rw [hu] at g1 ⊢
              exact ⟨hk, g1⟩
            · rcases List.mem_cons.1 ht with rfl | ht
              · exact ⟨by simp; omega, by show p ≤ 8192; omega⟩
              · exact g2 t ht
theorem tokens_q {l : List UInt8} {ts : List Tk} (h : tokens l = .ok ts) : Ql ts := by
  unfold tokens at h
  split at h
  · cases h
  · rename_i h8
    obtain ⟨g1, g2, g3⟩ := toks_q (by omega) _ 0 l (by omega) h
    exact ⟨g1, g2, by omega⟩
/-! What the builder says has a number. -/
theorem decl_e {lf : Nme → Bool} : ∀ (l : List Tk) (m : Option (Nat × Tk)) (T : List Nme) {f : Flt}, declL lf m l T = .error f → f.1 ≠ 0
  | [], none, T, f, h => by cases h
  | [], some (m, st), T, f, h => by
    unfold declL startT at h
    by_cases hl : lf st.s = true
    · rw [if_pos hl] at h; cases h
    · rw [if_neg hl] at h; injection h with h; rw [← h]; simp
  | t :: l, none, T, f, h => by
    unfold declL at h
    cases hd : declT T t with
    | error e =>
      rw [hd] at h
      injection h with h
      rw [← h]
      unfold declT at hd
      split at hd
      · injection hd with hd; rw [← hd]; simp
      split at hd
      · injection hd with hd; rw [← hd]; simp
      · cases hd
    | ok T' => rw [hd] at h; exact decl_e l none T' h
  | t :: l, some (m, st), T, f, h => by
    have hdd : ∀ (o : Option (Nat × Tk)), (match declT T t with | .error e => Except.error e | .ok T' => declL lf o l T') = .error f → f.1 ≠ 0 := by
      intro o h
      cases hd : declT T t with
      | error e =>
        rw [hd] at h
        injection h with h
        rw [← h]
        unfold declT at hd
        split at hd
        · injection hd with hd; rw [← hd]; simp
        split at hd
        · injection hd with hd; rw [← hd]; simp
        · cases hd
      | ok T' => rw [hd] at h; exact decl_e l o T' h
    unfold declL at h
    split at h
    · unfold startT at h
      by_cases hl : lf st.s = true
      · rw [if_pos hl] at h; exact hdd none h
      · rw [if_neg hl] at h; injection h with h; rw [← h]; simp
    · exact hdd (some (m, st)) h
theorem headsB_e {x : Txt} {f : Flt} (h : headsB x = .error f) : f.1 ≠ 0 := by
  unfold headsB at h
  cases hd : declL (leftOf x) (markT x) x.decl [] with
  | error e =>
    rw [hd] at h
    simp only at h
    split at h
    · injection h with h; rw [← h]; simp
    · injection h with h; rw [← h]; exact decl_e _ _ _ hd
  | ok T =>
    rw [hd] at h
    simp only at h
    split at h
    · injection h with h; rw [← h]; simp
    · cases h
theorem syms_e {lf : Nme → Bool} : ∀ (l : List Tk) (b : Bd) (k : Nat) {f : Flt}, symsB lf b k l = .error f → f.1 ≠ 0
  | [], b, k, f, h => by cases h
  | t :: l, b, k, f, h => by
    unfold symsB at h
    cases hs : symbolB lf b t k with
    | error e =>
      rw [hs] at h
      injection h with h
      rw [← h]
      unfold symbolB at hs
      split at hs
      · injection hs with hs; rw [← hs]; simp
      split at hs
      · cases hs
      split at hs
      · split at hs
        · injection hs with hs; rw [← hs]; simp
        · cases hs
      split at hs
      · cases hs
      · injection hs with hs; rw [← hs]; simp
    | ok b' => rw [hs] at h; exact syms_e l b' (k + 1) h
theorem side_e {lf : Nme → Bool} {b : Bd} {left : Nme} {s : PS} {f : Flt} (h : sideB lf b left s = .error f) : f.1 ≠ 0 := by
  unfold sideB at h
  split at h
  · injection h with h; rw [← h]; simp
  cases hs : symsB lf b 0 s.l with
  | error e => rw [hs] at h; injection h with h; rw [← h]; exact syms_e _ _ _ hs
  | ok b' =>
    rw [hs] at h
    simp only at h
    split at h
    · injection h with h; rw [← h]; simp
    · cases h
theorem sides_e {lf : Nme → Bool} {left : Nme} : ∀ (l : List PS) (b : Bd) {f : Flt}, sidesB lf left b l = .error f → f.1 ≠ 0
  | [], b, f, h => by cases h
  | s :: l, b, f, h => by
    unfold sidesB at h
    cases hs : sideB lf b left s with
    | error e => rw [hs] at h; injection h with h; rw [← h]; exact side_e hs
    | ok b' => rw [hs] at h; exact sides_e l b' h
theorem rules_e {lf : Nme → Bool} {D : Nat} : ∀ (l : List PR) (b : Bd) {f : Flt}, rulesB lf D b l = .error f → f.1 ≠ 0
  | [], b, f, h => by cases h
  | r :: l, b, f, h => by
    unfold rulesB ruleB at h
    cases hl : leftB D b r.left with
    | error e =>
      rw [hl] at h
      injection h with h
      rw [← h]
      unfold leftB at hl
      split at hl
      · injection hl with hl; rw [← hl]; simp
      split at hl
      · cases hl
      split at hl
      · injection hl with hl; rw [← hl]; simp
      · cases hl
    | ok b1 =>
      rw [hl] at h
      simp only at h
      cases hs : sidesB lf r.left.s b1 r.sides with
      | error e => rw [hs] at h; injection h with h; rw [← h]; exact sides_e _ _ hs
      | ok b2 => rw [hs] at h; exact rules_e l b2 h
theorem build_e {x : Txt} {f : Flt} (h : buildL x = .error f) : f.1 ≠ 0 := by
  unfold buildL at h
  cases hh : headsB x with
  | error e => rw [hh] at h; injection h with h; rw [← h]; exact headsB_e hh
  | ok T =>
    rw [hh] at h
    simp only at h
    cases hr : rulesB (leftOf x) T.length ⟨T, [], []⟩ x.rules with
    | error e => rw [hr] at h; injection h with h; rw [← h]; exact rules_e _ _ hr
    | ok b => rw [hr] at h; cases h
theorem second_q {x : Txt} (h : x.q) : secondL x.marks ≤ 100000 := by
  have hm := h.marks
  unfold secondL
  split
  · rename_i a m r e
    have := hm m (by rw [e]; simp)
    omega
  · omega
end Go.Proofs.YtnpjhndgdlihjaaDoor

namespace Go.Proofs.YtnpjhndgdlihjaaDoor
open Go.RowKit Go.Maps
set_option linter.unusedVariables false
theorem assert_nil (w : World) : (Instr.typeAssert .nilIface 20 78 true).run Tryd.prog w = .ok (.tuple #[.agg #[.int .i64 0, .int .i64 0], .bool false]) w := by kernel_rfl
theorem assert_wrong (e p : Int) (w : World) : (Instr.typeAssert (.iface 78 (.agg #[.int .i64 e, .int .i64 p])) 20 78 true).run Tryd.prog w = .ok (.tuple #[.agg #[.int .i64 e, .int .i64 p], .bool true]) w := by kernel_rfl
theorem neq_nil (w : World) : (binOp .neq 20 .nilIface .nilIface).run Tryd.prog w = .ok (.bool false) w := by kernel_rfl
theorem eql_nil (w : World) : (binOp .eql 20 .nilIface .nilIface).run Tryd.prog w = .ok (.bool true) w := by kernel_rfl
theorem neq_wrong (v : Value) (w : World) : (binOp .neq 20 (.iface 78 v) .nilIface).run Tryd.prog w = .ok (.bool true) w := by kernel_rfl
theorem eql_wrong (v : Value) (w : World) : (binOp .eql 20 (.iface 78 v) .nilIface).run Tryd.prog w = .ok (.bool false) w := by kernel_rfl
theorem postS_end {P : Program} {fn : Func} {c₀ : Frame} {cs : List Frame} {R : Ending → FrameMode → World → Prop} {tmps : Array Value} {w : World} {u : FrameMode} (hr : fn.results = #[]) (hu : c₀.mode = u) (h : R (.returned (.tuple #[])) u w) : bodyPostS P fn c₀ cs R .normal { tmps := tmps, defers := [] } (c₀ :: cs) w :=
  ⟨rfl, u, by cases c₀; simp_all, _, results_none hr _ _ _, h⟩
theorem postS_panic {P : Program} {fn : Func} {c₀ : Frame} {cs : List Frame} {R : Ending → FrameMode → World → Prop} {tmps : Array Value} {w : World} {u : FrameMode} {ch : List PanicEntry} (hu : c₀.mode = u) (h : R (.panicked ch) u w) : bodyPostS P fn c₀ cs R (.panic ch) { tmps := tmps, defers := [] } (c₀ :: cs) w :=
  ⟨rfl, u, by cases c₀; simp_all, h⟩
theorem postS_panic2 {P : Program} {fn : Func} {c₀ : Frame} {cs : List Frame} {R : Ending → FrameMode → World → Prop} {tmps : Array Value} {w : World} {u : FrameMode} {ch : List PanicEntry} (h : R (.panicked ch) u w) : bodyPostS P fn c₀ cs R (.panic ch) { tmps := tmps, defers := [] } ({ c₀ with mode := u } :: cs) w :=
  ⟨rfl, u, rfl, h⟩
set_option maxRecDepth 100000 in
set_option maxHeartbeats 1600000 in
theorem heads1_ret {w : World} {hb bb n : Nat} (hc : w.cell? ⟨hb, 0, none⟩ = some (.pointer (some ⟨bb, 0, none⟩))) (hn : n ≤ 100000)
    (HS : ∀ w', Below w.heap.size w w' → Calls Tryd.prog 80 #[.pointer (some ⟨bb, 0, none⟩)] w' fun e w'' => e = .returned (.int .i64 n) ∧ w'' = w') :
    CallsD Tryd.prog 79 #[.pointer (some ⟨hb, 0, none⟩)] .returning w fun e u' w' => u' = .returning ∧ Below w.heap.size w w' ∧ e = if n ≤ 8192 then .panicked [{ v := .iface 78 (.agg #[.int .i64 8, .int .i64 n]), recovered := false }] else .returned (.tuple #[]) := by
  have hlt : hb < w.heap.size := World.block_lt_of_cell? w _ hc
  have a0 := assert_nil
  have a1 := neq_nil
  have a2 := eql_nil
  have HB := Lib.hid (below_alloc w (.cells #[.int .i64 0, .int .i64 0] 78))
  have HS1 := Lib.hid (HS _ (below_alloc w (.cells #[.int .i64 0, .int .i64 0] 78)))
  clear HS
  by_cases h8 : n ≤ 8192
  · have q1 : (n : Int) ≤ 8192 := by omega
    rw [if_pos h8]
    clear h8
    refine callsD_of_wpS Tryd.func79 rfl fun c₀ cs hu => ?_
    simp only [Tryd.ntmps79, List.size_toArray, List.length_cons, List.length_nil, Nat.reduceAdd, Nat.reduceSub, Array.replicate_succ, Array.replicate_zero, List.push_toArray, List.append_toArray, List.nil_append, List.cons_append]
    apply wpS_seq
    apply wpS_region
    simp [wpOpsS, go_sem, recoverD, hu, Exit.thenS]
    refine wpS_of_wp ?_
    have HU := Lib.hid hu
    clear hu
    go_wp2_with (first
      | (go_at_call 80; refine HS1.out.mono ?_; rintro e w' ⟨rfl, rfl⟩)
      | (go_at_call 81; refine (fail_any _ _ _).mono ?_; rintro e w' ⟨rfl, hw'⟩; subst hw'))
    exact postS_panic HU.out ⟨rfl, HB.out, rfl⟩
  · have q1 : ¬ (n : Int) ≤ 8192 := by omega
    rw [if_neg h8]
    clear h8
    refine callsD_of_wpS Tryd.func79 rfl fun c₀ cs hu => ?_
    simp only [Tryd.ntmps79, List.size_toArray, List.length_cons, List.length_nil, Nat.reduceAdd, Nat.reduceSub, Array.replicate_succ, Array.replicate_zero, List.push_toArray, List.append_toArray, List.nil_append, List.cons_append]
    apply wpS_seq
    apply wpS_region
    simp [wpOpsS, go_sem, recoverD, hu, Exit.thenS]
    refine wpS_of_wp ?_
    have HU := Lib.hid hu
    clear hu
    go_wp2_with (first
      | (go_at_call 80; refine HS1.out.mono ?_; rintro e w' ⟨rfl, rfl⟩)
      | (go_at_call 81; refine (fail_any _ _ _).mono ?_; rintro e w' ⟨rfl, hw'⟩; subst hw'))
    exact postS_end rfl HU.out ⟨rfl, HB.out, rfl⟩
set_option maxRecDepth 100000 in
set_option maxHeartbeats 1600000 in
theorem heads1_pan {w : World} {hb bb n p : Nat} {k : Int} {older : List PanicEntry} (hc : w.cell? ⟨hb, 0, none⟩ = some (.pointer (some ⟨bb, 0, none⟩))) (hn : n ≤ 100000)
    (HS : ∀ w', Below w.heap.size w w' → Calls Tryd.prog 80 #[.pointer (some ⟨bb, 0, none⟩)] w' fun e w'' => e = .returned (.int .i64 n) ∧ w'' = w') :
    CallsD Tryd.prog 79 #[.pointer (some ⟨hb, 0, none⟩)] (.panicking ({ v := .iface 78 (.agg #[.int .i64 k, .int .i64 p]), recovered := false } :: older)) w fun e u' w' => u' = .panicking ({ v := .iface 78 (.agg #[.int .i64 k, .int .i64 p]), recovered := true } :: older) ∧ Below w.heap.size w w' ∧
      e = if n ≤ 8192 ∧ n < p then .panicked [{ v := .iface 78 (.agg #[.int .i64 8, .int .i64 n]), recovered := false }] else .panicked [{ v := .iface 78 (.agg #[.int .i64 k, .int .i64 p]), recovered := false }] := by
  have hlt : hb < w.heap.size := World.block_lt_of_cell? w _ hc
  have a0 := assert_wrong
  have a1 := neq_wrong
  have a2 := eql_wrong
  have hnot : ∀ (x : Bool) (w : World), (Op.unary .not (.bool x)).run Tryd.prog w = .ok (.bool (!x)) w := fun _ _ => rfl
  have HB := Lib.hid (below_alloc w (.cells #[.int .i64 k, .int .i64 p] 78))
  have HS1 := Lib.hid (HS _ (below_alloc w (.cells #[.int .i64 k, .int .i64 p] 78)))
  clear HS
  by_cases h8 : n ≤ 8192
  · have q1 : (n : Int) ≤ 8192 := by omega
    by_cases hp : n < p
    · have q2 : (n : Int) < (p : Int) := by omega
      rw [if_pos ⟨h8, hp⟩]
      clear h8 hp
      refine callsD_of_wpS Tryd.func79 rfl fun c₀ cs hu => ?_
      simp only [Tryd.ntmps79, List.size_toArray, List.length_cons, List.length_nil, Nat.reduceAdd, Nat.reduceSub, Array.replicate_succ, Array.replicate_zero, List.push_toArray, List.append_toArray, List.nil_append, List.cons_append]
      apply wpS_seq
      apply wpS_region
      simp [wpOpsS, go_sem, recoverD, hu, Exit.thenS]
      refine wpS_of_wp ?_
      have HU := Lib.hid hu
      clear hu
      go_wp2_with (first
        | (go_at_call 80; refine HS1.out.mono ?_; rintro e w' ⟨rfl, rfl⟩)
        | (go_at_call 81; refine (fail_any _ _ _).mono ?_; rintro e w' ⟨rfl, hw'⟩; subst hw'))
      exact postS_panic2 ⟨rfl, HB.out, rfl⟩
    · have q2 : ¬ (n : Int) < (p : Int) := by omega
      rw [if_neg (fun h => hp h.2)]
      clear h8 hp
      refine callsD_of_wpS Tryd.func79 rfl fun c₀ cs hu => ?_
      simp only [Tryd.ntmps79, List.size_toArray, List.length_cons, List.length_nil, Nat.reduceAdd, Nat.reduceSub, Array.replicate_succ, Array.replicate_zero, List.push_toArray, List.append_toArray, List.nil_append, List.cons_append]
      apply wpS_seq
      apply wpS_region
      simp [wpOpsS, go_sem, recoverD, hu, Exit.thenS]
      refine wpS_of_wp ?_
      have HU := Lib.hid hu
      clear hu
      go_wp2_with (first
        | (go_at_call 80; refine HS1.out.mono ?_; rintro e w' ⟨rfl, rfl⟩)
        | (go_at_call 81; refine (fail_any _ _ _).mono ?_; rintro e w' ⟨rfl, hw'⟩; subst hw'))
      exact postS_panic2 ⟨rfl, HB.out, rfl⟩
  · have q1 : ¬ (n : Int) ≤ 8192 := by omega
    rw [if_neg (fun h => h8 h.1)]
    clear h8
    refine callsD_of_wpS Tryd.func79 rfl fun c₀ cs hu => ?_
    simp only [Tryd.ntmps79, List.size_toArray, List.length_cons, List.length_nil, Nat.reduceAdd, Nat.reduceSub, Array.replicate_succ, Array.replicate_zero, List.push_toArray, List.append_toArray, List.nil_append, List.cons_append]
    apply wpS_seq
    apply wpS_region
    simp [wpOpsS, go_sem, recoverD, hu, Exit.thenS]
    refine wpS_of_wp ?_
    have HU := Lib.hid hu
    clear hu
    go_wp2_with (first
      | (go_at_call 80; refine HS1.out.mono ?_; rintro e w' ⟨rfl, rfl⟩)
      | (go_at_call 81; refine (fail_any _ _ _).mono ?_; rintro e w' ⟨rfl, hw'⟩; subst hw'))
    exact postS_panic2 ⟨rfl, HB.out, rfl⟩
/-- What gives up, with what; others that had given up before lie beneath. -/
def GivesO (f : Flt) (e : Ending) : Prop := ∃ older : List PanicEntry, (older.all fun p => !p.goexit) = true ∧ e = .panicked ({ v := .iface 78 (.agg #[.int .i64 f.1, .int .i64 f.2]), recovered := false } :: older)
theorem Gives.o {f : Flt} {e : Ending} (h : Gives f e) : GivesO f e := ⟨[], rfl, h⟩
/-- What all heads come to. -/
def HEnd (w0 w : World) (bb tm nm rb : Nat) (tv nv gv : Value) (gs : List GN) (r : Except Flt Bd) (e : Ending) (w' : World) : Prop :=
  Below w0.heap.size w0 w' ∧ match r with
  | .ok b => e = .returned (.tuple #[]) ∧ ∃ tv' nv' DT DN, BAt w0 w' bb tm nm rb tv' nv' gv b gs DT DN ∧ Chg (Mine bb tm nm tv nv) w w'
  | .error f => GivesO f e
set_option maxRecDepth 100000 in
set_option maxHeartbeats 1600000 in
theorem bheads_any {w0 w : World} {bb tm nm rb : Nat} {tv nv gv : Value} {b : Bd} {gs : List GN} {DT DN : DataW Unit} (h : BAt w0 w bb tm nm rb tv nv gv b gs DT DN) {B mb : Nat} {tb : Option Nat} {l : List Tk} {x : Txt} {dv kv sv rv : Value} {rs : List GRu} {D : DataW Unit} (hr : Rules w0 B rb mb tb l x dv kv sv rv rs D) (hrl : rs.map GRu.r = x.rules)
    (hsame : x.marks.length = x.starts.length) (hsd : ∀ t ∈ x.decl, t.s.length ≤ 8192) (hss : ∀ t ∈ x.starts, t.s.length ≤ 8192) (hT : b.T = []) (hsl : secondL x.marks ≤ 100000) :
    Calls Tryd.prog 54 #[.pointer (some ⟨bb, 0, none⟩)] w (HEnd w0 w bb tm nm rb tv nv gv gs (withT b (headsB x))) := by
  have HA1 := Lib.hid (h.alloc (.cells #[.pointer (some ⟨bb, 0, none⟩)] 85))
  have HX1 := Lib.hid (Blk.new w 85 #[.pointer (some ⟨bb, 0, none⟩)])
  have HD := Lib.hid (declare_any HA1.out hr hrl hsame hsd hss)
  have HC1 := Lib.hid ((Chg.refl (Mine bb tm nm tv nv) w).alloc (.cells #[.pointer (some ⟨bb, 0, none⟩)] 85))
  have HR := Lib.hid hr
  have HSL := Lib.hid hsl
  rw [hT] at HD
  have hmf : ∀ (fn : Fn) (first cap : Array Value) (w : World), (Instr.makeFunc fn first cap).run Tryd.prog w = .ok (.func fn first cap) w := fun _ _ _ _ => rfl
  have hw1 : w.heap.size < (w.alloc (.cells #[.pointer (some ⟨bb, 0, none⟩)] 85)).heap.size := by simp
  have p0 := HX1.out.cell 0
  simp at p0
  -- what the deferred call asks
  have HS : Hid (∀ w2 b' tv' nv' DT DN, BAt w0 w2 bb tm nm rb tv' nv' gv b' gs DT DN → Chg (Mine bb tm nm tv nv) (w.alloc (.cells #[.pointer (some ⟨bb, 0, none⟩)] 85)) w2 → w2.cell? ⟨w.heap.size, 0, none⟩ = some (.pointer (some ⟨bb, 0, none⟩)) ∧ ∀ w', Below w2.heap.size w2 w' → Calls Tryd.prog 80 #[.pointer (some ⟨bb, 0, none⟩)] w' fun e w'' => e = .returned (.int .i64 (secondL x.marks)) ∧ w'' = w') := Lib.hid (fun w2 b' tv' nv' DT DN ha hc => by
    refine ⟨(hc.blk HX1.out (mine_no HA1.out HX1.out (by decide) (by decide))).cell 0, fun w' hb => ?_⟩
    have h2 := ha.chg (.of_below (X := fun _ => False) hb) (fun _ _ => id)
    exact second_any (HR.out.later h2.below) h2.cells.1)
  clear h hr hsame hsd hss hT hsl hrl
  cases hd : declL (leftOf x) (markT x) x.decl [] with
  | error f =>
    rw [hd] at HD
    have HE : Hid (withT b (headsB x) = .error (if secondL x.marks ≤ 8192 ∧ secondL x.marks < f.2 then (8, secondL x.marks) else f)) := Lib.hid (by unfold headsB; rw [hd]; simp only; split <;> rfl)
    clear hd
    go_enter_defers Tryd.func54, Tryd.ntmps54
    go_wp2_with (go_at_call 82; refine HD.out.mono ?_; intro e w2 hx; obtain ⟨b2, tv2, nv2, DT2, DN2, z1, z2, hx⟩ := hx; have hx : e = _ := hx; subst hx)
    obtain ⟨y1, y2⟩ := HS.out _ _ _ _ _ _ z1 z2
    refine leaves_cons (f := 79) (args := #[.pointer (some ⟨w.heap.size, 0, none⟩)]) (by simp) (by simp [go_sem]) ?_
    refine (heads1_pan y1 HSL.out y2).mono ?_
    rintro e u' w'' ⟨rfl, hb, he⟩
    subst he
    have hbw := (z1.chg (.of_below (X := fun _ => False) hb) (fun _ _ => id)).below
    by_cases hh : secondL x.marks ≤ 8192 ∧ secondL x.marks < f.2
    · rw [if_pos hh]
      rw [if_pos hh] at HE
      simp only [raised, Leaves]
      refine ⟨hbw, ?_⟩
      rw [HE.out]
      exact ⟨_, rfl, rfl⟩
    · rw [if_neg hh]
      rw [if_neg hh] at HE
      simp only [raised, Leaves]
      refine ⟨hbw, ?_⟩
      rw [HE.out]
      exact ⟨_, rfl, rfl⟩
  | ok T =>
    rw [hd] at HD
    have HE : Hid (withT b (headsB x) = if secondL x.marks ≤ 8192 then .error (8, secondL x.marks) else .ok { b with T := T }) := Lib.hid (by unfold headsB; rw [hd]; simp only; split <;> rfl)
    clear hd
    go_enter_defers Tryd.func54, Tryd.ntmps54
    go_wp2_with (go_at_call 82; refine HD.out.mono ?_; intro e w2 hx; obtain ⟨b2, tv2, nv2, DT2, DN2, z1, z2, rfl, rfl⟩ := hx)
    obtain ⟨y1, y2⟩ := HS.out _ _ _ _ _ _ z1 z2
    refine leaves_cons (f := 79) (args := #[.pointer (some ⟨w.heap.size, 0, none⟩)]) (by simp) (by simp [go_sem]) ?_
    refine (heads1_ret y1 HSL.out y2).mono ?_
    rintro e u' w'' ⟨rfl, hb, he⟩
    subst he
    have hbw := (z1.chg (.of_below (X := fun _ => False) hb) (fun _ _ => id))
    by_cases hh : secondL x.marks ≤ 8192
    · rw [if_pos hh]
      rw [if_pos hh] at HE
      simp only [raised, Leaves]
      refine ⟨hbw.below, ?_⟩
      rw [HE.out]
      exact ⟨_, rfl, rfl⟩
    · rw [if_neg hh]
      rw [if_neg hh] at HE
      simp only [settle, Leaves]
      refine ⟨_, results_none rfl _ _ _, hbw.below, ?_⟩
      rw [HE.out]
      exact ⟨rfl, _, _, _, _, hbw, (HC1.out.next z2).next (.of_below hb)⟩
end Go.Proofs.YtnpjhndgdlihjaaDoor

namespace Go.Proofs.YtnpjhndgdlihjaaDoor
open Go.RowKit Go.Maps
set_option linter.unusedVariables false
theorem idxOf_hit {L : List Nme} {s x : Nme} {k : Nat} (hx : L[k]? = some x) (he : s = x) (hA : ∀ j y, j < k → L[j]? = some y → s ≠ y) : s ∈ L ∧ L.idxOf s = k := by
  subst he
  have hm := List.mem_of_getElem? hx
  refine ⟨hm, ?_⟩
  obtain ⟨hk, e⟩ := List.getElem?_eq_some_iff.1 hx
  have hj := List.idxOf_lt_length_of_mem hm
  have e2 := List.getElem_idxOf hj
  have h1 : ¬ L.idxOf s < k := fun h => hA _ _ h (List.getElem?_eq_getElem hj) e2.symm
  have h2 : ∀ (L : List Nme) (k : Nat), L[k]? = some s → L.idxOf s ≤ k := by
    intro L
    induction L with
    | nil => intro k h; simp at h
    | cons a r ih =>
      intro k h
      rw [List.idxOf_cons]
      cases k with
      | zero => simp at h; simp [h]
      | succ k =>
        have := ih k (by simpa using h)
        cases a == s
        · simp only [cond_false]; omega
        · simp only [cond_true]; omega
  have := h2 L k hx
  omega
def idxI (L : List Nme) (s : Nme) : Int := if s ∈ L then (L.idxOf s : Nat) else -1
set_option maxRecDepth 100000 in
theorem index_any {w : World} {B : Nat} {v : Value} {L : List Nme} (H : w.ownsRow B 9 1 v L.length (L.map Nv)) (s : Nme) : Calls Tryd.prog 87 #[v, .string (str s)] w fun e w' => e = .returned (.int .i64 (idxI L s)) ∧ w' = w := by
  obtain ⟨A, c, rfl⟩ := own_shape H
  have hal : L.length ≤ 9223372036854775807 := by
    rcases own_form H with ⟨_, h0⟩ | ⟨_, c3, _, _, _, h1, h2, _⟩
    · omega
    · unfold maxLen at h2; omega
  have HC := Lib.hid (fun (h : 0 < L.length) => row_cell H h)
  clear H
  go_enter Tryd.func87, Tryd.ntmps87
  go_wp2
  go_loop [5, 8] (fun _ i => ∃ k : Nat, k ≤ L.length ∧ i = .int .i64 k ∧ Hid (∀ j y, j < k → L[j]? = some y → s ≠ y)) (fun _ i => L.length - (intOf i).toNat)
  case atStart => exact ⟨0, Nat.zero_le _, rfl, Lib.hid (fun j y hj => absurd hj (Nat.not_lt_zero _))⟩
  case round =>
    obtain ⟨k, hk, rfl, HA⟩ := hrel
    by_cases hlt : k < L.length
    · have hx := List.getElem?_eq_getElem hlt
      generalize L[k] = x at hx
      obtain ⟨b, c2, e1, hcell⟩ := HC.out (by omega)
      cases e1
      have hcx := hcell k (Nv x) (by rw [List.getElem?_map, hx]; rfl)
      unfold Nv at hcx
      by_cases he : s = x
      · have HI : Hid (idxI L s = (k : Int)) := Lib.hid (by obtain ⟨h1, h2⟩ := idxOf_hit hx he HA.out; unfold idxI; rw [if_pos h1, h2])
        have hb : ((str s).toList == (str x).toList) = true := by subst he; exact beq_self_eq_true _
        generalize str s = ss at *
        generalize str x = sx at *
        clear hx hcell he
        go_wp2
        go_ret
        rw [HI.out]
        exact ⟨rfl, rfl⟩
      · have HN : Hid (∀ j y, j < k + 1 → L[j]? = some y → s ≠ y) := Lib.hid (fun j y hj hy => by
          by_cases e : j = k
          · subst e; rw [hx] at hy; cases hy; exact he
          · exact HA.out j y (by omega) hy)
        have hb : ((str s).toList == (str x).toList) = false := beq_eq_false_iff_ne.2 (fun h => he (str_inj (bytes_eq h)))
        generalize str s = ss at *
        generalize str x = sx at *
        clear hx hcell he
        go_wp2
        go_round
        case rel => exact ⟨k + 1, by omega, by go_num, HN⟩
        case measure => simp [intOf]; omega
    · obtain rfl : k = L.length := by omega
      have HI : Hid (idxI L s = -1) := Lib.hid (by
        unfold idxI
        rw [if_neg]
        intro hm
        obtain ⟨j, hj⟩ := List.mem_iff_getElem?.1 hm
        exact HA.out j s (List.getElem?_eq_some_iff.1 hj).1 hj rfl)
      go_wp2
      go_ret
      rw [HI.out]
      exact ⟨rfl, rfl⟩
theorem find_any {w : World} {B : Nat} {tv nv rv : Value} {T N : List Nme} {s0 : Int} (HT : w.ownsRow B 9 1 tv T.length (T.map Nv)) (HN : w.ownsRow B 9 1 nv N.length (N.map Nv)) (hlt : T.length ≤ 120) (hln : N.length ≤ 120) (s : Nme) :
    Calls Tryd.prog 57 #[.agg #[tv, nv, rv, .int .i64 s0], .string (str s)] w fun e w' => e = .returned (.int .i64 (findL T N s)) ∧ Below w.heap.size w w' := by
  obtain ⟨A, c, rfl⟩ := own_shape HT
  obtain ⟨A2, c2, rfl⟩ := own_shape HN
  have hc : Chg (fun _ => False) w (w.alloc (.cells #[.slice A T.length c, .slice A2 N.length c2, rv, .int .i64 s0] 30)) := (Chg.refl _ w).alloc _
  have H1 := Lib.hid (index_any (hc.own HT (fun _ _ => id)) s)
  have H2 := Lib.hid (index_any (hc.own HN (fun _ _ => id)) s)
  have hb := below_alloc w (.cells #[.slice A T.length c, .slice A2 N.length c2, rv, .int .i64 s0] 30)
  have HB := Lib.hid hb
  have hT : T.idxOf s ≤ T.length := List.idxOf_le_length
  have hN : N.idxOf s ≤ N.length := List.idxOf_le_length
  unfold idxI at H1 H2
  clear HT HN hc hb
  by_cases h1 : s ∈ T
  · have HE : Hid (findL T N s = T.idxOf s + 1) := Lib.hid (by unfold findL; rw [if_pos (by simpa using h1)])
    rw [if_pos h1] at H1
    clear h1
    generalize T.idxOf s = n1 at *
    generalize N.length = nN at *
    generalize T.length = nT at *
    go_enter Tryd.func57, Tryd.ntmps57
    go_wp2_with (go_at_call 87; refine H1.out.mono ?_; rintro e w' ⟨rfl, rfl⟩)
    go_ret
    rw [HE.out]
    exact ⟨by first | rfl | (push_cast; rfl), HB.out⟩
  · rw [if_neg h1] at H1
    by_cases h2 : s ∈ N
    · have HE : Hid (findL T N s = T.length + N.idxOf s + 1) := Lib.hid (by unfold findL; rw [if_neg (by simpa using h1), if_pos (by simpa using h2)])
      rw [if_pos h2] at H2
      clear h1 h2
      generalize N.idxOf s = n1 at *
      generalize N.length = nN at *
      generalize T.length = nT at *
      go_enter Tryd.func57, Tryd.ntmps57
      go_wp2_with (first
        | (go_at_call 87; (with_reducible refine H1.out.mono ?_); rintro e w' ⟨rfl, rfl⟩)
        | (go_at_call 87; (with_reducible refine H2.out.mono ?_); rintro e w' ⟨rfl, rfl⟩))
      go_ret
      rw [HE.out]
      exact ⟨by first | rfl | (push_cast; rfl), HB.out⟩
    · have HE : Hid (findL T N s = 0) := Lib.hid (by unfold findL; rw [if_neg (by simpa using h1), if_neg (by simpa using h2)])
      rw [if_neg h2] at H2
      clear h1 h2
      generalize N.length = nN at *
      generalize T.length = nT at *
      go_enter Tryd.func57, Tryd.ntmps57
      go_wp2_with (first
        | (go_at_call 87; (with_reducible refine H1.out.mono ?_); rintro e w' ⟨rfl, rfl⟩)
        | (go_at_call 87; (with_reducible refine H2.out.mono ?_); rintro e w' ⟨rfl, rfl⟩))
      go_ret
      rw [HE.out]
      exact ⟨rfl, HB.out⟩
end Go.Proofs.YtnpjhndgdlihjaaDoor

namespace Go.Proofs.YtnpjhndgdlihjaaDoor
open Go.RowKit Go.Maps
set_option linter.unusedVariables false
/-- A rule of symbols, as it lies. -/
structure RuG where
  left : Nat
  v : Value
  r : List Nat
def RuG.cells (q : RuG) : List Value := [.int .i64 q.left, q.v]
def RuG.g (q : RuG) : Nat × List Nat := (q.left, q.r)
theorem RuG.cells_len (q : RuG) : q.cells.length = 2 := rfl
theorem ElRu : El Tryd.prog 28 68 2 32 := El.of (z := .agg #[.int .i64 0, .slice none 0 0]) Tryd.underlying28 (by kernel_rfl) rfl (by decide)
/-- What the builder has, while names turn into symbols. -/
structure GAt (w0 w : World) (bb : Nat) (p1 p2 p3 tv nv gv Rv : Value) (b : Bd) (gs : List GN) (R : List RuG) (st : Int) : Prop where
  below : Below w0.heap.size w0 w
  blk : Blk w bb 88 #[p1, p2, p3, tv, nv, Rv, .int .i64 st, gv]
  ft : w.ownsRow w0.heap.size 9 1 tv b.T.length (b.T.map Nv)
  fn : w.ownsRow w0.heap.size 9 1 nv b.N.length (b.N.map Nv)
  fg : w.ownsRow w0.heap.size 27 1 gv gs.length (gs.map GN.v)
  rows : ∀ q ∈ gs, w.ownsRow w0.heap.size 9 1 q.v q.l.length (q.l.map Nv)
  fR : w.ownsRow w0.heap.size 68 2 Rv R.length (R.flatMap RuG.cells)
  rights : ∀ q ∈ R, w.ownsRow w0.heap.size 3 1 q.v q.r.length (q.r.map Mark)
  names : gs.map GN.l = b.R
  b0 : w0.heap.size ≤ bb
  lt : b.T.length ≤ 120
  ln : b.N.length ≤ 120
  lr : b.R.length ≤ 300
theorem GAt.of {w0 w : World} {bb tm nm rb : Nat} {tv nv gv : Value} {b : Bd} {gs : List GN} {DT DN : DataW Unit} (h : BAt w0 w bb tm nm rb tv nv gv b gs DT DN) : GAt w0 w bb (.pointer (some ⟨rb, 0, none⟩)) (.map (some tm)) (.map (some nm)) tv nv gv (.slice none 0 0) b gs [] 0 :=
  ⟨h.below, h.blk, h.ft, h.fn, h.fg, h.rows, World.ownsRow_nil _ _ _ _, (by simp), h.names, h.b0.1, h.lt, h.ln, h.lr⟩
namespace GAt
variable {w0 w : World} {bb : Nat} {p1 p2 p3 tv nv gv Rv : Value} {b : Bd} {gs : List GN} {R : List RuG} {st : Int}
theorem later (h : GAt w0 w bb p1 p2 p3 tv nv gv Rv b gs R st) {w' : World} (hb : Below w.heap.size w w') : GAt w0 w' bb p1 p2 p3 tv nv gv Rv b gs R st := by
  have hc : Chg (fun _ => False) w w' := .of_below hb
  exact ⟨h.below.trans (hb.mono h.below.size), hc.blk h.blk id, hc.own h.ft (fun _ _ => id), hc.own h.fn (fun _ _ => id), hc.own h.fg (fun _ _ => id), fun q hq => hc.own (h.rows q hq) (fun _ _ => id), hc.own h.fR (fun _ _ => id), fun q hq => hc.own (h.rights q hq) (fun _ _ => id), h.names, h.b0, h.lt, h.ln, h.lr⟩
theorem drew (h : GAt w0 w bb p1 p2 p3 tv nv gv Rv b gs R st) : GAt w0 w.drew bb p1 p2 p3 tv nv gv Rv b gs R st := h.later (drew_below w)
theorem cells (h : GAt w0 w bb p1 p2 p3 tv nv gv Rv b gs R st) : w.cell? ⟨bb, 0, none⟩ = some p1 ∧ w.cell? ⟨bb, 3, none⟩ = some tv ∧ w.cell? ⟨bb, 4, none⟩ = some nv ∧ w.cell? ⟨bb, 5, none⟩ = some Rv ∧ w.cell? ⟨bb, 6, none⟩ = some (.int .i64 st) ∧ w.cell? ⟨bb, 7, none⟩ = some gv ∧ bb < w.heap.size :=
  ⟨h.blk.cell 0, h.blk.cell 3, h.blk.cell 4, h.blk.cell 5, h.blk.cell 6, h.blk.cell 7, h.blk.lt⟩
theorem find (h : GAt w0 w bb p1 p2 p3 tv nv gv Rv b gs R st) (s : Nme) : Calls Tryd.prog 57 #[.agg #[tv, nv, Rv, .int .i64 st], .string (str s)] w fun e w' => e = .returned (.int .i64 (findL b.T b.N s)) ∧ Below w.heap.size w w' :=
  find_any h.ft h.fn h.lt h.ln s
/-- A rule has been appended. -/
theorem app (h : GAt w0 w bb p1 p2 p3 tv nv gv Rv b gs R st) {w2 : World} {o : Obj} {A2 : Option Addr} {c2 : Nat} {q : RuG} (hq : w.ownsRow w0.heap.size 3 1 q.v q.r.length (q.r.map Mark))
    (ho : w2.ownsRow w0.heap.size 68 2 (.slice A2 (R.length + 1) c2) (R.length + 1) (R.flatMap RuG.cells ++ q.cells))
    (hg : (w.alloc o).grownBy w2 Rv.ownBlock ∧ ((Value.slice A2 (R.length + 1) c2).ownBlock = Rv.ownBlock ∨ (Value.slice A2 (R.length + 1) c2).ownBlock = some (w.alloc o).heap.size)) :
    GAt w0 (w2.setCell ⟨bb, 5, none⟩ (.slice A2 (R.length + 1) c2)) bb p1 p2 p3 tv nv gv (.slice A2 (R.length + 1) c2) b gs (R ++ [q]) st ∧ Chg (fun k => Rv.ownBlock = some k ∨ k = bb) w (w2.setCell ⟨bb, 5, none⟩ (.slice A2 (R.length + 1) c2)) := by
  have hX : Chg (fun k => Rv.ownBlock = some k) w w2 := ((Chg.refl _ w).alloc o).next (.of_grown hg.1)
  have hY : Chg (fun k => Rv.ownBlock = some k ∨ k = bb) w (w2.setCell ⟨bb, 5, none⟩ (.slice A2 (R.length + 1) c2)) := (hX.mono (fun i hi => .inl hi)).set (p := ⟨bb, 5, none⟩) (.inr (.inr rfl)) _
  have e1 : ¬ Rv.ownBlock = some bb := row_blk h.fR h.blk (by decide)
  have hbb := h.blk.lt
  have hrow : ∀ {e : TypeId} {n : Nat} {v : Value} {xs : List Value}, w.ownsRow w0.heap.size e 1 v n xs → e ≠ 68 → e ≠ 88 → (w2.setCell ⟨bb, 5, none⟩ (.slice A2 (R.length + 1) c2)).ownsRow w0.heap.size e 1 v n xs := by
    intro e n v xs hr h1 h2
    refine hY.own hr ?_
    rintro k hk (hh | rfl)
    · exact own_apart hr h.fR h1 k hk hh
    · exact row_blk hr h.blk h2 hk
  refine ⟨⟨?_, by simpa using (hX.blk h.blk e1).set_ 5 (.slice A2 (R.length + 1) c2), hrow h.ft (by decide) (by decide), hrow h.fn (by decide) (by decide), hrow h.fg (by decide) (by decide), fun q hq => hrow (h.rows q hq) (by decide) (by decide), ?_, ?_, h.names, h.b0, h.lt, h.ln, h.lr⟩, hY⟩
  · refine h.below.trans (hY.below h.below.size ?_)
    rintro k hk (hh | hh)
    · have := (own_ge h.fR k hh).1; omega
    · have := h.b0; omega
  · rw [show (R ++ [q]).length = R.length + 1 by simp, List.flatMap_append]
    refine own_far (by simpa using ho) ?_ _
    intro e
    rcases hg.2 with e2 | e2
    · exact e1 (e2 ▸ e)
    · rw [e2] at e; injection e with e; simp at e; omega
  · intro u hu
    rcases List.mem_append.1 hu with hu | hu
    · exact hrow (h.rights u hu) (by decide) (by decide)
    · rw [List.mem_singleton.1 hu]; exact hrow hq (by decide) (by decide)
/-- The start has been laid. -/
theorem start (h : GAt w0 w bb p1 p2 p3 tv nv gv Rv b gs R st) (s : Int) : GAt w0 (w.setCell ⟨bb, 6, none⟩ (.int .i64 s)) bb p1 p2 p3 tv nv gv Rv b gs R s ∧ Chg (fun k => k = bb) w (w.setCell ⟨bb, 6, none⟩ (.int .i64 s)) := by
  have hY : Chg (fun k => k = bb) w (w.setCell ⟨bb, 6, none⟩ (.int .i64 s)) := (Chg.refl (fun k => k = bb) w).set (p := ⟨bb, 6, none⟩) (.inr rfl) _
  have hrow : ∀ {e : TypeId} {sz n : Nat} {v : Value} {xs : List Value}, w.ownsRow w0.heap.size e sz v n xs → e ≠ 88 → (w.setCell ⟨bb, 6, none⟩ (.int .i64 s)).ownsRow w0.heap.size e sz v n xs := by
    intro e sz n v xs hr h2
    refine hY.own hr ?_
    rintro k hk rfl
    exact row_blk hr h.blk h2 hk
  refine ⟨⟨?_, by simpa using h.blk.set_ 6 (.int .i64 s), hrow h.ft (by decide), hrow h.fn (by decide), hrow h.fg (by decide), fun q hq => hrow (h.rows q hq) (by decide), hrow h.fR (by decide), fun q hq => hrow (h.rights q hq) (by decide), h.names, h.b0, h.lt, h.ln, h.lr⟩, hY⟩
  refine h.below.trans (hY.below h.below.size ?_)
  rintro k hk hh
  have := h.b0; omega
end GAt
/-- A rule that is being turned; done: its right side's symbols so far. -/
structure RAt (wi : World) (xb left : Nat) (xv : Value) (done : List Nat) (wr : World) : Prop where
  below : Below wi.heap.size wi wr
  box : Blk wr xb 68 #[.int .i64 left, xv]
  own : wr.ownsRow wi.heap.size 3 1 xv done.length (done.map Mark)
  hx : wi.heap.size ≤ xb
namespace RAt
variable {wi wr : World} {xb left : Nat} {xv : Value} {done : List Nat}
theorem later (h : RAt wi xb left xv done wr) {w' : World} (hb : Below wr.heap.size wr w') : RAt wi xb left xv done w' := by
  have hc : Chg (fun _ => False) wr w' := .of_below hb
  exact ⟨h.below.trans (hb.mono h.below.size), hc.blk h.box id, hc.own h.own (fun _ _ => id), h.hx⟩
theorem app (h : RAt wi xb left xv done wr) {w2 : World} {o : Obj} {A2 : Option Addr} {c2 s : Nat}
    (ho : w2.ownsRow wi.heap.size 3 1 (.slice A2 (done.length + 1) c2) (done.length + 1) (done.map Mark ++ [Mark s]))
    (hg : (wr.alloc o).grownBy w2 xv.ownBlock ∧ ((Value.slice A2 (done.length + 1) c2).ownBlock = xv.ownBlock ∨ (Value.slice A2 (done.length + 1) c2).ownBlock = some (wr.alloc o).heap.size)) :
    RAt wi xb left (.slice A2 (done.length + 1) c2) (done ++ [s]) (w2.setCell ⟨xb, 1, none⟩ (.slice A2 (done.length + 1) c2)) := by
  have hX : Chg (fun k => xv.ownBlock = some k) wr w2 := ((Chg.refl _ wr).alloc o).next (.of_grown hg.1)
  have hY : Chg (fun k => xv.ownBlock = some k ∨ k = xb) wr (w2.setCell ⟨xb, 1, none⟩ (.slice A2 (done.length + 1) c2)) := (hX.mono (fun i hi => .inl hi)).set (p := ⟨xb, 1, none⟩) (.inr (.inr rfl)) _
  have e1 : ¬ xv.ownBlock = some xb := row_blk h.own h.box (by decide)
  have hxb := h.box.lt
  refine ⟨?_, by simpa using (hX.blk h.box e1).set_ 1 (.slice A2 (done.length + 1) c2), ?_, h.hx⟩
  · refine h.below.trans (hY.below h.below.size ?_)
    rintro k hk (hh | hh)
    · have := (own_ge h.own k hh).1; omega
    · have := h.hx; omega
  · rw [show (done ++ [s]).length = done.length + 1 by simp, List.map_append]
    refine own_far ho ?_ _
    intro e
    rcases hg.2 with e2 | e2
    · exact e1 (e2 ▸ e)
    · rw [e2] at e; injection e with e; simp at e; omega
end RAt
/-! No row of names is empty. -/
def NoE (R : List (List Nme)) : Prop := ∀ r ∈ R, r ≠ [] ∧ r.length ≤ 100001
theorem syms_R {lf : Nme → Bool} : ∀ (l : List Tk) (k : Nat) {b b' : Bd}, symsB lf b k l = .ok b' → b'.R = b.R
  | [], k, b, b', h => by injection h with h; rw [h]
  | t :: l, k, b, b', h => by
    unfold symsB at h
    cases hs : symbolB lf b t k with
    | error f => rw [hs] at h; cases h
    | ok b2 =>
      rw [hs] at h
      rw [syms_R l (k + 1) h]
      unfold symbolB at hs
      split at hs
      · cases hs
      split at hs
      · injection hs with hs; rw [← hs]
      split at hs
      · split at hs
        · cases hs
        · injection hs with hs; rw [← hs]
      split at hs
      · injection hs with hs; rw [← hs]
      · cases hs
theorem side_E {lf : Nme → Bool} {b b' : Bd} {left : Nme} {s : PS} (hl : s.l.length ≤ 100000) (h0 : NoE b.R) (h : sideB lf b left s = .ok b') : NoE b'.R := by
  unfold sideB at h
  split at h
  · cases h
  cases hs : symsB lf b 0 s.l with
  | error f => rw [hs] at h; cases h
  | ok b2 =>
    rw [hs] at h
    simp only at h
    split at h
    · cases h
    · injection h with h
      rw [← h]
      intro r hr
      rcases List.mem_append.1 hr with hr | hr
      · rw [syms_R _ _ hs] at hr; exact h0 r hr
      · rw [List.mem_singleton.1 hr]; simp; omega
theorem left_E {D : Nat} {b b' : Bd} {t : Tk} (h : leftB D b t = .ok b') : b'.R = b.R := by
  unfold leftB at h
  split at h
  · cases h
  split at h
  · injection h with h; rw [← h]
  split at h
  · cases h
  · injection h with h; rw [← h]
end Go.Proofs.YtnpjhndgdlihjaaDoor
