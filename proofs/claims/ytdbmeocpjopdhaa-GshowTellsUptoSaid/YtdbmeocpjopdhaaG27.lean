/- A grammar and a rule that came in, read. -/
import Derived.Test.YtdbmeocpjopdhaaG18
import Derived.Test.YtdbmeocpjopdhaaLaw
import Derived.Deep.Slices
import Derived.Deep.Fields
import Derived.JoinedCond
import Derived.DataShut
namespace Go.Proofs.Ytdbmeocpjopdhaa
open Go.ChangeShapes Go.WideShapes Go.ChangeAt Go.RowKit Go.Deep
set_option linter.unusedVariables false
theorem Try.cellsRule : Try.prog.cellsOf 28 = 2 := by kernel_rfl
theorem Try.cellsGram : Try.prog.cellsOf 25 = 4 := by kernel_rfl
theorem Try.cellsInt : Try.prog.cellsOf 3 = 1 := by kernel_rfl
theorem Try.cellsStr : Try.prog.cellsOf 9 = 1 := by kernel_rfl
theorem Try.cellsInts : Try.prog.cellsOf 26 = 1 := by kernel_rfl
theorem Try.cellsStrs : Try.prog.cellsOf 22 = 1 := by kernel_rfl
theorem Try.cellsRules : Try.prog.cellsOf 23 = 1 := by kernel_rfl
theorem cell_spot {w : World} {p : Addr} {v : Value} (h : w.cell? p = some v) : p.spot = none := by
  unfold World.cell? at h
  split at h
  · split at h
    · cases h
    · rename_i hs; cases hh : p.spot with
      | none => rfl
      | some x => rw [hh] at hs; exact absurd rfl hs
  · cases h
theorem add_zero' (a : Addr) : a.add 0 = a := by unfold Addr.add; rw [if_pos rfl]
theorem add_none {a : Addr} (h : a.spot = none) (i : Nat) : a.add i = ⟨a.block, a.off + i, none⟩ := by
  obtain ⟨b, o, s⟩ := a
  dsimp only at h
  subst h
  unfold Addr.add
  split
  · rename_i h0; simp_all
  · rfl
theorem wf_low {K : Int} (h : (Lit.int .i64 K).wf = true) : -9223372036854775808 ≤ K := by
  have h1 : IntKind.i64.min ≤ K := ((Lit.wf_int_iff .i64 K).1 h).1
  exact h1
section
variable {H : Type}
theorem bulk_one (d : DataW H) : 1 ≤ Rows.uptoBulk d := by
  cases d with
  | lit l => cases l <;> simp [Rows.uptoBulk]
  | nil => simp [Rows.uptoBulk]
  | ptr d => simp [Rows.uptoBulk]
  | slice elems spare => simp [Rows.uptoBulk]
  | agg parts => simp [Rows.uptoBulk]
  | iface t d => simp [Rows.uptoBulk]
  | map entries => simp [Rows.uptoBulk]
  | held h => simp [Rows.uptoBulk]
theorem bulk_len (l : List (DataW H)) : l.length ≤ Rows.uptoBulkAll l := by
  induction l with
  | nil => simp [Rows.uptoBulkAll]
  | cons x r ih => have := bulk_one x; simp only [Rows.uptoBulkAll, List.length_cons]; omega
theorem bulk_at (D : Nat → DataW H) (n i : Nat) (h : i < n) : Rows.uptoBulk (D i) ≤ Rows.uptoBulkAll ((List.range n).map D) := by
  have : ∀ L : List Nat, i ∈ L → Rows.uptoBulk (D i) ≤ Rows.uptoBulkAll (L.map D) := by
    intro L
    induction L with
    | nil => intro h; cases h
    | cons j L ih =>
      intro hm
      simp only [List.map_cons, Rows.uptoBulkAll]
      rcases List.mem_cons.1 hm with rfl | hm
      · omega
      · have := ih hm; omega
  exact this _ (List.mem_range.2 h)
theorem map_get {α : Type} (f : Nat → α) (n k : Nat) {x : α} (h : ((List.range n).map f)[k]? = some x) : k < n ∧ x = f k := by
  rw [List.getElem?_map] at h
  obtain ⟨i, hi, rfl⟩ := Option.map_eq_some_iff.1 h
  obtain ⟨hk, he⟩ := List.getElem?_eq_some_iff.1 hi
  rw [List.length_range] at hk
  rw [List.getElem_range] at he
  exact ⟨hk, by rw [he]⟩
theorem map_mem {α : Type} (f : Nat → α) (n : Nat) {x : α} (h : x ∈ (List.range n).map f) : ∃ k, k < n ∧ x = f k := by
  obtain ⟨k, hk, rfl⟩ := List.mem_map.1 h
  exact ⟨k, List.mem_range.1 hk, rfl⟩
set_option maxRecDepth 100000 in
/-- A row of texts that came in. -/
theorem read_strs {enc : TypeId × Value → H} {w : World} (fuel : Nat) (cs : List Value) (x : DataW H × List MemPlace) (hx : Rows.uptoBulk x.1 ≤ 1048576)
    (h : DataW.trod enc Try.prog w 0 (fun _ => true) true fuel 22 cs = some x) : ∃ s l, cs = [s] ∧ Arr StrV w s l ∧ (∀ t ∈ l, t.size ≤ 1048576) ∧ l.length ≤ 1048576 := by
  rcases open_slice Try.underlying22 h with ⟨rfl, rfl⟩ | ⟨a, len, cap, m, n, D, Pl, rfl, hb, hl, hm, hmm, rfl, hi⟩
  · exact ⟨_, [], rfl, .nil _ _ _ (fun _ => rfl), by simp, by simp⟩
  · have hmm2 : m = cap := by rw [hmm]; simp
    simp only [Rows.uptoBulk] at hx
    have hll := bulk_len ((List.range len).map D)
    simp only [List.length_map, List.length_range] at hll
    by_cases hlen : len = 0
    · subst hlen
      exact ⟨_, [], rfl, .nil _ _ _ (fun e => by cases e), by simp, by simp⟩
    have hsp : a.spot = none := by
      obtain ⟨cs0, hc0, _⟩ := hi 0 (by omega)
      rw [Try.cellsStr, Nat.zero_mul] at hc0
      obtain ⟨_, hl0, hcell0⟩ := World.cells?_some hc0
      have h0 := hcell0 0 (by omega)
      rw [add_zero', add_zero', List.getElem?_eq_getElem (by omega)] at h0
      exact cell_spot h0
    have ha : a = ⟨a.block, a.off, none⟩ := by rw [← hsp]
    have hex : ∀ i, i < len → ∃ t : ByteArray, a.block < w.heap.size ∧ w.cell? ⟨a.block, a.off + i, none⟩ = some (.string t) ∧ t.size ≤ 1048576 := by
      intro i hil
      have hbi := bulk_at D len i hil
      obtain ⟨cs', hc, ht⟩ := hi i (by omega)
      rw [Try.cellsStr, Nat.mul_one] at hc
      obtain ⟨_, hlen', hcell⟩ := World.cells?_some hc
      match cs', hlen' with
      | [v0], _ =>
        have q0 := hcell 0 (by omega)
        simp only [List.getElem?_cons_zero] at q0
        rw [add_zero'] at q0
        obtain ⟨tx, htx, hy, _⟩ := DataW.trod_string Try.underlying9 ht
        simp only [List.cons.injEq, and_true] at htx
        subst htx
        have hdi : D i = .lit (.string tx.data.toList) := congrArg Prod.fst hy
        rw [hdi] at hbi
        simp only [Rows.uptoBulk, Array.length_toList] at hbi
        have hblk := World.block_lt_of_cell? w _ q0
        rw [add_none hsp] at q0 hblk
        exact ⟨tx, hblk, q0, by show tx.data.size ≤ _; omega⟩
    let f : Nat → ByteArray := fun i => if h : i < len then Classical.choose (hex i h) else ⟨#[]⟩
    have hf : ∀ i, i < len → a.block < w.heap.size ∧ w.cell? ⟨a.block, a.off + i, none⟩ = some (.string (f i)) ∧ (f i).size ≤ 1048576 := fun i h => by
      have e : f i = Classical.choose (hex i h) := dif_pos h
      rw [e]
      exact Classical.choose_spec (hex i h)
    refine ⟨_, (List.range len).map f, rfl, ⟨⟨some a, cap, by simp, fun k t ht => ?_⟩, by simp; omega, fun A n' c' e => by cases e; exact ⟨hl, fun e => by cases e⟩⟩, fun t ht => ?_, by simp; omega⟩
    · obtain ⟨hk, rfl⟩ := map_get f len k ht
      exact ⟨a.block, a.off, by rw [← ha], (hf k hk).1, (hf k hk).2.1⟩
    · obtain ⟨k, hk, rfl⟩ := map_mem f len ht
      exact (hf k hk).2.2
set_option maxRecDepth 100000 in
/-- A row of numbers that came in. -/
theorem read_ints {enc : TypeId × Value → H} {w : World} (fuel : Nat) (cs : List Value) (x : DataW H × List MemPlace) (hx : Rows.uptoBulk x.1 ≤ 1048576)
    (h : DataW.trod enc Try.prog w 0 (fun _ => true) true fuel 26 cs = some x) : ∃ s l, cs = [s] ∧ Arr IntV w s l ∧ (∀ t ∈ l, -9223372036854775808 ≤ t) ∧ l.length ≤ 1048576 := by
  rcases open_slice Try.underlying26 h with ⟨rfl, rfl⟩ | ⟨a, len, cap, m, n, D, Pl, rfl, hb, hl, hm, hmm, rfl, hi⟩
  · exact ⟨_, [], rfl, .nil _ _ _ (fun _ => rfl), by simp, by simp⟩
  · have hmm2 : m = cap := by rw [hmm]; simp
    simp only [Rows.uptoBulk] at hx
    have hll := bulk_len ((List.range len).map D)
    simp only [List.length_map, List.length_range] at hll
    by_cases hlen : len = 0
    · subst hlen
      exact ⟨_, [], rfl, .nil _ _ _ (fun e => by cases e), by simp, by simp⟩
    have hsp : a.spot = none := by
      obtain ⟨cs0, hc0, _⟩ := hi 0 (by omega)
      rw [Try.cellsInt, Nat.zero_mul] at hc0
      obtain ⟨_, hl0, hcell0⟩ := World.cells?_some hc0
      have h0 := hcell0 0 (by omega)
      rw [add_zero', add_zero', List.getElem?_eq_getElem (by omega)] at h0
      exact cell_spot h0
    have ha : a = ⟨a.block, a.off, none⟩ := by rw [← hsp]
    have hex : ∀ i, i < len → ∃ t : Int, a.block < w.heap.size ∧ w.cell? ⟨a.block, a.off + i, none⟩ = some (.int .i64 t) ∧ -9223372036854775808 ≤ t := by
      intro i hil
      obtain ⟨cs', hc, ht⟩ := hi i (by omega)
      rw [Try.cellsInt, Nat.mul_one] at hc
      obtain ⟨_, hlen', hcell⟩ := World.cells?_some hc
      match cs', hlen' with
      | [v0], _ =>
        have q0 := hcell 0 (by omega)
        simp only [List.getElem?_cons_zero] at q0
        rw [add_zero'] at q0
        obtain ⟨K, hK, hy, hwf⟩ := DataW.trod_int Try.underlying3 ht
        simp only [List.cons.injEq, and_true] at hK
        subst hK
        have hblk := World.block_lt_of_cell? w _ q0
        rw [add_none hsp] at q0 hblk
        exact ⟨K, hblk, q0, wf_low hwf⟩
    let f : Nat → Int := fun i => if h : i < len then Classical.choose (hex i h) else 0
    have hf : ∀ i, i < len → a.block < w.heap.size ∧ w.cell? ⟨a.block, a.off + i, none⟩ = some (.int .i64 (f i)) ∧ -9223372036854775808 ≤ f i := fun i h => by
      have e : f i = Classical.choose (hex i h) := dif_pos h
      rw [e]
      exact Classical.choose_spec (hex i h)
    refine ⟨_, (List.range len).map f, rfl, ⟨⟨some a, cap, by simp, fun k t ht => ?_⟩, by simp; omega, fun A n' c' e => by cases e; exact ⟨hl, fun e => by cases e⟩⟩, fun t ht => ?_, by simp; omega⟩
    · obtain ⟨hk, rfl⟩ := map_get f len k ht
      exact ⟨a.block, a.off, by rw [← ha], (hf k hk).1, (hf k hk).2.1⟩
    · obtain ⟨k, hk, rfl⟩ := map_mem f len ht
      exact (hf k hk).2.2
set_option maxRecDepth 100000 in
/-- A row of rules that came in. -/
theorem read_rules {enc : TypeId × Value → H} {w : World} (fuel : Nat) (cs : List Value) (x : DataW H × List MemPlace) (hx : Rows.uptoBulk x.1 ≤ 1048576)
    (h : DataW.trod enc Try.prog w 0 (fun _ => true) true fuel 23 cs = some x) : ∃ s l, cs = [s] ∧ Rul w s l ∧ (∀ r ∈ l, (-9223372036854775808 ≤ r.left ∧ ∀ t ∈ r.right, -9223372036854775808 ≤ t) ∧ r.right.length ≤ 1048576) ∧ l.length ≤ 1048576 := by
  rcases open_slice Try.underlying23 h with ⟨rfl, rfl⟩ | ⟨a, len, cap, m, n, D, Pl, rfl, hb, hl, hm, hmm, rfl, hi⟩
  · exact ⟨_, [], rfl, ⟨⟨none, 0, rfl, fun k r h => by simp at h⟩, by simp, fun _ _ _ e => by cases e; exact ⟨Nat.zero_le _, fun _ => rfl⟩⟩, by simp, by simp⟩
  · have hmm2 : m = cap := by rw [hmm]; simp
    simp only [Rows.uptoBulk] at hx
    have hll := bulk_len ((List.range len).map D)
    simp only [List.length_map, List.length_range] at hll
    by_cases hlen : len = 0
    · subst hlen
      exact ⟨_, [], rfl, ⟨⟨some a, cap, rfl, fun k r h => by simp at h⟩, by simp, fun _ _ _ e => by cases e; exact ⟨Nat.zero_le _, fun e => by cases e⟩⟩, by simp, by simp⟩
    have hsp : a.spot = none := by
      obtain ⟨cs0, hc0, _⟩ := hi 0 (by omega)
      rw [Try.cellsRule, Nat.zero_mul] at hc0
      obtain ⟨_, hl0, hcell0⟩ := World.cells?_some hc0
      have h0 := hcell0 0 (by omega)
      rw [add_zero', add_zero', List.getElem?_eq_getElem (by omega)] at h0
      exact cell_spot h0
    have ha : a = ⟨a.block, a.off, none⟩ := by rw [← hsp]
    have hex : ∀ i, i < len → ∃ t : Ru, a.block < w.heap.size ∧ w.cell? ⟨a.block, a.off + i * 2, none⟩ = some (.int .i64 t.left) ∧ w.cell? ⟨a.block, a.off + i * 2 + 1, none⟩ = some t.v ∧ Arr IntV w t.v t.right ∧ (-9223372036854775808 ≤ t.left ∧ ∀ s ∈ t.right, -9223372036854775808 ≤ s) ∧ t.right.length ≤ 1048576 := by
      intro i hil
      have hbi := bulk_at D len i hil
      obtain ⟨cs', hc, ht⟩ := hi i (by omega)
      rw [Try.cellsRule] at hc
      obtain ⟨_, hlen', hcell⟩ := World.cells?_some hc
      obtain ⟨xs, n', _, hD, _, hxl, hfl⟩ := DataW.trod_struct Try.underlying28 ht
      match cs', hlen' with
      | [v0, v1], _ =>
        have q0 := hcell 0 (by omega)
        have q1 := hcell 1 (by omega)
        simp only [List.getElem?_cons_zero, List.getElem?_cons_succ] at q0 q1
        have z0 := hfl 0 _ rfl
        have z1 := hfl 1 _ rfl
        obtain ⟨y0, y1, rfl⟩ : ∃ y0 y1, xs = [y0, y1] := by
          match xs, hxl with
          | [y0, y1], _ => exact ⟨_, _, rfl⟩
        simp only [List.getElem_toArray, List.getElem_cons_zero, List.getElem_cons_succ, Try.cellsInt, Try.cellsInts, List.drop_zero, List.take_succ_cons, List.take_zero, List.drop_succ_cons, List.getElem?_cons_zero, List.getElem?_cons_succ] at z0 z1
        obtain ⟨K, hK, hy0, hwf⟩ := DataW.trod_int Try.underlying3 z0
        have hDi : D i = .agg [y0.1, y1.1] := by have := congrArg Prod.fst hD; simpa using this
        rw [hDi] at hbi
        simp only [Rows.uptoBulk, Rows.uptoBulkAll] at hbi
        obtain ⟨s, l, hs, hl2, hr2, hn2⟩ := read_ints n' [v1] y1 (by omega) z1
        simp only [List.cons.injEq, and_true] at hK hs
        subst hK hs
        have hblk := World.block_lt_of_cell? w _ q0
        have hs2 : (a.add (i * 2)).spot = none := by rw [add_none hsp]
        rw [add_none hs2, add_none hsp] at q0 q1 hblk
        exact ⟨⟨K, v1, l⟩, hblk, q0, q1, hl2, ⟨wf_low hwf, hr2⟩, hn2⟩
    let f : Nat → Ru := fun i => if h : i < len then Classical.choose (hex i h) else ⟨0, .slice none 0 0, []⟩
    have hf : ∀ i, i < len → a.block < w.heap.size ∧ w.cell? ⟨a.block, a.off + i * 2, none⟩ = some (.int .i64 (f i).left) ∧ w.cell? ⟨a.block, a.off + i * 2 + 1, none⟩ = some (f i).v ∧ Arr IntV w (f i).v (f i).right ∧ (-9223372036854775808 ≤ (f i).left ∧ ∀ s ∈ (f i).right, -9223372036854775808 ≤ s) ∧ (f i).right.length ≤ 1048576 := fun i h => by
      have e : f i = Classical.choose (hex i h) := dif_pos h
      rw [e]
      exact Classical.choose_spec (hex i h)
    refine ⟨_, (List.range len).map f, rfl, ⟨⟨some a, cap, by simp, fun k t ht => ?_⟩, by simp; omega, fun A n' c' e => by cases e; exact ⟨hl, fun e => by cases e⟩⟩, fun t ht => ?_, by simp; omega⟩
    · obtain ⟨hk, rfl⟩ := map_get f len k ht
      exact ⟨a.block, a.off, by rw [← ha], (hf k hk).1, (hf k hk).2.1, (hf k hk).2.2.1, (hf k hk).2.2.2.1⟩
    · obtain ⟨k, hk, rfl⟩ := map_mem f len ht
      exact (hf k hk).2.2.2.2
set_option maxRecDepth 100000 in
/-- A rule that came in, opened. -/
theorem open_rule {enc : TypeId × Value → H} {w : World} {base : Nat} {v : Value} {d : DataW H} {p : List MemPlace} (hv : Value.okWide Try.prog w .any base 28 v)
    (h : DataW.Trod enc Try.prog w 0 (fun _ => true) true 28 v d p) (hk : Rows.uptoBulk d ≤ 1048576) : ∃ r, RuR w v r ∧ (-9223372036854775808 ≤ r.left ∧ ∀ t ∈ r.right, -9223372036854775808 ≤ t) ∧ r.right.length ≤ 1048576 := by
  obtain ⟨cs, rfl, hcs⟩ := okWide_struct Try.underlying28 hv
  rw [Try.cellsRule] at hcs
  obtain ⟨fuel, hf⟩ := h
  obtain ⟨xs, n, _, hD, _, hxl, hfl⟩ := DataW.trod_struct Try.underlying28 hf
  obtain ⟨v0, v1, rfl⟩ : ∃ v0 v1, cs = #[v0, v1] := by
    match cs, hcs with
    | ⟨[v0, v1]⟩, _ => exact ⟨_, _, rfl⟩
  have z0 := hfl 0 _ rfl
  have z1 := hfl 1 _ rfl
  obtain ⟨y0, y1, rfl⟩ : ∃ y0 y1, xs = [y0, y1] := by
    match xs, hxl with
    | [y0, y1], _ => exact ⟨_, _, rfl⟩
  have hd : d = .agg [y0.1, y1.1] := by have := congrArg Prod.fst hD; simpa using this
  subst hd
  simp only [Rows.uptoBulk, Rows.uptoBulkAll] at hk
  have t0 : DataW.trod enc Try.prog w 0 (fun _ => true) true n 3 [v0] = some y0 := z0
  have t1 : DataW.trod enc Try.prog w 0 (fun _ => true) true n 26 [v1] = some y1 := z1
  obtain ⟨K, hK, hy0, hwf⟩ := DataW.trod_int Try.underlying3 t0
  obtain ⟨s, l, hs, hl2, hr2, hn2⟩ := read_ints n [v1] y1 (by omega) t1
  simp only [List.cons.injEq, and_true] at hK hs
  subst hK hs
  exact ⟨⟨K, v1, l⟩, ⟨rfl, hl2⟩, ⟨wf_low hwf, hr2⟩, hn2⟩
set_option maxRecDepth 100000 in
/-- A grammar that came in, opened. -/
theorem open_gram {enc : TypeId × Value → H} {w : World} {base : Nat} {v : Value} {d : DataW H} {p : List MemPlace} (hv : Value.okWide Try.prog w .any base 25 v)
    (h : DataW.Trod enc Try.prog w 0 (fun _ => true) true 25 v d p) (hk : Rows.uptoBulk d ≤ 1048576) : ∃ g, GrR w v g ∧ g.ints := by
  obtain ⟨cs, rfl, hcs⟩ := okWide_struct Try.underlying25 hv
  rw [Try.cellsGram] at hcs
  obtain ⟨fuel, hf⟩ := h
  obtain ⟨xs, n, _, hD, _, hxl, hfl⟩ := DataW.trod_struct Try.underlying25 hf
  obtain ⟨v0, v1, v2, v3, rfl⟩ : ∃ v0 v1 v2 v3, cs = #[v0, v1, v2, v3] := by
    match cs, hcs with
    | ⟨[v0, v1, v2, v3]⟩, _ => exact ⟨_, _, _, _, rfl⟩
  have z0 := hfl 0 _ rfl
  have z1 := hfl 1 _ rfl
  have z2 := hfl 2 _ rfl
  have z3 := hfl 3 _ rfl
  obtain ⟨y0, y1, y2, y3, rfl⟩ : ∃ y0 y1 y2 y3, xs = [y0, y1, y2, y3] := by
    match xs, hxl with
    | [y0, y1, y2, y3], _ => exact ⟨_, _, _, _, rfl⟩
  have hd : d = .agg [y0.1, y1.1, y2.1, y3.1] := by have := congrArg Prod.fst hD; simpa using this
  subst hd
  simp only [Rows.uptoBulk, Rows.uptoBulkAll] at hk
  have t0 : DataW.trod enc Try.prog w 0 (fun _ => true) true n 22 [v0] = some y0 := z0
  have t1 : DataW.trod enc Try.prog w 0 (fun _ => true) true n 22 [v1] = some y1 := z1
  have t2 : DataW.trod enc Try.prog w 0 (fun _ => true) true n 23 [v2] = some y2 := z2
  have t3 : DataW.trod enc Try.prog w 0 (fun _ => true) true n 3 [v3] = some y3 := z3
  obtain ⟨K, hK, hy0, hwf⟩ := DataW.trod_int Try.underlying3 t3
  obtain ⟨s0, l0, e0, a0, b0, c0⟩ := read_strs n [v0] y0 (by omega) t0
  obtain ⟨s1, l1, e1, a1, b1, c1⟩ := read_strs n [v1] y1 (by omega) t1
  obtain ⟨s2, l2, e2, a2, b2, c2⟩ := read_rules n [v2] y2 (by omega) t2
  simp only [List.cons.injEq, and_true] at hK e0 e1 e2
  subst hK e0 e1 e2
  exact ⟨⟨l0, l1, K, l2⟩, ⟨⟨v0, v1, v2, rfl, a0, a1, a2⟩, b0, b1, c0, c1, c2, fun r hr => (b2 r hr).2⟩, wf_low hwf, fun r hr => (b2 r hr).1⟩
end
end Go.Proofs.Ytdbmeocpjopdhaa
