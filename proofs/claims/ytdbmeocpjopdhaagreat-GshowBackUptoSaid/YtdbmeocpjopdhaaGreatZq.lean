/- A grammar and a rule that came in, read. Much, and awake. -/
import Derived.Test.YtdbmeocpjopdhaaGreatZn
import Derived.Test.YtdbmeocpjopdhaaGreatZa
import Derived.Deep.Slices
import Derived.Deep.Fields
import Derived.JoinedCond
import Derived.DataShut
import Derived.Deep.CutBlock
import Derived.Deep.DeepCutAuto
namespace Go.Proofs.YtdbmeocpjopdhaaGreat
open Go.ChangeShapes Go.WideShapes Go.ChangeAt Go.RowKit Go.Deep
set_option linter.unusedVariables false
theorem Tryz.cellsRule : Tryz.prog.cellsOf 40 = 2 := by kernel_rfl
theorem Tryz.cellsGram : Tryz.prog.cellsOf 25 = 4 := by kernel_rfl
theorem Tryz.cellsInt : Tryz.prog.cellsOf 3 = 1 := by kernel_rfl
theorem Tryz.cellsStr : Tryz.prog.cellsOf 9 = 1 := by kernel_rfl
theorem Tryz.cellsInts : Tryz.prog.cellsOf 38 = 1 := by kernel_rfl
theorem Tryz.cellsStrs : Tryz.prog.cellsOf 22 = 1 := by kernel_rfl
theorem Tryz.cellsRules : Tryz.prog.cellsOf 23 = 1 := by kernel_rfl
theorem cell_spot {w : World} {p : Addr} {v : Value} (h : w.cell? p = some v) : p.spot = none := by
  unfold World.cell? at h
  split at h
  · split at h
    · cases h
    · rename_i hs; cases hh : p.spot with
      | none => rfl
      | some x => rw [hh] at hs; exact absurd rfl hs
  · cases h
theorem add_zero' (a : Addr) : a.add 0 = a := by unfold Addr.add; rw [if_pos rfl]
theorem add_none {a : Addr} (h : a.spot = none) (i : Nat) : a.add i = ⟨a.block, a.off + i, none⟩ := by
  obtain ⟨b, o, s⟩ := a
  dsimp only at h
  subst h
  unfold Addr.add
  split
  · rename_i h0; simp_all
  · rfl
theorem wf_low {K : Int} (h : (Lit.int .i64 K).wf = true) : -9223372036854775808 ≤ K := by
  have h1 : IntKind.i64.min ≤ K := ((Lit.wf_int_iff .i64 K).1 h).1
  exact h1
section
variable {H : Type}
theorem bulk_one (d : DataW H) : 1 ≤ Rows.uptoBulk d := by
  cases d with
  | lit l => cases l <;> simp [Rows.uptoBulk]
  | nil => simp [Rows.uptoBulk]
  | ptr d => simp [Rows.uptoBulk]
  | slice elems spare => simp [Rows.uptoBulk]
  | agg parts => simp [Rows.uptoBulk]
  | iface t d => simp [Rows.uptoBulk]
  | map entries => simp [Rows.uptoBulk]
  | held h => simp [Rows.uptoBulk]
theorem bulk_len (l : List (DataW H)) : l.length ≤ Rows.uptoBulkAll l := by
  induction l with
  | nil => simp [Rows.uptoBulkAll]
  | cons x r ih => have := bulk_one x; simp only [Rows.uptoBulkAll, List.length_cons]; omega
theorem bulk_at (D : Nat → DataW H) (n i : Nat) (h : i < n) : Rows.uptoBulk (D i) ≤ Rows.uptoBulkAll ((List.range n).map D) := by
  have : ∀ L : List Nat, i ∈ L → Rows.uptoBulk (D i) ≤ Rows.uptoBulkAll (L.map D) := by
    intro L
    induction L with
    | nil => intro h; cases h
    | cons j L ih =>
      intro hm
      simp only [List.map_cons, Rows.uptoBulkAll]
      rcases List.mem_cons.1 hm with rfl | hm
      · omega
      · have := ih hm; omega
  exact this _ (List.mem_range.2 h)
theorem map_get {α : Type} (f : Nat → α) (n k : Nat) {x : α} (h : ((List.range n).map f)[k]? = some x) : k < n ∧ x = f k := by
  rw [List.getElem?_map] at h
  obtain ⟨i, hi, rfl⟩ := Option.map_eq_some_iff.1 h
  obtain ⟨hk, he⟩ := List.getElem?_eq_some_iff.1 hi
  rw [List.length_range] at hk
  rw [List.getElem_range] at he
  exact ⟨hk, by rw [he]⟩
theorem map_mem {α : Type} (f : Nat → α) (n : Nat) {x : α} (h : x ∈ (List.range n).map f) : ∃ k, k < n ∧ x = f k := by
  obtain ⟨k, hk, rfl⟩ := List.mem_map.1 h
  exact ⟨k, List.mem_range.1 hk, rfl⟩
set_option maxRecDepth 100000 in
/-- A row of texts that came in. -/
theorem read_strs {enc : TypeId × Value → H} {w : World} (fuel : Nat) (cs : List Value) (x : DataW H × List MemPlace) (hx : Rows.uptoBulk x.1 ≤ 1048576)
    (h : DataW.trod enc Tryz.prog w 0 (fun _ => true) true fuel 22 cs = some x) : ∃ s l, cs = [s] ∧ Arr StrV w s l ∧ (∀ t ∈ l, t.size ≤ 1048576) ∧ l.length ≤ 1048576 := by
  rcases open_slice Tryz.underlying22 h with ⟨rfl, rfl⟩ | ⟨a, len, cap, m, n, D, Pl, rfl, hb, hl, hm, hmm, rfl, hi⟩
  · exact ⟨_, [], rfl, .nil _ _ _ (fun _ => rfl), by simp, by simp⟩
  · have hmm2 : m = cap := by rw [hmm]; simp
    simp only [Rows.uptoBulk] at hx
    have hll := bulk_len ((List.range len).map D)
    simp only [List.length_map, List.length_range] at hll
    by_cases hlen : len = 0
    · subst hlen
      exact ⟨_, [], rfl, .nil _ _ _ (fun e => by cases e), by simp, by simp⟩
    have hsp : a.spot = none := by
      obtain ⟨cs0, hc0, _⟩ := hi 0 (by omega)
      rw [Tryz.cellsStr, Nat.zero_mul] at hc0
      obtain ⟨_, hl0, hcell0⟩ := World.cells?_some hc0
      have h0 := hcell0 0 (by omega)
      rw [add_zero', add_zero', List.getElem?_eq_getElem (by omega)] at h0
      exact cell_spot h0
    have ha : a = ⟨a.block, a.off, none⟩ := by rw [← hsp]
    have hex : ∀ i, i < len → ∃ t : ByteArray, a.block < w.heap.size ∧ w.cell? ⟨a.block, a.off + i, none⟩ = some (.string t) ∧ t.size ≤ 1048576 := by
      intro i hil
      have hbi := bulk_at D len i hil
      obtain ⟨cs', hc, ht⟩ := hi i (by omega)
      rw [Tryz.cellsStr, Nat.mul_one] at hc
      obtain ⟨_, hlen', hcell⟩ := World.cells?_some hc
      match cs', hlen' with
      | [v0], _ =>
        have q0 := hcell 0 (by omega)
        simp only [List.getElem?_cons_zero] at q0
        rw [add_zero'] at q0
        obtain ⟨tx, htx, hy, _⟩ := DataW.trod_string Tryz.underlying9 ht
        simp only [List.cons.injEq, and_true] at htx
        subst htx
        have hdi : D i = .lit (.string tx.data.toList) := congrArg Prod.fst hy
        rw [hdi] at hbi
        simp only [Rows.uptoBulk, Array.length_toList] at hbi
        have hblk := World.block_lt_of_cell? w _ q0
        rw [add_none hsp] at q0 hblk
        exact ⟨tx, hblk, q0, by show tx.data.size ≤ _; omega⟩
    let f : Nat → ByteArray := fun i => if h : i < len then Classical.choose (hex i h) else ⟨#[]⟩
    have hf : ∀ i, i < len → a.block < w.heap.size ∧ w.cell? ⟨a.block, a.off + i, none⟩ = some (.string (f i)) ∧ (f i).size ≤ 1048576 := fun i h => by
      have e : f i = Classical.choose (hex i h) := dif_pos h
      rw [e]
      exact Classical.choose_spec (hex i h)
    refine ⟨_, (List.range len).map f, rfl, ⟨⟨some a, cap, by simp, fun k t ht => ?_⟩, by simp; omega, fun A n' c' e => by cases e; exact ⟨hl, fun e => by cases e⟩⟩, fun t ht => ?_, by simp; omega⟩
    · obtain ⟨hk, rfl⟩ := map_get f len k ht
      exact ⟨a.block, a.off, by rw [← ha], (hf k hk).1, (hf k hk).2.1⟩
    · obtain ⟨k, hk, rfl⟩ := map_mem f len ht
      exact (hf k hk).2.2
set_option maxRecDepth 100000 in
/-- A row of numbers that came in. -/
theorem read_ints {enc : TypeId × Value → H} {w : World} (fuel : Nat) (cs : List Value) (x : DataW H × List MemPlace) (hx : Rows.uptoBulk x.1 ≤ 1048576)
    (h : DataW.trod enc Tryz.prog w 0 (fun _ => true) true fuel 38 cs = some x) : ∃ s l, cs = [s] ∧ Arr IntV w s l ∧ (∀ t ∈ l, -9223372036854775808 ≤ t) ∧ l.length ≤ 1048576 := by
  rcases open_slice Tryz.underlying38 h with ⟨rfl, rfl⟩ | ⟨a, len, cap, m, n, D, Pl, rfl, hb, hl, hm, hmm, rfl, hi⟩
  · exact ⟨_, [], rfl, .nil _ _ _ (fun _ => rfl), by simp, by simp⟩
  · have hmm2 : m = cap := by rw [hmm]; simp
    simp only [Rows.uptoBulk] at hx
    have hll := bulk_len ((List.range len).map D)
    simp only [List.length_map, List.length_range] at hll
    by_cases hlen : len = 0
    · subst hlen
      exact ⟨_, [], rfl, .nil _ _ _ (fun e => by cases e), by simp, by simp⟩
    have hsp : a.spot = none := by
      obtain ⟨cs0, hc0, _⟩ := hi 0 (by omega)
      rw [Tryz.cellsInt, Nat.zero_mul] at hc0
      obtain ⟨_, hl0, hcell0⟩ := World.cells?_some hc0
      have h0 := hcell0 0 (by omega)
      rw [add_zero', add_zero', List.getElem?_eq_getElem (by omega)] at h0
      exact cell_spot h0
    have ha : a = ⟨a.block, a.off, none⟩ := by rw [← hsp]
    have hex : ∀ i, i < len → ∃ t : Int, a.block < w.heap.size ∧ w.cell? ⟨a.block, a.off + i, none⟩ = some (.int .i64 t) ∧ -9223372036854775808 ≤ t := by
      intro i hil
      obtain ⟨cs', hc, ht⟩ := hi i (by omega)
      rw [Tryz.cellsInt, Nat.mul_one] at hc
      obtain ⟨_, hlen', hcell⟩ := World.cells?_some hc
      match cs', hlen' with
      | [v0], _ =>
        have q0 := hcell 0 (by omega)
        simp only [List.getElem?_cons_zero] at q0
        rw [add_zero'] at q0
        obtain ⟨K, hK, hy, hwf⟩ := DataW.trod_int Tryz.underlying3 ht
        simp only [List.cons.injEq, and_true] at hK
        subst hK
        have hblk := World.block_lt_of_cell? w _ q0
        rw [add_none hsp] at q0 hblk
        exact ⟨K, hblk, q0, wf_low hwf⟩
    let f : Nat → Int := fun i => if h : i < len then Classical.choose (hex i h) else 0
    have hf : ∀ i, i < len → a.block < w.heap.size ∧ w.cell? ⟨a.block, a.off + i, none⟩ = some (.int .i64 (f i)) ∧ -9223372036854775808 ≤ f i := fun i h => by
      have e : f i = Classical.choose (hex i h) := dif_pos h
      rw [e]
      exact Classical.choose_spec (hex i h)
    refine ⟨_, (List.range len).map f, rfl, ⟨⟨some a, cap, by simp, fun k t ht => ?_⟩, by simp; omega, fun A n' c' e => by cases e; exact ⟨hl, fun e => by cases e⟩⟩, fun t ht => ?_, by simp; omega⟩
    · obtain ⟨hk, rfl⟩ := map_get f len k ht
      exact ⟨a.block, a.off, by rw [← ha], (hf k hk).1, (hf k hk).2.1⟩
    · obtain ⟨k, hk, rfl⟩ := map_mem f len ht
      exact (hf k hk).2.2
set_option maxRecDepth 100000 in
/-- A row of rules that came in. -/
theorem read_rules {enc : TypeId × Value → H} {w : World} (fuel : Nat) (cs : List Value) (x : DataW H × List MemPlace) (hx : Rows.uptoBulk x.1 ≤ 1048576)
    (h : DataW.trod enc Tryz.prog w 0 (fun _ => true) true fuel 23 cs = some x) : ∃ s l, cs = [s] ∧ Rul w s l ∧ (∀ r ∈ l, (-9223372036854775808 ≤ r.left ∧ ∀ t ∈ r.right, -9223372036854775808 ≤ t) ∧ r.right.length ≤ 1048576) ∧ l.length ≤ 1048576 := by
  rcases open_slice Tryz.underlying23 h with ⟨rfl, rfl⟩ | ⟨a, len, cap, m, n, D, Pl, rfl, hb, hl, hm, hmm, rfl, hi⟩
  · exact ⟨_, [], rfl, ⟨⟨none, 0, rfl, fun k r h => by simp at h⟩, by simp, fun _ _ _ e => by cases e; exact ⟨Nat.zero_le _, fun _ => rfl⟩⟩, by simp, by simp⟩
  · have hmm2 : m = cap := by rw [hmm]; simp
    simp only [Rows.uptoBulk] at hx
    have hll := bulk_len ((List.range len).map D)
    simp only [List.length_map, List.length_range] at hll
    by_cases hlen : len = 0
    · subst hlen
      exact ⟨_, [], rfl, ⟨⟨some a, cap, rfl, fun k r h => by simp at h⟩, by simp, fun _ _ _ e => by cases e; exact ⟨Nat.zero_le _, fun e => by cases e⟩⟩, by simp, by simp⟩
    have hsp : a.spot = none := by
      obtain ⟨cs0, hc0, _⟩ := hi 0 (by omega)
      rw [Tryz.cellsRule, Nat.zero_mul] at hc0
      obtain ⟨_, hl0, hcell0⟩ := World.cells?_some hc0
      have h0 := hcell0 0 (by omega)
      rw [add_zero', add_zero', List.getElem?_eq_getElem (by omega)] at h0
      exact cell_spot h0
    have ha : a = ⟨a.block, a.off, none⟩ := by rw [← hsp]
    have hex : ∀ i, i < len → ∃ t : Ru, a.block < w.heap.size ∧ w.cell? ⟨a.block, a.off + i * 2, none⟩ = some (.int .i64 t.left) ∧ w.cell? ⟨a.block, a.off + i * 2 + 1, none⟩ = some t.v ∧ Arr IntV w t.v t.right ∧ (-9223372036854775808 ≤ t.left ∧ ∀ s ∈ t.right, -9223372036854775808 ≤ s) ∧ t.right.length ≤ 1048576 := by
      intro i hil
      have hbi := bulk_at D len i hil
      obtain ⟨cs', hc, ht⟩ := hi i (by omega)
      rw [Tryz.cellsRule] at hc
      obtain ⟨_, hlen', hcell⟩ := World.cells?_some hc
      obtain ⟨xs, n', _, hD, _, hxl, hfl⟩ := DataW.trod_struct Tryz.underlying40 ht
      match cs', hlen' with
      | [v0, v1], _ =>
        have q0 := hcell 0 (by omega)
        have q1 := hcell 1 (by omega)
        simp only [List.getElem?_cons_zero, List.getElem?_cons_succ] at q0 q1
        have z0 := hfl 0 _ rfl
        have z1 := hfl 1 _ rfl
        obtain ⟨y0, y1, rfl⟩ : ∃ y0 y1, xs = [y0, y1] := by
          match xs, hxl with
          | [y0, y1], _ => exact ⟨_, _, rfl⟩
        simp only [List.getElem_toArray, List.getElem_cons_zero, List.getElem_cons_succ, Tryz.cellsInt, Tryz.cellsInts, List.drop_zero, List.take_succ_cons, List.take_zero, List.drop_succ_cons, List.getElem?_cons_zero, List.getElem?_cons_succ] at z0 z1
        obtain ⟨K, hK, hy0, hwf⟩ := DataW.trod_int Tryz.underlying3 z0
        have hDi : D i = .agg [y0.1, y1.1] := by have := congrArg Prod.fst hD; simpa using this
        rw [hDi] at hbi
        simp only [Rows.uptoBulk, Rows.uptoBulkAll] at hbi
        obtain ⟨s, l, hs, hl2, hr2, hn2⟩ := read_ints n' [v1] y1 (by omega) z1
        simp only [List.cons.injEq, and_true] at hK hs
        subst hK hs
        have hblk := World.block_lt_of_cell? w _ q0
        have hs2 : (a.add (i * 2)).spot = none := by rw [add_none hsp]
        rw [add_none hs2, add_none hsp] at q0 q1 hblk
        exact ⟨⟨K, v1, l⟩, hblk, q0, q1, hl2, ⟨wf_low hwf, hr2⟩, hn2⟩
    let f : Nat → Ru := fun i => if h : i < len then Classical.choose (hex i h) else ⟨0, .slice none 0 0, []⟩
    have hf : ∀ i, i < len → a.block < w.heap.size ∧ w.cell? ⟨a.block, a.off + i * 2, none⟩ = some (.int .i64 (f i).left) ∧ w.cell? ⟨a.block, a.off + i * 2 + 1, none⟩ = some (f i).v ∧ Arr IntV w (f i).v (f i).right ∧ (-9223372036854775808 ≤ (f i).left ∧ ∀ s ∈ (f i).right, -9223372036854775808 ≤ s) ∧ (f i).right.length ≤ 1048576 := fun i h => by
      have e : f i = Classical.choose (hex i h) := dif_pos h
      rw [e]
      exact Classical.choose_spec (hex i h)
    refine ⟨_, (List.range len).map f, rfl, ⟨⟨some a, cap, by simp, fun k t ht => ?_⟩, by simp; omega, fun A n' c' e => by cases e; exact ⟨hl, fun e => by cases e⟩⟩, fun t ht => ?_, by simp; omega⟩
    · obtain ⟨hk, rfl⟩ := map_get f len k ht
      exact ⟨a.block, a.off, by rw [← ha], (hf k hk).1, (hf k hk).2.1, (hf k hk).2.2.1, (hf k hk).2.2.2.1⟩
    · obtain ⟨k, hk, rfl⟩ := map_mem f len ht
      exact (hf k hk).2.2.2.2
set_option maxRecDepth 100000 in
/-- A rule that came in, opened. -/
theorem open_rule {enc : TypeId × Value → H} {w : World} {base : Nat} {v : Value} {d : DataW H} {p : List MemPlace} (hv : Value.okWide Tryz.prog w .any base 40 v)
    (h : DataW.Trod enc Tryz.prog w 0 (fun _ => true) true 40 v d p) (hk : Rows.uptoBulk d ≤ 1048576) : ∃ r, RuR w v r ∧ (-9223372036854775808 ≤ r.left ∧ ∀ t ∈ r.right, -9223372036854775808 ≤ t) ∧ r.right.length ≤ 1048576 := by
  obtain ⟨cs, rfl, hcs⟩ := okWide_struct Tryz.underlying40 hv
  rw [Tryz.cellsRule] at hcs
  obtain ⟨fuel, hf⟩ := h
  obtain ⟨xs, n, _, hD, _, hxl, hfl⟩ := DataW.trod_struct Tryz.underlying40 hf
  obtain ⟨v0, v1, rfl⟩ : ∃ v0 v1, cs = #[v0, v1] := by
    match cs, hcs with
    | ⟨[v0, v1]⟩, _ => exact ⟨_, _, rfl⟩
  have z0 := hfl 0 _ rfl
  have z1 := hfl 1 _ rfl
  obtain ⟨y0, y1, rfl⟩ : ∃ y0 y1, xs = [y0, y1] := by
    match xs, hxl with
    | [y0, y1], _ => exact ⟨_, _, rfl⟩
  have hd : d = .agg [y0.1, y1.1] := by have := congrArg Prod.fst hD; simpa using this
  subst hd
  simp only [Rows.uptoBulk, Rows.uptoBulkAll] at hk
  have t0 : DataW.trod enc Tryz.prog w 0 (fun _ => true) true n 3 [v0] = some y0 := z0
  have t1 : DataW.trod enc Tryz.prog w 0 (fun _ => true) true n 38 [v1] = some y1 := z1
  obtain ⟨K, hK, hy0, hwf⟩ := DataW.trod_int Tryz.underlying3 t0
  obtain ⟨s, l, hs, hl2, hr2, hn2⟩ := read_ints n [v1] y1 (by omega) t1
  simp only [List.cons.injEq, and_true] at hK hs
  subst hK hs
  exact ⟨⟨K, v1, l⟩, ⟨rfl, hl2⟩, ⟨wf_low hwf, hr2⟩, hn2⟩
set_option maxRecDepth 100000 in
/-- A grammar that came in, opened. -/
theorem open_gram {enc : TypeId × Value → H} {w : World} {base : Nat} {v : Value} {d : DataW H} {p : List MemPlace} (hv : Value.okWide Tryz.prog w .any base 25 v)
    (h : DataW.Trod enc Tryz.prog w 0 (fun _ => true) true 25 v d p) (hk : Rows.uptoBulk d ≤ 1048576) : ∃ g, GrR w v g ∧ g.ints := by
  obtain ⟨cs, rfl, hcs⟩ := okWide_struct Tryz.underlying25 hv
  rw [Tryz.cellsGram] at hcs
  obtain ⟨fuel, hf⟩ := h
  obtain ⟨xs, n, _, hD, _, hxl, hfl⟩ := DataW.trod_struct Tryz.underlying25 hf
  obtain ⟨v0, v1, v2, v3, rfl⟩ : ∃ v0 v1 v2 v3, cs = #[v0, v1, v2, v3] := by
    match cs, hcs with
    | ⟨[v0, v1, v2, v3]⟩, _ => exact ⟨_, _, _, _, rfl⟩
  have z0 := hfl 0 _ rfl
  have z1 := hfl 1 _ rfl
  have z2 := hfl 2 _ rfl
  have z3 := hfl 3 _ rfl
  obtain ⟨y0, y1, y2, y3, rfl⟩ : ∃ y0 y1 y2 y3, xs = [y0, y1, y2, y3] := by
    match xs, hxl with
    | [y0, y1, y2, y3], _ => exact ⟨_, _, _, _, rfl⟩
  have hd : d = .agg [y0.1, y1.1, y2.1, y3.1] := by have := congrArg Prod.fst hD; simpa using this
  subst hd
  simp only [Rows.uptoBulk, Rows.uptoBulkAll] at hk
  have t0 : DataW.trod enc Tryz.prog w 0 (fun _ => true) true n 22 [v0] = some y0 := z0
  have t1 : DataW.trod enc Tryz.prog w 0 (fun _ => true) true n 22 [v1] = some y1 := z1
  have t2 : DataW.trod enc Tryz.prog w 0 (fun _ => true) true n 23 [v2] = some y2 := z2
  have t3 : DataW.trod enc Tryz.prog w 0 (fun _ => true) true n 3 [v3] = some y3 := z3
  obtain ⟨K, hK, hy0, hwf⟩ := DataW.trod_int Tryz.underlying3 t3
  obtain ⟨s0, l0, e0, a0, b0, c0⟩ := read_strs n [v0] y0 (by omega) t0
  obtain ⟨s1, l1, e1, a1, b1, c1⟩ := read_strs n [v1] y1 (by omega) t1
  obtain ⟨s2, l2, e2, a2, b2, c2⟩ := read_rules n [v2] y2 (by omega) t2
  simp only [List.cons.injEq, and_true] at hK e0 e1 e2
  subst hK e0 e1 e2
  exact ⟨⟨l0, l1, K, l2⟩, ⟨⟨v0, v1, v2, rfl, a0, a1, a2⟩, b0, b1, c0, c1, c2, fun r hr => (b2 r hr).2⟩, wf_low hwf, fun r hr => (b2 r hr).1⟩
end
end Go.Proofs.YtdbmeocpjopdhaaGreat

namespace Go.Proofs.YtdbmeocpjopdhaaGreat
open Go.RowKit
set_option linter.unusedVariables false
set_option maxRecDepth 100000 in
set_option maxHeartbeats 12800000 in
theorem much_any {w : World} {v : Value} {g : Gm} (h : GrR w v g) : Calls Tryz.prog 5 #[v] w fun e w' => ∃ n : Int, e = .returned (.int .i64 n) ∧ Below w.heap.size w w' := by
  have hT20 := h.small.2.2.1
  have hN20 := h.small.2.2.2.1
  have hR20 := h.small.2.2.2.2.1
  have HG := Lib.hid (GBox.new w 25 v)
  obtain ⟨AT, cT, AN, cN, AR, cR, rfl, hT, hN, hR⟩ := h.open_
  obtain ⟨⟨A1, c1, e1, hc1⟩, _⟩ := hT
  cases e1
  obtain ⟨⟨A2, c2, e2, hc2⟩, _⟩ := hN
  cases e2
  obtain ⟨⟨A3, c3, e3, hc3⟩, _⟩ := hR
  cases e3
  have HC1 := Lib.hid hc1
  have HC2 := Lib.hid hc2
  have HC3 := Lib.hid hc3
  clear h hc1 hc2 hc3
  generalize g.T = lT at *
  generalize g.N = lN at *
  generalize g.R = lR at *
  generalize g.s = gs at *
  obtain ⟨d0, d1, d2, d3⟩ := HG.out.four
  have HB := Lib.hid (below_alloc w (.cells #[.slice AT lT.length cT, .slice AN lN.length cN, .slice AR lR.length cR, .int .i64 gs] 25))
  have hlt0 : w.heap.size < (w.alloc (.cells #[.slice AT lT.length cT, .slice AN lN.length cN, .slice AR lR.length cR, .int .i64 gs] 25)).heap.size := by simp
  go_enter Tryz.func5, Tryz.ntmps5
  go_upto_block 0 with fail
  go_cut [3] (fun n wx => (∃ m : Int, n = .int .i64 m) ∧ wx = (w.alloc (.cells #[.slice AT lT.length cT, .slice AN lN.length cN, .slice AR lR.length cR, .int .i64 gs] 25)))
  case first =>
    go_wp2_with fail
    go_loop [3, 4] (fun n i => ∃ (k : Nat) (m : Int), k ≤ lT.length ∧ i = .int .i64 k ∧ n = .int .i64 m) (fun _ i => lT.length - (intOf i).toNat)
    case atStart => exact ⟨0, _, Nat.zero_le _, rfl, rfl⟩
    case round =>
      obtain ⟨k, m, hk, rfl, rfl⟩ := hrel
      by_cases hlt : k < lT.length
      · by_cases hl2 : k < 200
        · have hx := List.getElem?_eq_getElem hlt
          generalize lT[k] = s at hx
          obtain ⟨b, off, hA, hb, hcell⟩ := HC1.out k s hx
          subst hA
          have e1 := (HB.out.cell (p := ⟨b, off + k, none⟩) hb).trans hcell
          simp only [StrV] at e1
          clear hx hcell
          generalize s.size = sz at *
          go_wp2
          go_round
          case rel => exact ⟨k + 1, _, by omega, by go_num, rfl⟩
          case measure => simp [intOf]; omega
        · have hq2 : ¬ (k : Int) < 200 := by omega
          go_wp2_with fail
          go_meet
          exact ⟨⟨_, rfl⟩, rfl⟩
      · go_wp2_with fail
        go_meet
        exact ⟨⟨_, rfl⟩, rfl⟩
  case rest =>
    obtain ⟨⟨m, rfl⟩, rfl⟩ := hcut
    go_upto_block 2 with fail
    go_cut [3] (fun n wx => (∃ m : Int, n = .int .i64 m) ∧ wx = (w.alloc (.cells #[.slice AT lT.length cT, .slice AN lN.length cN, .slice AR lR.length cR, .int .i64 gs] 25)))
    case first =>
      go_wp2_with fail
      go_loop [3, 5] (fun n i => ∃ (k : Nat) (m : Int), k ≤ lN.length ∧ i = .int .i64 k ∧ n = .int .i64 m) (fun _ i => lN.length - (intOf i).toNat)
      case atStart => exact ⟨0, _, Nat.zero_le _, rfl, rfl⟩
      case round =>
        obtain ⟨k, m, hk, rfl, rfl⟩ := hrel
        by_cases hlt : k < lN.length
        · by_cases hl2 : k < 200
          · have hx := List.getElem?_eq_getElem hlt
            generalize lN[k] = s at hx
            obtain ⟨b, off, hA, hb, hcell⟩ := HC2.out k s hx
            subst hA
            have e1 := (HB.out.cell (p := ⟨b, off + k, none⟩) hb).trans hcell
            simp only [StrV] at e1
            clear hx hcell
            generalize s.size = sz at *
            go_wp2
            go_round
            case rel => exact ⟨k + 1, _, by omega, by go_num, rfl⟩
            case measure => simp [intOf]; omega
          · have hq2 : ¬ (k : Int) < 200 := by omega
            go_wp2_with fail
            go_meet
            exact ⟨⟨_, rfl⟩, rfl⟩
        · go_wp2_with fail
          go_meet
          exact ⟨⟨_, rfl⟩, rfl⟩
    case rest =>
      obtain ⟨⟨m, rfl⟩, rfl⟩ := hcut
      go_upto_block 4 with fail
      go_cut [3] (fun n wx => (∃ m : Int, n = .int .i64 m) ∧ wx = (w.alloc (.cells #[.slice AT lT.length cT, .slice AN lN.length cN, .slice AR lR.length cR, .int .i64 gs] 25)))
      case first =>
        go_wp2_with fail
        go_loop [3, 6] (fun n i => ∃ (k : Nat) (m : Int), k ≤ lR.length ∧ i = .int .i64 k ∧ n = .int .i64 m) (fun _ i => lR.length - (intOf i).toNat)
        case atStart => exact ⟨0, _, Nat.zero_le _, rfl, rfl⟩
        case round =>
          obtain ⟨k, m, hk, rfl, rfl⟩ := hrel
          by_cases hlt : k < lR.length
          · by_cases hl2 : k < 400
            · have hx := List.getElem?_eq_getElem hlt
              generalize lR[k] = s at hx
              obtain ⟨b, off, hA, hb, _, hcell, ⟨⟨A9, c9, hv, _⟩, _⟩⟩ := HC3.out k s hx
              subst hA
              rw [hv] at hcell
              have e1 := (HB.out.cell (p := ⟨b, off + k * 2 + 1, none⟩) hb).trans hcell
              clear hx hcell hv
              generalize s.right.length = sz at *
              go_wp2
              go_round
              case rel => exact ⟨k + 1, _, by omega, by go_num, rfl⟩
              case measure => simp [intOf]; omega
            · have hq2 : ¬ (k : Int) < 400 := by omega
              go_wp2_with fail
              go_meet
              exact ⟨⟨_, rfl⟩, rfl⟩
          · go_wp2_with fail
            go_meet
            exact ⟨⟨_, rfl⟩, rfl⟩
      case rest =>
        obtain ⟨⟨m, rfl⟩, rfl⟩ := hcut
        go_wp2
        go_ret
        exact ⟨_, rfl, HB.out⟩
end Go.Proofs.YtdbmeocpjopdhaaGreat
