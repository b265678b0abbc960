/- SourceDoes: any calls of Enter and Step answer as the document's source does, and what is there behind each is the same; no condition. -/
import Derived.Test.YtmjgleopmnplbaaX6
import Derived.Test.YtmjgleopmnplbaaLaw
import Derived.Deep.Slices
import Derived.Deep.Fields
namespace Go.Proofs.Ytmjgleopmnplbaa
open Go.ChangeShapes Go.WideShapes Go.ChangeAt Go.RowKit Go.Deep
open Go.ChangeMaps (open_string shut_string)
set_option linter.unusedVariables false

theorem Try.cells37 : Try.prog.cellsOf 37 = 3 := by kernel_rfl
theorem Try.cells3 : Try.prog.cellsOf 3 = 1 := by kernel_rfl
theorem Try.cells9 : Try.prog.cellsOf 9 = 1 := by kernel_rfl
theorem cell_spot {w : World} {p : Addr} {v : Value} (h : w.cell? p = some v) : p.spot = none := by
  unfold World.cell? at h
  split at h
  · split at h
    · cases h
    · rename_i hs; cases hh : p.spot with
      | none => rfl
      | some x => rw [hh] at hs; exact absurd rfl hs
  · cases h
theorem add_zero' (a : Addr) : a.add 0 = a := by unfold Addr.add; rw [if_pos rfl]
theorem add_none {a : Addr} (h : a.spot = none) (i : Nat) : a.add i = ⟨a.block, a.off + i, none⟩ := by
  obtain ⟨b, o, s⟩ := a
  dsimp only at h
  subst h
  unfold Addr.add
  split
  · rename_i h0; simp_all
  · rfl
/-- A list of calls, opened. -/
theorem open_ops {H : Type} {enc : TypeId × Value → H} {w : World} {base : Nat} {v : Value} {d : DataW H} {p : List MemPlace} (hv : Value.okWide Try.prog w .any base 31 v)
    (h : DataW.Trod enc Try.prog w 0 (fun _ => true) true 31 v d p) : ∃ A len c, v = .slice A len c ∧ OpArg w A len := by
  obtain ⟨A, len, c, rfl⟩ := okWide_slice Try.underlying31 hv
  obtain ⟨fuel, hf⟩ := h
  rcases open_slice Try.underlying31 hf with ⟨h0, h1⟩ | ⟨a, len', cap, m, n, D, Pl, hcs, hb, hl, hm, hmm, hx, hi⟩
  · have : A = none ∧ len = 0 ∧ c = 0 := by simpa [Value.cells] using h0
    obtain ⟨rfl, rfl, rfl⟩ := this
    exact ⟨none, 0, 0, rfl, by omega, fun k hk => by omega⟩
  · have : A = some a ∧ len = len' ∧ c = cap := by simpa [Value.cells] using hcs
    obtain ⟨rfl, rfl, rfl⟩ := this
    refine ⟨some a, len, c, rfl, by unfold maxLen at hm; omega, fun k hk => ?_⟩
    have hsp : a.spot = none := by
      obtain ⟨cs0, hc0, _⟩ := hi 0 (by rw [hmm]; simp; omega)
      rw [Try.cells37, Nat.zero_mul] at hc0
      obtain ⟨_, hl0, hcell0⟩ := World.cells?_some hc0
      have h0 := hcell0 0 (by omega)
      rw [add_zero', add_zero', List.getElem?_eq_getElem (by omega)] at h0
      exact cell_spot h0
    obtain ⟨cs', hc, ht⟩ := hi k (by rw [hmm]; simp; omega)
    rw [Try.cells37] at hc
    obtain ⟨_, hlen, hcell⟩ := World.cells?_some hc
    obtain ⟨xs, n', _, _, _, hxl, hfl⟩ := DataW.trod_struct Try.underlying37 ht
    match cs', hlen with
    | [v0, v1, v2], _ =>
      have q0 := hcell 0 (by omega)
      have q1 := hcell 1 (by omega)
      have q2 := hcell 2 (by omega)
      simp only [List.getElem?_cons_zero, List.getElem?_cons_succ] at q0 q1 q2
      have z0 := hfl 0 _ rfl
      have z1 := hfl 1 _ rfl
      have z2 := hfl 2 _ rfl
      have hx0 : ∃ y0 y1 y2, xs = [y0, y1, y2] := by
        match xs, hxl with
        | [y0, y1, y2], _ => exact ⟨_, _, _, rfl⟩
      obtain ⟨y0, y1, y2, rfl⟩ := hx0
      simp only [List.getElem_toArray, List.getElem_cons_zero, List.getElem_cons_succ, Try.cells3, Try.cells9, List.drop_zero, List.take_succ_cons, List.take_zero, List.drop_succ_cons, List.getElem?_cons_zero, List.getElem?_cons_succ] at z0 z1 z2
      obtain ⟨K, hK, _⟩ := DataW.trod_int Try.underlying3 z0
      obtain ⟨nm, hnm, _⟩ := DataW.trod_string Try.underlying9 z1
      obtain ⟨tx, htx, _⟩ := DataW.trod_string Try.underlying9 z2
      have hblk := World.block_lt_of_cell? w _ q0
      have hs2 : (a.add (k * 3)).spot = none := by rw [add_none hsp]
      rw [add_none hs2, add_none hsp] at q0 q1 q2 hblk
      simp only [List.cons.injEq, and_true] at hK hnm htx
      subst hK hnm htx
      exact ⟨a.block, a.off, K, nm, tx, by rw [← hsp], hblk, q0, q1, q2⟩

theorem does_law {H : Type} {enc : TypeId × Value → H} {w : World} {base : Nat} (v : Value) {d : DataW H} {p : List MemPlace} (hv : Value.okWide Try.prog w .any base 31 v)
    (h : DataW.Trod enc Try.prog w 0 (fun _ => true) true 31 v d p) (w1 : World) (hw : w = w1) : Calls Try.prog 4 #[v] w1 fun e w' => e = .returned (.bool true) ∧ Below w1.heap.size w1 w' := by
  subst hw
  obtain ⟨A, len, c, rfl, ho⟩ := open_ops hv h
  exact does_walk A len c w ho
theorem does_own : ownKnob Try.prog.godebug = none := by kernel_rfl
theorem does_laid : laidOutB Try.prog = true := by kernel_rfl
set_option maxRecDepth 100000 in
theorem does_lifted (os : Os) (started : os.Started) (H : Type) (enc : TypeId × Value → H) :
    ReturnsInHanded {} Try.checked os 4 .any (Rows.sourceDoesSpec.pre6 enc Try.prog Try.f4 Rows.sourceDoesRow.domain false) (Rows.sourceDoesSpec.post enc Try.prog Try.f4 false true false false) := by
  refine returnsInHanded_of_change (C := Try.checked) does_own started (by kernel_rfl) Try.func4
    (ChangeSpec.witness6 (enc := enc) (C := Try.checked) false ⟨#[], #[.slice none 0 0], []⟩ 8 (by kernel_rfl) (by kernel_rfl) (by kernel_rfl) (by kernel_rfl)) ?_
  intro W base args ds gs before hval0 hW hcnd hsz
  have hval : ∀ (j : Nat) t v, Try.f4.params[j]? = some t → args[j]? = some v → Value.okWide Try.prog W .any base t v := hval0
  have hW' := hW
  obtain ⟨p, q, hA0, hV, rfl, hfz, hnd⟩ := hW
  have hA : DataW.TrodAll enc Try.prog W 0 (fun _ => true) true Try.f4.params.toList args.toList ds p := hA0
  rw [Try.params4] at hA hval
  obtain ⟨v0, vs0, d0, ds0, p0, q0, hargs, rfl, rfl, h0, r0⟩ := trodAll_cons hA
  obtain ⟨rfl, rfl, rfl⟩ := trodAll_nil r0
  obtain rfl : args = #[v0] := by cases args; simp_all
  obtain ⟨rfl, rfl⟩ := trodVars_none hV
  refine (does_law v0 (hval 0 31 v0 rfl rfl) h0 W rfl).mono fun e W' ⟨he, hb⟩ => ?_
  subst he
  exact ⟨_, rfl, law_post hW' rfl rfl rfl Try.underlying4 does_laid (by decide +kernel) hb (ok_one (by kernel_rfl) rfl (okWide_bool_mk Try.underlying4 _))⟩

theorem does_over : Rows.sourceDoesRow.holds Try.pinned (OpenSpec.ofChange Rows.sourceDoesSpec) :=
  OpenClaim.holds_of_wide 4 Try.f4 rfl rfl rfl rfl rfl rfl rfl ⟨rfl, rfl, rfl, rfl, rfl⟩ rfl rfl rfl rfl rfl (by kernel_rfl) Try.func4 (by kernel_rfl)
    (of_decide_eq_true (by kernel_rfl)) (by unfold Func.isWrapper; first | (rw [if_pos (by decide +kernel)]; kernel_rfl) | (rw [if_neg (by decide +kernel)]; exact ⟨rfl, rfl⟩))
    (fun os started H enc _ => does_lifted os started H enc)

theorem does_holds : Rows.SourceDoesSaid := does_over
#print axioms does_holds
end Go.Proofs.Ytmjgleopmnplbaa
