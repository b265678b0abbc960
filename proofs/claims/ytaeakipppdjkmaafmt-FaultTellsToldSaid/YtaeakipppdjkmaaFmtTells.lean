/- conchlaw02.FaultTells: for every number, place, answer to 'is it another error', names and number asked for, the call returns true; each argument reads behind the call as it read before. It is a told and tied card: fmt's texts are told by the authors' own Lean function; errors.errorType holds what the program's text lays. -/
import Derived.Test.YtaeakipppdjkmaaFmtF16
import Derived.Test.YtaeakipppdjkmaaFmtStays
import Derived.SliceStrings
namespace Go.Proofs.YtaeakipppdjkmaaFmt
open Go.ChangeShapes Go.WideShapes Go.ChangeAt Go.RowKit Go.Kit Go.Extern.Stop Go.Stop Go.Extern
open Go.ChangeMaps (open_string)
set_option linter.unusedVariables false
theorem f_cell_spot {w : World} {p : Addr} {v : Value} (h : w.cell? p = some v) : p.spot = none := by
  unfold World.cell? at h
  split at h
  · split at h
    · cases h
    · rename_i hs; cases hh : p.spot with
      | none => rfl
      | some x => rw [hh] at hs; exact absurd rfl hs
  · cases h
theorem f_add_none {a : Addr} (h : a.spot = none) (i : Nat) : a.add i = ⟨a.block, a.off + i, none⟩ := by
  obtain ⟨b, o, s⟩ := a
  dsimp only at h
  subst h
  unfold Addr.add
  split
  · rename_i h0; simp_all
  · rfl
theorem f_weightsAll_mem {H : Type} {P : Program} {e : TypeId} : ∀ {l : List (DataW H)} {d : DataW H}, d ∈ l → ∀ n ∈ d.weights P e, n ∈ DataW.weightsAll P e l
  | d' :: r, d, hd, n, hn => by
    simp only [DataW.weightsAll, List.mem_append]
    rcases List.mem_cons.1 hd with rfl | h
    · exact Or.inl hn
    · exact Or.inr (f_weightsAll_mem h n hn)
theorem f_cellsStr : Tryf.prog.cellsOf 9 = 1 := by kernel_rfl

set_option maxRecDepth 100000 in
theorem open_names {H : Type} {enc : TypeId × Value → H} {w : World} {base : Nat} {v : Value} {d : DataW H} {p : List MemPlace} {ts : List TypeId} {ds : List (DataW H)} {j : Nat} (hv : Value.okWide Tryf.prog w .any base 35 v)
    (h : DataW.Trod enc Tryf.prog w 0 (fun _ => true) true 35 v d p) (hsz : (DataW.weightsEach Tryf.prog ts ds).all (· ≤ reachBytes) = true) (hj : ts[j]? = some 35) (hd : ds[j]? = some d) :
    ∃ A n c, v = .slice A n c ∧ NArg w A n := by
  obtain ⟨A, n, c, rfl⟩ := okWide_slice Tryf.underlying35 hv
  obtain ⟨fuel, hf⟩ := h
  rcases open_strings Tryf.underlying35 Tryf.underlying9 f_cellsStr hf with ⟨h0, h1⟩ | ⟨a, len, cap, ss, hcs, hb, hl, hm, hss, hx, hc, hs⟩
  · have : A = none ∧ n = 0 ∧ c = 0 := by simpa [Value.cells] using h0
    obtain ⟨rfl, rfl, rfl⟩ := this
    exact ⟨none, 0, 0, rfl, fun k hk => absurd hk (Nat.not_lt_zero k)⟩
  · have : A = some a ∧ n = len ∧ c = cap := by simpa [Value.cells] using hcs
    obtain ⟨rfl, rfl, rfl⟩ := this
    refine ⟨some a, n, c, rfl, fun k hk => ?_⟩
    have hlen : k < ss.length := by rw [hss]; simp; omega
    have h1 := hc k hlen
    have hsp : a.spot = none := by
      have h2 := f_cell_spot (hc 0 (by omega))
      unfold Addr.add at h2
      rwa [if_pos rfl] at h2
    rw [f_add_none hsp] at h1
    refine ⟨a.block, a.off, ss.getD k ByteArray.empty, by rw [← hsp], h1, ?_⟩
    have hmem : (DataW.lit (Lit.string (ss.getD k ByteArray.empty).data.toList) : DataW H) ∈ strs (ss.take n) := by
      unfold strs
      refine List.mem_map.2 ⟨ss.getD k ByteArray.empty, ?_, rfl⟩
      rw [List.getD_eq_getElem?_getD, List.getElem?_eq_getElem hlen]
      exact List.mem_take_iff_getElem.2 ⟨k, by omega, rfl⟩
    have hd' : d = .slice (strs (ss.take n)) (strs (ss.drop n)) := congrArg Prod.fst hx
    have hw : (ss.getD k ByteArray.empty).data.toList.length ≤ reachBytes := by
      refine of_decide_eq_true (List.all_eq_true.1 hsz _ (DataW.weights_mem_each hj hd _ ?_))
      rw [hd']
      simp only [DataW.weights, Tryf.underlying35, List.mem_cons, List.mem_append]
      exact Or.inr (Or.inl (f_weightsAll_mem hmem _ (by simp [DataW.weights])))
    have e : (ss.getD k ByteArray.empty).data.toList.length = (ss.getD k ByteArray.empty).size := Array.length_toList
    unfold reachBytes at hw
    omega
set_option maxRecDepth 100000 in
theorem tells_lifted (os : Os) (started : os.Started) (H : Type) (enc : TypeId × Value → H) :
    ReturnsInTold none {} Tryf.checked os 4 .any Input.okWide ((OpenSpec.ofChange Rows.faultTellsSpec).preRow enc Tryf.prog Tryf.f4 [] false theLaid) (fun F => ((OpenSpec.ofChange Rows.faultTellsSpec).at F).post enc Tryf.prog Tryf.f4 false true false false) (aloneAtReturn Tryf.prog) nothingAlways := by
  refine returnsInTold_of_row (C := Tryf.checked) (s := OpenSpec.ofChange Rows.faultTellsSpec) (by kernel_rfl) a_own started (by kernel_rfl) Tryf.func4
    (OpenSpec.witness_stopped_at (enc := enc) (C := Tryf.checked) false (laidWorld os) #[.int .i64 0, .int .i64 0, .bool false, .slice none 0 0, .int .i64 0] rfl (by kernel_rfl) (by kernel_rfl) (by kernel_rfl)
      (OpenSpec.preRow_of_B rfl 8 (by kernel_rfl) (by kernel_rfl) (laidWorld_met os _))) ?_
  intro F W base args ds gs before _ hF hval0 hW _ _ hsz hL _
  have hval : ∀ (j : Nat) t v, Tryf.f4.params[j]? = some t → args[j]? = some v → Value.okWide Tryf.prog W .any base t v := hval0
  have hW' := hW
  obtain ⟨p, q, hA0, hV, rfl, hfz, hnd⟩ := hW
  have hA : DataW.TrodAll enc Tryf.prog W 0 (fun _ => true) true Tryf.f4.params.toList args.toList ds p := hA0
  rw [Tryf.params4] at hA hval
  obtain ⟨v0, vs0, d0, ds0, p0, q0, hargs, rfl, rfl, h0, r0⟩ := trodAll_cons hA
  obtain ⟨v1, vs1, d1, ds1, p1, q1, rfl, rfl, rfl, h1, r1⟩ := trodAll_cons r0
  obtain ⟨v2, vs2, d2, ds2, p2, q2, rfl, rfl, rfl, h2, r2⟩ := trodAll_cons r1
  obtain ⟨v3, vs3, d3, ds3, p3, q3, rfl, rfl, rfl, h3, r3⟩ := trodAll_cons r2
  obtain ⟨v4, vs4, d4, ds4, p4, q4, rfl, rfl, rfl, h4, r4⟩ := trodAll_cons r3
  obtain ⟨rfl, rfl, rfl⟩ := trodAll_nil r4
  obtain rfl : args = #[v0, v1, v2, v3, v4] := by cases args; simp_all
  obtain ⟨rfl, rfl⟩ := trodVars_none hV
  obtain ⟨a0, rfl, rfl, rfl, w0⟩ := open_int Tryf.underlying22 (hval 0 22 v0 rfl rfl) h0
  obtain ⟨a1, rfl, rfl, rfl, w1⟩ := open_int Tryf.underlying3 (hval 1 3 v1 rfl rfl) h1
  obtain ⟨a2, rfl, rfl, rfl⟩ := open_bool Tryf.underlying4 (hval 2 4 v2 rfl rfl) h2
  obtain ⟨A, n, c, rfl, hN⟩ := open_names (j := 3) (hval 3 35 v3 rfl rfl) h3 hsz rfl rfl
  obtain ⟨a4, rfl, rfl, rfl, w4⟩ := open_int Tryf.underlying22 (hval 4 22 v4 rfl rfl) h4
  have hg := hasType_of_laid hL
  have hlaw : Calls Tryf.prog 4 #[.int .i64 a0, .int .i64 a1, .bool a2, .slice A n c, .int .i64 a4] W (RetB W (.bool true)) := by
    by_cases hn : (30 : Int) < n
    · exact tells_many hg a0 a1 a4 a2 A n c hn
    · cases a2 with
      | true => exact tells_other F hF hg a0 a1 a4 A n c hn hN
      | false =>
        cases he : (a0 == 0) with
        | true => obtain rfl : a0 = 0 := by simpa using he
                  exact tells_nil F hF hg a1 a4 A n c hn hN
        | false => exact tells_own F hF hg a0 he a1 a4 A n c hn hN
  refine hlaw.mono fun e W' ⟨he, hb⟩ => ?_
  subst he
  exact ⟨_, rfl, law_post hW' rfl rfl rfl Tryf.underlying4 a_laidOut (by decide +kernel) hb (ok_one (by kernel_rfl) rfl (okWide_bool_mk Tryf.underlying4 _))⟩
theorem tells_holds : Rows.FaultTellsToldSaid :=
  Claim7.holds_of_told_tied_any_at .later 4 Tryf.f4 "fmt.errorf, its operands' methods called" [] [] _ _ _ _ _ (by kernel_rfl) rfl rfl rfl a_laidOut (by kernel_rfl) rfl ⟨rfl, rfl, rfl, rfl, rfl, rfl, rfl⟩ rfl rfl (by kernel_rfl) (by kernel_rfl) Tryf.func4 (by kernel_rfl)
    (of_decide_eq_true (by kernel_rfl)) (by unfold Func.isWrapper; first | (rw [if_pos (by decide +kernel)]; kernel_rfl) | (rw [if_neg (by decide +kernel)]; exact ⟨rfl, rfl⟩)) a_stops.symm rfl a_stopKnobs.symm (by kernel_rfl)
    (by kernel_rfl) (by kernel_rfl) (by kernel_rfl) (by kernel_rfl) (by kernel_rfl) (by kernel_rfl) (by kernel_rfl) (by kernel_rfl) (by kernel_rfl) rfl (by kernel_rfl) rfl rfl
    rfl rfl
    rfl (by kernel_rfl) (by kernel_rfl) (by kernel_rfl) (by decide) (by kernel_rfl) faultTells_row_tie
    (OpenClaim.moreEntering_of (by kernel_rfl) (by kernel_rfl) (by kernel_rfl) (by kernel_rfl) (by kernel_rfl) (by kernel_rfl) (by kernel_rfl) (by kernel_rfl) (by kernel_rfl) (by kernel_rfl))
    ⟨_, WideRow.started_initial, a_quiet _⟩
    (fun os started _ H enc _ => tells_lifted os started H enc)
#print axioms tells_holds
end Go.Proofs.YtaeakipppdjkmaaFmt
