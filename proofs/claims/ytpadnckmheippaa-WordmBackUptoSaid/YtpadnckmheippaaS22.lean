/- The word machine's Rest. -/
import Derived.Test.YtpadnckmheippaaS21
namespace Go.Proofs.Ytpadnckmheippaa
open Go.RowKit
set_option linter.unusedVariables false
/-- What closes a place. -/
def cl (p : Nat) : UInt8 := if p = 1 then 34 else 125
def MS.rest (m : MS) : List UInt8 := if m.kind = 16 ∨ m.kind = 17 then [] else m.missing ++ (m.places.drop 1).reverse.map cl
section
variable {w w1 : World} {B : Bs} {g : Nat} {nx : Value} {x : MR}
theorem rest_over (h : MRep w B g nx x) (hk : x.kind = 16 ∨ x.kind = 17) : Calls Try.prog 16 #[.pointer (some ⟨g, 0, none⟩)] w fun e w' => e = .returned (.string ⟨#[]⟩) ∧ w = w' := by
  have h2 := h.blk.cell 2
  simp only [MR.cells, List.getElem?_toArray, List.getElem?_cons_zero, List.getElem?_cons_succ] at h2
  clear h
  rcases hk with hk | hk
  all_goals
    rw [hk] at h2
    clear hk
    go_enter Try.func16, Try.ntmps16
    go_wp2
    go_ret
    exact ⟨rfl, rfl⟩
theorem levels_place (h : MRep w B g nx x) {b c : Nat} (hlv : x.lv = .slice (some ⟨b, 0, none⟩) (x.lower.length + 1) c) (k : Nat) (hk : k < x.ms.places.length) :
    w.cell? ⟨b, k * 5, none⟩ = some (.int .i64 (x.ms.places[k] : Nat)) := by
  obtain ⟨b', c', h1, _, _, _, ho⟩ := h.lvl
  rw [hlv] at h1
  cases h1
  have hl : x.ms.places = x.levels.map RL.place := by simp [MS.places, MR.ms, MR.levels, RL.lv, List.map_map, Function.comp_def]
  have hk2 : k < x.levels.length := by rw [hl] at hk; simpa using hk
  have hk3 : k < x.lower.length + 1 := by simpa [MR.levels] using hk2
  have := own_cell ho (k * 5) (by omega)
  rw [this]
  have h5 := fm_get RL.cells 5 RL.len x.levels k 0 hk2 (by omega)
  rw [Nat.add_zero] at h5
  rw [h5]
  simp only [hl, List.getElem_map]
  rfl
theorem drop_rev (l : List Nat) (k : Nat) (hk : k < l.length) : (l.drop k).reverse.map cl = (l.drop (k + 1)).reverse.map cl ++ [cl l[k]] := by
  rw [List.drop_eq_getElem_cons hk, List.reverse_cons, List.map_append]
  rfl
set_option maxHeartbeats 1600000 in
theorem rest_any (h : MRep w B g nx x) (hk17 : x.kind ≤ 15) (hz : x.ms.sz ≤ 800000) : Calls Try.prog 16 #[.pointer (some ⟨g, 0, none⟩)] w fun e w' => e = .returned (.string ⟨x.ms.rest.toArray⟩) ∧ Below w.heap.size w w' := by
  obtain ⟨z1, z2, z3, z4, z5, z6, z7, z8⟩ := x.sizes hz
  have h2 := h.blk.cell 2
  simp only [MR.cells, List.getElem?_toArray, List.getElem?_cons_zero, List.getElem?_cons_succ] at h2
  have hk16 : ((x.kind : Int) == 16) = false := by simp; omega
  have hk17' : ((x.kind : Int) == 17) = false := by simp; omega
  obtain ⟨b, c, hlv, hbg, hblt, hcap, -⟩ := h.lvl
  have hpl : x.ms.places.length = x.lower.length + 1 := by simp [MS.places, MR.ms]
  have HM := Lib.hid (missing_any h (by omega) hz)
  have hr : x.ms.rest = x.ms.missing ++ (x.ms.places.drop 1).reverse.map cl := by
    unfold MS.rest
    have hkk : x.ms.kind = x.kind := rfl
    rw [if_neg (by rw [hkk]; omega)]
  have hml : x.ms.missing.length ≤ 800010 := by
    have hd : x.ms.deep = x.deep := rfl
    unfold MS.missing
    rw [hd]
    repeat' split
    all_goals simp only [List.length_append, List.length_replicate, List.length_cons, List.length_nil]
    all_goals omega
  have HR := Lib.hid hr
  have H0 := Lib.hid h
  have HLV := Lib.hid hlv
  clear h hlv hr z8
  generalize hms : x.ms.missing = ms at *
  generalize hps : x.ms.places = ps at *
  have HPS := Lib.hid hps
  clear hms hps
  go_enter Try.func16, Try.ntmps16
  go_wp2_with fail
  refine HM.out.mono ?_
  rintro e w2 ⟨rfl, hb⟩
  obtain ⟨hM, sM⟩ := H0.out.grown hb
  have g0 := hM.blk.cell 0
  simp only [MR.cells, List.getElem?_toArray, List.getElem?_cons_zero, HLV.out] at g0
  have HC := Lib.hid (levels_place hM HLV.out)
  have HB := Lib.hid hb
  clear hM sM hb HM H0
  generalize x.lower.length = n at *
  go_wp2
  go_loop [3, 4] (fun s i => ∃ k : Nat, k ≤ n ∧ i = .int .i64 k ∧ s = .string ⟨(ms ++ (ps.drop (k + 1)).reverse.map cl).toArray⟩) (fun _ i => (intOf i).toNat)
  case atStart => exact ⟨n, Nat.le_refl _, by first | rfl | go_num, by rw [List.drop_of_length_le (by omega)]; simp⟩
  case round =>
    obtain ⟨k, hk, rfl, rfl⟩ := hrel
    have hln : ((ps.drop (k + 1)).reverse.map cl).length ≤ 800001 := by simp; omega
    by_cases hk0 : 0 < k
    · have hcell : w2.cell? ⟨b, k * 5, none⟩ = some (.int .i64 (ps[k] : Nat)) := by
        have := HC.out k (by rw [HPS.out]; omega)
        rw [this]
        simp only [HPS.out]
      have hst := drop_rev ps k (by omega)
      have HST := Lib.hid hst
      clear hst
      generalize hq : ms ++ (ps.drop (k + 1)).reverse.map cl = q at *
      have hql : q.length ≤ 1700000 := by rw [← hq]; simp; omega
      have HQ := Lib.hid hq
      clear hq
      by_cases hp : ps[k] = 1
      · rw [hp] at hcell
        have HP := Lib.hid hp
        clear hp
        go_wp2
        go_round
        case rel => exact ⟨k - 1, by omega, by go_num, by rw [show k - 1 + 1 = k by omega, HST.out, ← List.append_assoc, HQ.out, HP.out]; exact congrArg Value.string (bytes_app q [34])⟩
        case measure => simp [intOf]; omega
      · have hp2 : ((ps[k] : Int) == 1) = false := by simp; omega
        have HP : Hid (cl ps[k] = 125) := Lib.hid (by unfold cl; rw [if_neg hp])
        clear hp
        generalize hpk : ps[k] = pk at *
        clear hpk
        go_wp2
        go_round
        case rel => exact ⟨k - 1, by omega, by go_num, by rw [show k - 1 + 1 = k by omega, HST.out, ← List.append_assoc, HQ.out]; exact congrArg Value.string ((bytes_app q [125]).trans (by rw [← HP.out]))⟩
        case measure => simp [intOf]; omega
    · obtain rfl : k = 0 := by omega
      go_wp2
      go_ret
      refine ⟨ret_str ?_, HB.out⟩
      rw [HR.out, List.map_reverse, List.drop_one, List.map_tail]
end
end Go.Proofs.Ytpadnckmheippaa
