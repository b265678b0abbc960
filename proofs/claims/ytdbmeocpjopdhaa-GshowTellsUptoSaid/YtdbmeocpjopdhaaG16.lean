/- A right side as text: the program's. -/
import Derived.Test.YtdbmeocpjopdhaaG14
import Derived.Test.YtdbmeocpjopdhaaG15
namespace Go.Proofs.Ytdbmeocpjopdhaa
open Go.RowKit
open Gm (blanksL)
set_option linter.unusedVariables false
theorem blanksL_len (l : List ByteArray) (M : Nat) (h : ∀ s ∈ l, s.size ≤ M) : (blanksL l).length ≤ l.length * (M + 1) := by
  induction l with
  | nil => simp [blanksL]
  | cons s r ih =>
    have h1 := h s (by simp)
    have h2 := ih (fun x hx => h x (List.mem_cons_of_mem _ hx))
    unfold blanksL at h2 ⊢
    rw [List.flatMap_cons, List.length_append, List.length_cons, len_size, List.length_cons, Nat.add_mul]
    omega
theorem blanksL_snoc {l : List ByteArray} {k : Nat} {s : ByteArray} (h : l[k]? = some s) : Lib.byteCells (blanksL (l.take (k + 1))) = (Lib.byteCells (blanksL (l.take k)) ++ [.int .u8 32]) ++ Lib.strCells s := by
  obtain ⟨hk, rfl⟩ := List.getElem?_eq_some_iff.1 h
  rw [List.take_succ_eq_append_getElem hk]
  unfold blanksL Lib.byteCells Lib.strCells
  rw [List.flatMap_append, List.map_append]
  simp
theorem cells_len (l : List UInt8) : (Lib.byteCells l).length = l.length := by unfold Lib.byteCells; simp
set_option maxRecDepth 100000 in
set_option maxHeartbeats 3200000 in
theorem blanks_any {w : World} {v : Value} {l : List ByteArray} (h : Arr StrV w v l) (hl : l.length ≤ 1048576) (hs : ∀ s ∈ l, s.size ≤ 1048576) : Calls Try.prog 39 #[v] w (Text w (str (blanksL l))) := by
  obtain ⟨⟨A, c, rfl, hc⟩, hsh⟩ := h
  have HC := Lib.hid hc
  have HS := Lib.hid hs
  have HLN : Hid (∀ k, (blanksL (l.take k)).length ≤ 1099512676352) := Lib.hid (fun k => by
    have h1 := blanksL_len (l.take k) 1048576 (fun s hh => hs s (List.mem_of_mem_take hh))
    have h2 : (l.take k).length ≤ 1048576 := by rw [List.length_take]; omega
    exact Nat.le_trans h1 (Nat.le_trans (Nat.mul_le_mul_right _ h2) (by decide)))
  have hB0 : Lib.IsBuilder 40 5 w.heap.size w.heap.size (Lib.byteCells (blanksL (l.take 0))) (w.alloc (.cells #[.pointer none, .slice none 0 0] 40)) := .inl ⟨Nat.le_refl _, _, Blk.new w 40 _, ⟨rfl, .inl ⟨rfl, rfl⟩⟩, by simp [Value.ownBlock]⟩
  have HB0 := Lib.hid hB0
  have HTK : Hid (l.take l.length = l) := Lib.hid (List.take_length)
  clear hc hs hB0
  go_enter Try.func39, Try.ntmps39
  go_wp2
  go_loopw [8] (fun i wr => ∃ k : Nat, k ≤ l.length ∧ i = .int .i64 k ∧ Hid (Lib.IsBuilder 40 5 w.heap.size w.heap.size (Lib.byteCells (blanksL (l.take k))) wr) ∧ Hid (Below w.heap.size w wr)) (fun i _ => l.length - (intOf i).toNat)
  case atStart => exact ⟨0, Nat.zero_le _, rfl, HB0, Lib.hid (below_alloc _ _)⟩
  case round =>
    obtain ⟨k, hk, rfl, HI, HB⟩ := hrel
    have hws := HB.out.size
    by_cases hlt : k < l.length
    · have hx := List.getElem?_eq_getElem hlt
      generalize l[k] = s at hx
      obtain ⟨b, off, rfl, hlt0, hcell⟩ := HC.out k s hx
      have e1 := (HB.out.cell (p := ⟨b, off + k, none⟩) hlt0).trans hcell
      have hsz := HS.out s (List.mem_of_getElem? hx)
      have HSN := Lib.hid (blanksL_snoc hx)
      have hl1 := HLN.out k
      simp only [StrV] at e1
      clear hx hcell
      go_wp2_with fail
      refine (wbyte_any _ _ _ 32 wr HI.out (by rw [cells_len]; omega) hws).mono ?_
      rintro e w1 ⟨rfl, hb1, hw1⟩
      have HI1 := Lib.hid hb1
      have HB1 := Lib.hid (HB.out.trans hw1)
      have hws1 := HB1.out.size
      clear hb1 hw1
      go_wp2_with fail
      refine (wstr_any _ _ _ s w1 (.inr HI1.out) (by rw [List.length_append, cells_len]; simp; omega) hws1).mono ?_
      rintro e w2 ⟨rfl, hb2, hw2⟩
      have HI2 : Hid (Lib.IsBuilder 40 5 w.heap.size w.heap.size (Lib.byteCells (blanksL (l.take (k + 1)))) w2) := Lib.hid (by rw [HSN.out]; exact .inr hb2)
      have HB2 := Lib.hid (HB1.out.trans hw2)
      clear hb2 hw2
      go_wp2
      go_roundw
      case rel => exact ⟨k + 1, by omega, by go_num, HI2, HB2⟩
      case measure => simp [intOf]; omega
    · obtain rfl : k = l.length := by omega
      have HI2 : Hid (Lib.IsBuilder 40 5 w.heap.size w.heap.size (Lib.byteCells (blanksL l)) wr) := Lib.hid (by have hh := HI.out; rw [HTK.out] at hh; exact hh)
      go_wp2_with fail
      refine (Try.Builder_String_any _ _ _ wr HI2.out hws).mono ?_
      rintro e w1 ⟨rfl, hw1⟩
      have HB1 := Lib.hid (HB.out.trans hw1)
      clear hw1
      go_wp2
      go_ret
      exact ⟨rfl, HB1.out⟩
end Go.Proofs.Ytdbmeocpjopdhaa
