/- The word machine's other methods: without a machine; Raw, Deep, Word, Close, missing. -/
import Derived.Test.YtpadnckmheippaaS20
import Derived.Test.YtpadnckmheippaaShelf
namespace Go.Proofs.Ytpadnckmheippaa
open Go.RowKit
set_option linter.unusedVariables false
theorem feed_nil (c : Int) (w : World) : Calls Try.prog 18 #[.pointer none, .int .u8 c] w fun e w' => e = .returned (.int .i64 3) ∧ w = w' := by
  go_enter Try.func18, Try.ntmps18
  go_wp2
  go_ret
  exact ⟨rfl, rfl⟩
theorem raw_nil (w : World) : Calls Try.prog 17 #[.pointer none] w fun e w' => e = .returned (.bool false) ∧ w = w' := by
  go_enter Try.func17, Try.ntmps17
  go_wp2
  go_ret
  exact ⟨rfl, rfl⟩
theorem deep_nil (w : World) : Calls Try.prog 20 #[.pointer none] w fun e w' => e = .returned (.int .i64 0) ∧ w = w' := by
  go_enter Try.func20, Try.ntmps20
  go_wp2
  go_ret
  exact ⟨rfl, rfl⟩
theorem rest_nil (w : World) : Calls Try.prog 16 #[.pointer none] w fun e w' => e = .returned (.string ⟨#[]⟩) ∧ w = w' := by
  go_enter Try.func16, Try.ntmps16
  go_wp2
  go_ret
  exact ⟨rfl, rfl⟩
theorem close_nil (v : Value) (w : World) : Calls Try.prog 19 #[.pointer none, v] w fun e w' => e = .returned (.bool false) ∧ w = w' := by
  go_enter Try.func19, Try.ntmps19
  go_wp2
  go_ret
  exact ⟨rfl, rfl⟩
theorem assigns_nil (w : World) : Calls Try.prog 23 #[.pointer none] w fun e w' => e = .returned (.bool false) ∧ w = w' := by
  go_enter Try.func23, Try.ntmps23
  go_wp2
  go_ret
  exact ⟨rfl, rfl⟩
theorem plain_nil (w : World) : Calls Try.prog 21 #[.pointer none] w fun e w' => e = .returned (.tuple #[.string ⟨#[]⟩, .bool false]) ∧ w = w' := by
  go_enter Try.func21, Try.ntmps21
  go_wp2
  go_ret2
  exact ⟨rfl, rfl⟩
theorem literal_nil (w : World) : Calls Try.prog 22 #[.pointer none] w fun e w' => e = .returned (.tuple #[.string ⟨#[]⟩, .bool false]) ∧ w = w' := by
  go_enter Try.func22, Try.ntmps22
  go_wp2
  go_ret2
  exact ⟨rfl, rfl⟩
theorem word_nil (w : World) : Calls Try.prog 14 #[.pointer none] w fun e w' => e = .returned (.tuple #[.agg #[.slice none 0 0], .bool false]) ∧ Below w.heap.size w w' := by
  go_enter Try.func14, Try.ntmps14
  go_wp2
  exact bodyPost_ret (v := .tuple #[.agg #[.slice none 0 0], .bool false]) (by simp [results, Try.results14, go_sem]) rfl ⟨rfl, (Below.refl _ _).alloc (Nat.le_refl _) _⟩

theorem ret_str {a b : ByteArray} (h : a = b) : Ending.returned (.string a) = .returned (.string b) := by rw [h]
theorem bytes_app (l m : List UInt8) : (⟨l.toArray⟩ ++ ⟨m.toArray⟩ : ByteArray) = ⟨(l ++ m).toArray⟩ := by
  apply ByteArray.ext
  simp
section
variable {w w1 : World} {B : Bs} {g : Nat} {nx : Value} {x : MR}
def MS.raw (m : MS) : Bool := m.kind == 1 || m.kind == 12 || m.kind == 13 || m.kind == 14
theorem kinds (x : MR) (hk : x.kind ≤ 17) : x.kind = 0 ∨ x.kind = 1 ∨ x.kind = 2 ∨ x.kind = 3 ∨ x.kind = 4 ∨ x.kind = 5 ∨ x.kind = 6 ∨ x.kind = 7 ∨ x.kind = 8 ∨ x.kind = 9 ∨ x.kind = 10 ∨ x.kind = 11 ∨ x.kind = 12 ∨ x.kind = 13 ∨ x.kind = 14 ∨ x.kind = 15 ∨ x.kind = 16 ∨ x.kind = 17 := by omega
set_option maxHeartbeats 1600000 in
theorem raw_any (h : MRep w B g nx x) (hk17 : x.kind ≤ 17) : Calls Try.prog 17 #[.pointer (some ⟨g, 0, none⟩)] w fun e w' => e = .returned (.bool x.ms.raw) ∧ w = w' := by
  have h2 := h.blk.cell 2
  simp only [MR.cells, List.getElem?_toArray, List.getElem?_cons_zero, List.getElem?_cons_succ] at h2
  have hm : x.ms.raw = (x.kind == 1 || x.kind == 12 || x.kind == 13 || x.kind == 14) := rfl
  rw [hm]
  have hc := kinds x hk17
  clear h hm hk17
  generalize x.kind = k at *
  rcases hc with rfl | rfl | rfl | rfl | rfl | rfl | rfl | rfl | rfl | rfl | rfl | rfl | rfl | rfl | rfl | rfl | rfl | rfl
  all_goals
    go_enter Try.func17, Try.ntmps17
    go_wp2
    go_ret
    exact ⟨rfl, rfl⟩
theorem deep_any (h : MRep w B g nx x) (hz : x.lower.length ≤ 1000000) : Calls Try.prog 20 #[.pointer (some ⟨g, 0, none⟩)] w fun e w' => e = .returned (.int .i64 x.ms.lower.length) ∧ w = w' := by
  obtain ⟨b, c, hlv, hbg, hblt, hcap, hol⟩ := h.lvl
  have h0 := h.blk.cell 0
  simp only [MR.cells, List.getElem?_toArray, List.getElem?_cons_zero, hlv] at h0
  have hm : x.ms.lower.length = x.lower.length := by simp [MR.ms]
  rw [hm]
  clear h hm hlv hol
  generalize x.lower.length = n at *
  go_enter Try.func20, Try.ntmps20
  go_wp2
  go_ret
  exact ⟨rfl, rfl⟩
def MS.missing (m : MS) : List UInt8 :=
  if m.kind = 1 then [120] else if m.kind = 3 then [40, 48, 41, 41] else if m.kind = 12 then [39] else if m.kind = 13 then List.replicate m.deep 41 ++ [41, 41] else if m.kind = 14 then [41]
  else if m.kind = 5 then [120, 125] else if m.kind = 10 then [45, 125] else if m.kind = 6 ∨ m.kind = 7 ∨ m.kind = 8 ∨ m.kind = 9 ∨ m.kind = 11 then [125] else []
theorem repeatL_one (b : UInt8) (n : Nat) : Lib.repeatL [b] n = List.replicate n b := by
  induction n with
  | zero => rfl
  | succ n ih => simp [Lib.repeatL, List.replicate_succ] at ih ⊢; try exact ih
set_option maxHeartbeats 800000 in
theorem missing_any (h : MRep w B g nx x) (hk17 : x.kind ≤ 17) (hz : x.ms.sz ≤ 800000) : Calls Try.prog 27 #[.pointer (some ⟨g, 0, none⟩)] w fun e w' => e = .returned (.string ⟨x.ms.missing.toArray⟩) ∧ Below w.heap.size w w' := by
  obtain ⟨z1, z2, z3, z4, z5, z6, z7, z8⟩ := x.sizes hz
  have h2 := h.blk.cell 2
  have h8 := h.blk.cell 8
  simp only [MR.cells, List.getElem?_toArray, List.getElem?_cons_zero, List.getElem?_cons_succ] at h2 h8
  have hk : x.ms.kind = x.kind := rfl
  have hd : x.ms.deep = x.deep := rfl
  have hc := kinds x hk17
  unfold MS.missing
  rw [hk, hd]
  clear h hk hd z8 hk17
  generalize x.kind = k at *
  generalize x.deep = d at *
  have HR := Lib.hid (Try.strings_Repeat ⟨#[41]⟩ d w (by omega) (by show 1 * d ≤ _; omega))
  rcases hc with rfl | rfl | rfl | rfl | rfl | rfl | rfl | rfl | rfl | rfl | rfl | rfl | rfl | rfl | rfl | rfl | rfl | rfl
  case' inr.inr.inr.inr.inr.inr.inr.inr.inr.inr.inr.inr.inr.inl =>
    go_enter Try.func27, Try.ntmps27
    go_wp2_with fail
    refine HR.out.mono ?_
    rintro e w2 ⟨rfl, hb⟩
    rw [repeatL_one]
    have HB := Lib.hid hb
    clear hb HR
    have hl2 : (List.replicate d (41 : UInt8)).length ≤ 800000 := by simp; omega
    generalize hl : List.replicate d (41 : UInt8) = l at *
    have HL := Lib.hid hl
    clear hl
    go_wp2
    go_ret
    exact ⟨ret_str (by rw [bytes_app l [41, 41], HL.out]), HB.out⟩
  all_goals
    go_enter Try.func27, Try.ntmps27
    go_wp2
    go_ret
    exact ⟨rfl, Below.refl _ _⟩
end
end Go.Proofs.Ytpadnckmheippaa
