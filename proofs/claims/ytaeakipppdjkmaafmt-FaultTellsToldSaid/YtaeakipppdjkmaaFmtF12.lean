/- FaultStays, walked. -/
import Derived.Test.YtaeakipppdjkmaaFmtF11
import Derived.Deep.LoopGhost
namespace Go.Proofs.YtaeakipppdjkmaaFmt
open Go.RowKit Go.Extern.Stop Go.Stop Go.Extern
set_option linter.unusedVariables false
set_option maxHeartbeats 1000000 in
theorem stays_zero {w : World} (hg : HasType w) (at_ k : Int) (m : ByteArray) : Calls Tryf.prog 3 #[.int .i64 0, .int .i64 at_, .string m, .int .u8 k] w (RetB w (.bool true)) := by
  have HA := Lib.hid (awake_any hg)
  go_enter Tryf.func3, Tryf.ntmps3
  go_wp2_with (first
    | (go_at_call 5; refine (new_zero _ _).mono ?_; rintro en w' ⟨rfl, rfl⟩)
    | (go_at_call 6; refine (in_nil _ _).mono ?_; rintro en w' ⟨rfl, rfl⟩)
    | (go_at_call 7; refine (HA.out).mono ?_; intro en w1 hx; obtain ⟨rfl, hb⟩ := hx; have HB := Lib.hid hb; clear hb))
  go_ret
  exact ⟨rfl, HB.out⟩
theorem E3.new (w : World) (e a : Int) : E3 (w.alloc (.cells #[.int .i64 e, .int .i64 a] 47)) (.iface 45 (.pointer (some ⟨w.heap.size, 0, none⟩))) (some (e, a)) none 15 :=
  ⟨errNew w e a, namNew w e a, okText, txNew w e a, Nat.le_refl _⟩
theorem E3.in {w : World} {v : Value} {r : Option (Int × Int)} {n : Option ByteArray} {L : Nat} (h : E3 w v r n L) (m : ByteArray) (hm : m.size ≤ 140737488351232) (hL : L ≤ 2305843009213693952) :
    E3 (w.alloc (.cells #[.string m, v] 50)) (.iface 48 (.pointer (some ⟨w.heap.size, 0, none⟩))) r (some m) (L + 140737488351240) := by
  obtain ⟨t, ht, hs⟩ := h.tx
  refine ⟨errIn h.err m, namIn w m v, _, txIn ht m (by omega), ?_⟩
  rw [ByteArray.size_append, ByteArray.size_append]
  show m.size + 2 + t.size ≤ _
  omega
theorem E3.inX {w : World} {v : Value} {r : Option (Int × Int)} {n : Option ByteArray} {L : Nat} (h : E3 w v r n L) (m : ByteArray) (hm : m.size ≤ 10) (hL : L ≤ 2305843009213693952) :
    E3 (w.alloc (.cells #[.string m, v] 50)) (.iface 48 (.pointer (some ⟨w.heap.size, 0, none⟩))) r (some m) (L + 12) := by
  obtain ⟨t, ht, hs⟩ := h.tx
  refine ⟨errIn h.err m, namIn w m v, _, txIn ht m (by omega), ?_⟩
  rw [ByteArray.size_append, ByteArray.size_append]
  show m.size + 2 + t.size ≤ _
  omega
set_option maxRecDepth 100000 in
set_option maxHeartbeats 2000000 in
theorem stays_more (F : Interp) {w : World} (hg : HasType w) (hF : F.told.answers w.tape) (e at_ k : Int) (m : ByteArray) (he : (e == 0) = false) (hk0 : 0 ≤ k) (hk1 : k ≤ 255) (hm : m.size ≤ 140737488351232) :
    Calls Tryf.prog 3 #[.int .i64 e, .int .i64 at_, .string m, .int .u8 k] w (RetB w (.bool true)) := by
  have hB0 := below_alloc w (.cells #[.int .i64 e, .int .i64 at_] 47)
  have HB0 := Lib.hid hB0
  have HE0 := Lib.hid (E3.new w e at_)
  have HE := Lib.hid he
  have HG := Lib.hid hg
  have HF := Lib.hid hF
  clear hB0 hg hF
  go_enter Tryf.func3, Tryf.ntmps3
  go_wp2_with (first
    | (go_at_call 5; refine (new_some _ _ _ HE.out).mono ?_; rintro en w' ⟨rfl, rfl⟩))
  go_loopw [9, 10] (fun v i wr => ∃ (j : Nat) (T : TypeId) (b : Nat), (j : Int) ≤ k % 20 ∧ i = .int .i64 j ∧ v = .iface T (.pointer (some ⟨b, 0, none⟩)) ∧ Hid (∃ n, E3 wr v (some (e, at_)) n (15 + 20 * j)) ∧ Hid (Below w.heap.size w wr)) (fun _ i _ => 20 - (intOf i).toNat)
  case atStart => exact ⟨0, _, _, by omega, rfl, rfl, Lib.hid ⟨none, HE0.out⟩, HB0⟩
  case round =>
    obtain ⟨j, T, b, hj, rfl, rfl, HE1, HB1⟩ := hrel
    by_cases hlt : (j : Int) < k % 20
    · have hB2 := below_alloc wr (.cells #[.iface T (.pointer (some ⟨b, 0, none⟩))] 20)
      have HB2 := Lib.hid hB2
      have HW : Hid (∃ n, Calls Tryf.prog 8 #[.string ⟨#[121, 58, 32, 37, 119]⟩, .slice (some ⟨wr.heap.size, 0, none⟩) 1 1] (wr.alloc (.cells #[.iface T (.pointer (some ⟨b, 0, none⟩))] 20)) (Wrapped (wr.alloc (.cells #[.iface T (.pointer (some ⟨b, 0, none⟩))] 20)) (some (e, at_)) n (15 + 20 * j + 8))) := by
        obtain ⟨n, h3⟩ := HE1.out
        have h4 := h3.later hB2
        have hF2 : F.told.answers (wr.alloc (.cells #[.iface T (.pointer (some ⟨b, 0, none⟩))] 20)).tape := by rw [hB2.tape, HB1.out.tape]; exact HF.out
        exact Lib.hid ⟨n, wrap_any F (fb := ⟨#[121, 58, 32, 37, 119]⟩) rfl parseY (by decide) fmt0 fmt0r h4 (by omega) hF2 wr.heap.size (by simp)⟩
      clear hB2
      obtain ⟨n, HW'⟩ := HW.out
      have HW2 := Lib.hid HW'
      clear HW HW'
      go_wp2_with (first
        | (go_at_call 8; refine (HW2.out).mono ?_; intro en w1 hx; obtain ⟨rfl, hb, h5, hz⟩ := hx; rw [World.size_alloc] at h5; have HB3 := Lib.hid (HB2.out.trans (hb.mono HB2.out.size)); have H5 := Lib.hid h5; clear hb h5)
        | (go_at_call 6; refine (in_some _ _ _ _).mono ?_; rintro en w2 ⟨rfl, rfl⟩))
      go_roundw
      case rel => exact ⟨j + 1, _, _, by omega, by go_num, rfl, Lib.hid ⟨_, ((H5.out).inX ⟨#[120]⟩ (by decide) (by omega)).more (by omega)⟩, Lib.hid ((HB1.out.trans (HB3.out.mono HB1.out.size)).alloc (by have := HB1.out.size; have := HB3.out.size; omega) _)⟩
      case measure => simp [intOf]; omega
    · have HX : Hid (E3 (wr.alloc (.cells #[.string m, .iface T (.pointer (some ⟨b, 0, none⟩))] 50)) (.iface 48 (.pointer (some ⟨wr.heap.size, 0, none⟩))) (some (e, at_)) (some m) (15 + 20 * j + 140737488351240)) := by
        obtain ⟨n, h3⟩ := HE1.out
        exact Lib.hid (h3.in m hm (by omega))
      have HG1 := Lib.hid (HG.out.later (HB1.out.alloc HB1.out.size (.cells #[.string m, .iface T (.pointer (some ⟨b, 0, none⟩))] 50)))
      have HB4 := Lib.hid (HB1.out.alloc HB1.out.size (.cells #[.string m, .iface T (.pointer (some ⟨b, 0, none⟩))] 50))
      have HNE : Hid ((e != 0) = true) := Lib.hid (by simpa using HE.out)
      go_wp2_with (first
        | (go_at_call 6; refine (in_some _ _ _ _).mono ?_; rintro en w2 ⟨rfl, rfl⟩)
        | (go_at_call 9; refine (code_some HX.out.err HG1.out).mono ?_; intro en w3 hx; obtain ⟨rfl, hb1⟩ := hx; have HX3 := Lib.hid (HX.out.later hb1); have HG3 := Lib.hid (HG1.out.later hb1); have HB5 := Lib.hid (HB4.out.trans (hb1.mono HB4.out.size)); clear hb1)
        | (go_at_call 10; refine (at_some HX3.out.err HG3.out).mono ?_; intro en w4 hx; obtain ⟨rfl, hb1⟩ := hx; have HX4 := Lib.hid (HX3.out.later hb1); have HG4 := Lib.hid (HG3.out.later hb1); have HB6 := Lib.hid (HB5.out.trans (hb1.mono HB5.out.size)); clear hb1)
        | (go_at_call 11; refine (name_some HX4.out.nam HG4.out).mono ?_; intro en w5 hx; obtain ⟨rfl, hb1⟩ := hx; have HX5 := Lib.hid (HX4.out.later hb1); have HG5 := Lib.hid (HG4.out.later hb1); have HB7 := Lib.hid (HB6.out.trans (hb1.mono HB6.out.size)); clear hb1)
        | (go_at_call 12; refine (fis_more HX5.out.err e HNE.out true (by simp)).mono ?_; rintro en w6 ⟨rfl, rfl⟩)
        | (go_at_call 13; refine (is_err HX5.out.err e true (by simp)).mono ?_; rintro en w6 ⟨rfl, rfl⟩)
        | (go_at_call 7; refine (awake_any HG5.out).mono ?_; intro en w7 hx; obtain ⟨rfl, hb1⟩ := hx; have HB8 := Lib.hid (HB7.out.trans (hb1.mono HB7.out.size)); clear hb1))
      go_ret
      exact ⟨rfl, HB8.out⟩
end Go.Proofs.YtaeakipppdjkmaaFmt
