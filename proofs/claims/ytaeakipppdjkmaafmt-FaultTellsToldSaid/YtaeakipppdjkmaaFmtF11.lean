/- fmt.Errorf's text told: how long it is; what becomes of an error when it is wrapped. -/
import Derived.Test.YtaeakipppdjkmaaFmtF10
import Derived.Stop.FmtTextKit
import Derived.Stop.JoinedTold
import Derived.Stop.Texts
namespace Go.Proofs.YtaeakipppdjkmaaFmt
open Go.RowKit Go.Kit Go.Extern.Stop Go.Stop Go.Extern
set_option linter.unusedVariables false
theorem parseY : (FmtText.parse fmtY.data.toList).map FmtText.glue = some [.lit [121, 58, 32], .verb {} 119] := by rfl
theorem parseM : (FmtText.parse fmtM.data.toList).map FmtText.glue = some [.lit [109, 111, 114, 101, 58, 32], .verb {} 119] := by rfl
theorem textP {f pre : List UInt8} (hp : (FmtText.parse f).map FmtText.glue = some [.lit pre, .verb {} 119]) (said : List UInt8) : FmtText.text "fmt.errorf" (rdP f said) = some (pre ++ said) := by
  rw [rdP, FmtText.text_errorf_glued hp (FmtText.operands_cons (FmtText.operand_error_at rfl (FmtText.unpack_pack _ (by decide)) said) FmtText.operands_nil)]
  simp [FmtText.render, FmtText.printArg_w_said]
theorem textN {f pre : List UInt8} (hp : (FmtText.parse f).map FmtText.glue = some [.lit pre, .verb {} 119]) (said : List UInt8) : FmtText.text "fmt.errorf" (rdN f said) = some (pre ++ said) := by
  rw [rdN, FmtText.text_errorf_glued hp (FmtText.operands_cons (FmtText.operand_error_at rfl (FmtText.unpack_pack _ (by decide)) said) FmtText.operands_nil)]
  simp [FmtText.render, FmtText.printArg_w_said]
theorem textW {f pre : List UInt8} (hp : (FmtText.parse f).map FmtText.glue = some [.lit pre, .verb {} 119]) (said : List UInt8) : FmtText.text "fmt.errorf" (rdW f said) = some (pre ++ said) := by
  rw [rdW, FmtText.text_errorf_glued hp (FmtText.operands_cons (FmtText.operand_plain_at (sh := plainW) rfl (FmtText.unpack_pack _ (by decide)) said) FmtText.operands_nil)]
  simp [FmtText.render, FmtText.printArg_w_said]
theorem textS {f pre : List UInt8} (hp : (FmtText.parse f).map FmtText.glue = some [.lit pre, .verb {} 119]) (said : List UInt8) : FmtText.text "fmt.errorf" (rdS f said) = some (pre ++ said) := by
  rw [rdS, FmtText.text_errorf_glued hp (FmtText.operands_cons (FmtText.operand_plain_at (sh := plainS) rfl (FmtText.unpack_pack _ (by decide)) said) FmtText.operands_nil)]
  simp [FmtText.render, FmtText.printArg_w_said]
/-- An error of this program: what it is asked for, and how long its text may be. -/
structure E3 (w : World) (v : Value) (r : Option (Int × Int)) (n : Option ByteArray) (L : Nat) : Prop where
  err : Err w v r
  nam : Nam w v n
  tx : ∃ m, Tx w v m ∧ m.size ≤ L
theorem E3.later {w w' : World} {v : Value} {r : Option (Int × Int)} {n : Option ByteArray} {L : Nat} (h : E3 w v r n L) (hb : Below w.heap.size w w') : E3 w' v r n L := by
  obtain ⟨m, hm, hs⟩ := h.tx
  exact ⟨h.err.later hb, h.nam.later hb, m, hm.later hb, hs⟩
theorem E3.more {w : World} {v : Value} {r : Option (Int × Int)} {n : Option ByteArray} {L L' : Nat} (h : E3 w v r n L) (hl : L ≤ L') : E3 w v r n L' := by
  obtain ⟨m, hm, hs⟩ := h.tx
  exact ⟨h.err, h.nam, m, hm, Nat.le_trans hs hl⟩
theorem below_drewN {B : Nat} {a w : World} (h : Below B a w) (j : Nat) : Below B a (w.drewN j) := ⟨h.os, h.tape, h.output, h.size, h.block⟩
theorem E3.wrap {w : World} {v : Value} {r : Option (Int × Int)} {n : Option ByteArray} {L : Nat} (h : E3 w v r n L) (m : ByteArray) (j L' : Nat) (hm : m.size ≤ L') :
    Below w.heap.size w ((w.alloc (.cells #[.string m, v] 110)).drewN j) ∧ E3 ((w.alloc (.cells #[.string m, v] 110)).drewN j) (.iface 53 (.pointer (some ⟨w.heap.size, 0, none⟩))) r n L' := by
  have hb := below_drewN (below_alloc w (.cells #[.string m, v] 110)) j
  have k0 : ((w.alloc (.cells #[.string m, v] 110)).drewN j).cell? ⟨w.heap.size, 0, none⟩ = some (.string m) := by rw [cell_drewN]; simp
  have k1 : ((w.alloc (.cells #[.string m, v] 110)).drewN j).cell? ⟨w.heap.size, 1, none⟩ = some v := by rw [cell_drewN]; simp
  refine ⟨hb, ?_, ?_, m, .wrap _ m k0, hm⟩
  · obtain ⟨d, p, hc, hr⟩ := (h.err.later hb).ch
    exact ⟨d + 1, p, .wrap _ m v d p k0 k1 hc, hr⟩
  · obtain ⟨d, p, hc, hr⟩ := (h.nam.later hb).ch
    exact ⟨d + 1, p, .wrap _ m v d p k0 k1 hc, hr⟩
def Wrapped (w : World) (r : Option (Int × Int)) (n : Option ByteArray) (L : Nat) (e : Ending) (w' : World) : Prop :=
  e = .returned (.iface 53 (.pointer (some ⟨w.heap.size, 0, none⟩))) ∧ Below w.heap.size w w' ∧ E3 w' (.iface 53 (.pointer (some ⟨w.heap.size, 0, none⟩))) r n L ∧ w.heap.size < w'.heap.size
theorem E3.wrapped {w : World} {v : Value} {r : Option (Int × Int)} {n : Option ByteArray} {L L' : Nat} (h : E3 w v r n L) {m : ByteArray} (hm : m.size ≤ L') {e : Ending} {w' : World} (he : WrapEnd w v m e w') : Wrapped w r n L' e w' := by
  obtain ⟨e1, j, rfl⟩ := he
  obtain ⟨h1, h2⟩ := h.wrap m j L' hm
  exact ⟨e1, h1, h2, by show w.heap.size < (w.alloc _).heap.size; simp⟩
theorem told_size (F : Interp) {rd : List (List UInt8)} {t : List UInt8} (ht : FmtText.text "fmt.errorf" rd = some t) (hl : t.length < 9223372036854775808) : (FmtStop.textOf (F.told "fmt.errorf" rd 0)).size = t.length := by
  have h := told_string F ht (by omega)
  have h2 : (FmtStop.textOf (F.told "fmt.errorf" rd 0)).data.toList = t := by rw [textOf_list, h]
  rw [← h2]; exact (Array.length_toList).symm
theorem wrap_any (F : Interp) {f pre : List UInt8} {fb : ByteArray} (hfb : fb.data.toList = f) (hp : (FmtText.parse f).map FmtText.glue = some [.lit pre, .verb {} 119]) (hpre : pre.length ≤ 8)
    (hf : FmtStop.printed? fb 1 = some [(0, 119, false)]) (hfr : ∀ w, (FmtDoors.printed fb 1).run Tryf.prog w = .ok [(0, 119, false)] w)
    {w : World} {v : Value} {r : Option (Int × Int)} {n : Option ByteArray} {L : Nat} (h : E3 w v r n L) (hL : L ≤ 4611686018427387904) (hF : F.told.answers w.tape) (b : Nat) (hv : w.cell? ⟨b, 0, none⟩ = some v) :
    Calls Tryf.prog 8 #[.string fb, .slice (some ⟨b, 0, none⟩) 1 1] w (Wrapped w r n (L + 8)) := by
  obtain ⟨m, hm, hs⟩ := h.tx
  have hsz : m.data.toList.length = m.size := Array.length_toList
  have key : ∀ {rd : List (List UInt8)}, FmtText.text "fmt.errorf" rd = some (pre ++ m.data.toList) → (FmtStop.textOf (F.told "fmt.errorf" rd 0)).size ≤ L + 8 := by
    intro rd ht
    rw [told_size F ht (by rw [List.length_append]; omega), List.length_append]; omega
  subst hfb
  obtain ⟨T, hh, fn, rfl, hme, hcf, hc⟩ := err_any hm
  cases hm with
  | place p e a h0 h1 => 
    have hc' : Calls Tryf.prog 49 #[.pointer (some ⟨p, 0, none⟩)] w (TextOf w okText) := (perr_any p e w h0).mono fun e w' ⟨h1, h2⟩ => ⟨h1, 0, h2⟩
    exact (errorf_p fb hf hfr F.told b p okText w hF hv hc').mono fun e w' he => h.wrapped (key (textP hp _)) he
  | estr p m h0 => exact (errorf_s fb hf hfr F.told b p m w hF hv h0).mono fun e w' he => h.wrapped (key (textS hp _)) he
  | wrap p m h0 => exact (errorf_w fb hf hfr F.told b p m w hF hv h0).mono fun e w' he => h.wrapped (key (textW hp _)) he
  | named p m x L' h0 h1 hL' hx =>
    generalize m ++ (⟨#[58, 32]⟩ : ByteArray) ++ L' = tt at *
    refine (errorf_n fb hf hfr F.told b p tt w hF hv ?_).mono fun e w' he => h.wrapped (key (textN hp _)) he
    have := (methNerr (.pointer (some ⟨p, 0, none⟩)) w).symm.trans (hme w)
    simp at this
    have h3 := hc 0
    rw [← this] at h3
    exact h3
end Go.Proofs.YtaeakipppdjkmaaFmt
