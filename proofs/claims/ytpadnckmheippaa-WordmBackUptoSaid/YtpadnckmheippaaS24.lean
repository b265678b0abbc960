/- Fed: a machine that took a text's bytes, up to the first other signal. -/
import Derived.Test.YtpadnckmheippaaS23
namespace Go.Proofs.Ytpadnckmheippaa
open Go.RowKit
set_option linter.unusedVariables false
theorem take_snoc (s : ByteArray) (k : Nat) (h : k < s.size) : s.data.toList.take (k + 1) = s.data.toList.take k ++ [s[k]] := by
  rw [List.take_succ_eq_append_getElem (by simpa using h)]; rfl
theorem drop_cons (s : ByteArray) (k : Nat) (h : k < s.size) : s.data.toList.drop k = s[k] :: s.data.toList.drop (k + 1) := by
  rw [List.drop_eq_getElem_cons (by simpa using h)]; rfl
/-- The machine behind k bytes, all taken. -/
def FedAt (w : World) (B : Bs) (l : List UInt8) (k : Nat) (w' : World) : Prop := Made w B (w.heap.size + 1) (({} : MS).run (l.take k)) w' ∧ ({} : MS).goes (l.take k)
def FedEnd (w : World) (B : Bs) (l : List UInt8) (e : Ending) (w' : World) : Prop :=
  e = .returned (.tuple #[.pointer (some ⟨w.heap.size + 1, 0, none⟩), .int .i64 (({} : MS).fed l).2.1, .int .i64 (({} : MS).fed l).2.2]) ∧ Made w B (w.heap.size + 1) (({} : MS).fed l).1 w'
set_option maxHeartbeats 1600000 in
theorem fed_any (s : ByteArray) (hs : s.size ≤ 70000) (w : World) (B : Bs) (hB : B.n ≤ w.heap.size) (hav : ∀ b ∈ B.av, b < w.heap.size) :
    Calls Try.prog 13 #[.string s] w (FedEnd w B s.data.toList) := by
  have HNEW := Lib.hid (made_new w B hB hav)
  have HG : ∀ k, Good (10 * k) (({} : MS).run (s.data.toList.take k)) := fun k => (Good.run Good.new _).mono (by simp; omega)
  have HGH := Lib.hid HG
  clear HG hav
  go_enter Try.func13, Try.ntmps13
  go_wp2_with fail
  refine HNEW.out.mono ?_
  rintro e w1 ⟨rfl, hm⟩
  have HM0 : Hid (FedAt w B s.data.toList 0 w1) := Lib.hid ⟨hm, trivial⟩
  clear hm HNEW
  generalize hg : w.heap.size + 1 = g at *
  have HGE := Lib.hid hg
  clear hg
  go_wp2
  go_loopw [6, 7] (fun i _ wr => ∃ k : Nat, k ≤ s.size ∧ i = .int .i64 k ∧ FedAt w B s.data.toList k wr) (fun i _ _ => s.size - (intOf i).toNat)
  case atStart => exact ⟨0, Nat.zero_le _, rfl, HM0.out⟩
  case round =>
    obtain ⟨k, hk, rfl, hm⟩ := hrel
    obtain ⟨hm1, hm2⟩ := hm
    by_cases hlt : k < s.size
    · have HF := Lib.hid (made_feed hm1 (HGH.out k) (by omega) s[k])
      have HTS := Lib.hid (take_snoc s k hlt)
      have HDC := Lib.hid (drop_cons s k hlt)
      have HL := Lib.hid hm2
      rw [HGE.out] at HF
      clear hm1 hm2 HM0
      by_cases h0 : ((({} : MS).run (s.data.toList.take k)).feed s[k]).2 = 0
      · have HH0 := Lib.hid h0
        have hs0 : (((({} : MS).run (s.data.toList.take k)).feed s[k]).2 : Int) = 0 := by rw [h0]; rfl
        have HF2 := HF.out
        rw [hs0] at HF2
        have HF3 := Lib.hid HF2
        clear h0 hs0 HF2 HF
        go_wp2_with fail
        refine HF3.out.mono ?_
        rintro e w3 ⟨rfl, hm3⟩
        have HM3 := Lib.hid hm3
        clear hm3
        go_wp2
        go_roundw
        case rel => exact ⟨k + 1, by omega, by go_num, by
          refine ⟨?_, ?_⟩
          · rw [HTS.out, mrun_app, HGE.out]; exact HM3.out
          · rw [HTS.out, goes_app]; exact ⟨HL.out, HH0.out, trivial⟩⟩
        case measure => simp [intOf]; omega
      · have HH0 := Lib.hid h0
        have hne : (((({} : MS).run (s.data.toList.take k)).feed s[k]).2 : Int) ≠ 0 := by omega
        have hfe : ({} : MS).fed s.data.toList = ((({} : MS).run (s.data.toList.take k)).feed s[k] |>.1, k, ((({} : MS).run (s.data.toList.take k)).feed s[k]).2) := by
          conv => lhs; rw [← List.take_append_drop k s.data.toList]
          rw [fed_goes _ _ _ HL.out, HDC.out, fed_stop _ _ _ HH0.out]
          have : (s.data.toList.take k).length = k := by simp; omega
          rw [this]; rfl
        have HFE := Lib.hid hfe
        clear hfe h0
        generalize (({} : MS).run (s.data.toList.take k)).feed s[k] = r at *
        have hnb : ((r.2 : Int) != 0) = true := by simpa using hne
        clear hne
        go_wp2_with fail
        refine HF.out.mono ?_
        rintro e w3 ⟨rfl, hm3⟩
        have HM3 := Lib.hid hm3
        clear hm3
        go_wp2
        go_ret3
        unfold FedEnd
        rw [HFE.out, HGE.out]
        exact ⟨rfl, HM3.out⟩
    · obtain rfl : k = s.size := by omega
      have hall : s.data.toList.take s.size = s.data.toList := List.take_of_length_le (by simp)
      rw [hall] at hm1 hm2
      have hfe := fed_all _ _ hm2
      have hlen : s.data.toList.length = s.size := by simp
      rw [hlen] at hfe
      have HFE := Lib.hid hfe
      have HM := Lib.hid hm1
      clear hall hfe hlen hm1 hm2 HM0
      go_wp2
      go_ret3
      unfold FedEnd
      rw [HFE.out, ← HGE.out]
      exact ⟨rfl, HM.out⟩
end Go.Proofs.Ytpadnckmheippaa
