/- SourceReads: the walk. -/
import Derived.Test.YtmjgleopmnplbaaR1
import Derived.Laws.IdiomStrings
import Derived.Test.YtmjgleopmnplbaaWd
namespace Go.Proofs.Ytmjgleopmnplbaa
open Go.RowKit
set_option linter.unusedVariables false

theorem conv_one {P : Program} (src dst e : TypeId) (hs : P.underlying src = some (.slice e)) (he : P.underlying e = some (.int .u8)) (hd : P.underlying dst = some .string) (b : UInt8) (w : World) :
    (convert src dst (.slice (some ⟨w.heap.size, 0, none⟩) 1 1)).run P (w.alloc (.cells #[.int .u8 b.toNat] e)) = .ok (.string ⟨#[b]⟩) (w.alloc (.cells #[.int .u8 b.toNat] e)) :=
  run_convert_bytes_back (P := P) _ src dst e ⟨w.heap.size, 0, none⟩ 1 [b] hs he hd (fun j hj => by
    have : j = 0 := by simpa using hj
    subst this
    exact (Blk.new w e _).cell 0)

theorem str_snoc (l : List UInt8) (b : UInt8) : ((⟨l.toArray⟩ : ByteArray) ++ (⟨#[b]⟩ : ByteArray)) = ⟨(l ++ [b]).toArray⟩ := by
  apply ByteArray.ext
  rw [ByteArray.data_append]
  simp
theorem take_more (l : List UInt8) (j : Nat) (h : j < l.length) : l.take (j + 1) = l.take j ++ [l.getD j 0] := by
  rw [List.take_succ_eq_append_getElem h, List.getD_eq_getElem?_getD, List.getElem?_eq_getElem h]; rfl

theorem read_str (v t : ByteArray) {a : Nat} (ha : a ≤ v.size) : v.extract 0 a ++ t ++ (⟨#[32]⟩ : ByteArray) ++ v.extract a v.size ++ (⟨#[32]⟩ : ByteArray) = ⟨(readBytes v t a).toArray⟩ := by
  apply ByteArray.ext
  apply Array.toList_inj.1
  simp only [ByteArray.data_append, Array.toList_append, Lib.extract_data, readBytes, List.drop_zero, Nat.sub_zero, List.append_assoc]
  congr 5
  rw [List.take_of_length_le (by rw [List.length_drop, ← Lib.size_eq]; exact Nat.le_refl _)]

theorem left_zero {w : World} {B g : Nat} {sl : Value} {n : Nat} (h : Src w B g sl [] n) :
    Calls Try.prog 11 #[.pointer (some ⟨g, 0, none⟩)] w fun e w' => e = .returned (.int .i64 0) ∧ ∃ m, w' = w.drewN m := left_any h (by simp) (by simp)
theorem count_two {w : World} {B g : Nat} {sl : Value} (a b : Nat) (h : Src w B g sl [] (a + b + 2)) :
    Calls Try.prog 12 #[.pointer (some ⟨g, 0, none⟩)] w fun e w' => e = .returned (.int .i64 ((a : Int) + b + 2)) ∧ w = w' := count_any h

theorem preSt_len (v w : ByteArray) (a n : Nat) : (preSt v w a n).length ≤ 2 := by
  unfold preSt midSt
  repeat' split
  all_goals simp

set_option maxRecDepth 100000 in
set_option maxHeartbeats 1000000 in
theorem reads_walk (v t : ByteArray) (k : Nat) (hk : k ≤ 255) (hv : v.size ≤ 200) (ht : t.size ≤ 200) (w : World) :
    Calls Try.prog 3 #[.string v, .string t, .int .u8 k] w fun e w' => e = .returned (.bool true) ∧ Below w.heap.size w w' := by
  have ha : k % (v.size + 1) ≤ v.size := by have := Nat.mod_lt k (show 0 < v.size + 1 by omega); omega
  obtain ⟨a, hA⟩ : ∃ a, a = k % (v.size + 1) := ⟨_, rfl⟩
  rw [← hA] at ha
  have hmod : (k : Int) % ((v.size : Int) + 1) = (a : Int) := by rw [hA, Int.natCast_emod]; rfl
  have hent : mayEnter [] nmV v = true := by simp [mayEnter, hv]
  go_enter Try.func3, Try.ntmps3
  go_wp2_with fail
  refine (new_ok _).mono ?_
  rintro e w1 ⟨g, rfl, hS1, hb1⟩
  have HK1 : Hid (Keeps w.heap.size [45, 47] w w1) := Keeps.of_below hb1
  have HS1 := hide hS1
  clear hS1 hb1
  go_wp2_with fail
  refine (enter_yes HS1.out nmV v hent).mono ?_
  rintro e w2 ⟨rfl, hk2, sl2, hS2⟩
  have HK2 := hide (HK1.out.trans hk2)
  have HS2 : Hid (Src w2 w.heap.size g sl2 (preSt v t a 0) 0) := by
    unfold Hid
    have : preSt v t a 0 = [] ++ [entered nmV v] := by rw [preSt, if_pos (Nat.zero_le _)]; rfl
    rw [this]; exact hS2
  clear hk2 hS2
  go_wp2_with fail
  rw [hmod]
  have HMOD := hide hmod
  have HA := hide hA
  clear hmod hA hent HK1 HS1
  go_loopw [10, 9] (fun n got wr => ∃ j : Nat, j ≤ v.size + t.size + 2 ∧ n = .int .i64 j ∧ got = .string ⟨((readBytes v t a).take j).toArray⟩ ∧ (∃ sl, Src wr w.heap.size g sl (preSt v t a j) j) ∧ Keeps w.heap.size [45, 47] w wr) (fun n _ _ => v.size + t.size + 3 - (intOf n).toNat)
  case atStart => exact ⟨0, Nat.zero_le _, rfl, rfl, ⟨sl2, HS2.out⟩, HK2.out⟩
  case round =>
    obtain ⟨j, hj, rfl, rfl, ⟨sl, hS⟩, hK⟩ := hrel
    have HS := hide hS
    have HK := hide hK
    clear hS hK
    by_cases hlt : j < v.size + t.size + 2
    · obtain ⟨vs, x, hm1, hm2, hm3, hm4, hm5⟩ := midSt_step (w := t) ha j hlt
      obtain ⟨b, hb⟩ : ∃ b, (readBytes v t a).getD j 0 = b := ⟨_, rfl⟩
      rw [hb] at hm4
      have HM1 := hide hm1
      have HM2 := hide hm2
      have HM3 := hide hm3
      have HM4 := hide hm4
      have HM5 := hide hm5
      have HBY := hide hb
      clear hm1 hm2 hm3 hm4 hm5 hb
      have hgl : ¬ 9223372036854775807 < ((readBytes v t a).take j).length + 1 := by rw [List.length_take]; omega
      generalize hgot : (readBytes v t a).take j = got at *
      have HGOT := hide hgot
      clear hgot
      by_cases hja : j = a
      · subst hja
        have heq : ((j : Int) == (j : Int)) = true := by simp
        have hent2 : mayEnter (preSt v t j j) nmW t = true := by
          rw [preSt_at]; simp [mayEnter, ht, named, pV, entered]
        go_wp2_with fail
        refine (enter_yes HS.out nmW t hent2).mono ?_
        rintro e w2b ⟨rfl, hk2b, sl2b, hS2b⟩
        have HK2b := hide (HK.out.trans hk2b)
        have hS2 : Src w2b w.heap.size g sl2b (vs ++ [x]) j := by rw [← HM1.out, midSt_at, ← preSt_at (w := t)]; exact hS2b
        have HS2 := hide hS2
        clear hS2 HS hS2b HK hk2b
        have HK := HK2b
        clear HK2b
        go_wp2_with fail
        refine (peek_ok HS2.out HM2.out (by have := HM3.out; unfold maxLen; omega) b HM4.out).mono ?_
        rintro e w3 ⟨rfl, m, rfl⟩
        have HK3 := hide (HK.out.drewN m)
        have HS3 := hide (HS2.out.keeps ((Keeps.refl 0 [] w2b).drewN m) (by simp) (by simp))
        generalize w2b.drewN m = w3 at *
        clear HK HS2
        have hcv := conv_one (P := Try.prog) 28 9 5 Try.underlying28 Try.underlying5 Try.underlying9 b
        go_wp2_with fail
        have HS4 := hide (HS3.out.keeps ((Keeps.refl 0 [] w3).alloc (.cells #[.int .u8 b.toNat] 5)) (by simp) (by simp))
        refine (step_any HS4.out HM2.out (by have := HM3.out; unfold maxLen; omega) (by unfold maxLen; omega)).mono ?_
        rintro e w5 ⟨rfl, hk5, sl5, hS5⟩
        rw [HM5.out] at hS5
        have HS5 := hide hS5
        have HK5 := hide ((HK3.out.alloc _).trans hk5)
        clear hS5 hk5
        go_wp2
        go_roundw
        case rel => exact ⟨j + 1, by omega, by go_num, by rw [str_snoc, ← HGOT.out, take_more _ _ (by rw [readBytes_len ha]; exact hlt), HBY.out], ⟨sl5, HS5.out⟩, HK5.out⟩
        case measure => simp [intOf]; omega
      · have hne : ((j : Int) == (a : Int)) = false := by simp; omega
        have hS2 : Src wr w.heap.size g sl (vs ++ [x]) j := by rw [← HM1.out, ← preSt_mid j hja]; exact HS.out
        have HS2 := hide hS2
        clear hS2 HS
        go_wp2_with fail
        refine (peek_ok HS2.out HM2.out (by have := HM3.out; unfold maxLen; omega) b HM4.out).mono ?_
        rintro e w3 ⟨rfl, m, rfl⟩
        have HK3 := hide (HK.out.drewN m)
        have HS3 := hide (HS2.out.keeps ((Keeps.refl 0 [] wr).drewN m) (by simp) (by simp))
        generalize wr.drewN m = w3 at *
        clear HK HS2
        have hcv := conv_one (P := Try.prog) 28 9 5 Try.underlying28 Try.underlying5 Try.underlying9 b
        go_wp2_with fail
        have HS4 := hide (HS3.out.keeps ((Keeps.refl 0 [] w3).alloc (.cells #[.int .u8 b.toNat] 5)) (by simp) (by simp))
        refine (step_any HS4.out HM2.out (by have := HM3.out; unfold maxLen; omega) (by unfold maxLen; omega)).mono ?_
        rintro e w5 ⟨rfl, hk5, sl5, hS5⟩
        rw [HM5.out] at hS5
        have HS5 := hide hS5
        have HK5 := hide ((HK3.out.alloc _).trans hk5)
        clear hS5 hk5
        go_wp2
        go_roundw
        case rel => exact ⟨j + 1, by omega, by go_num, by rw [str_snoc, ← HGOT.out, take_more _ _ (by rw [readBytes_len ha]; exact hlt), HBY.out], ⟨sl5, HS5.out⟩, HK5.out⟩
        case measure => simp [intOf]; omega
    · obtain rfl : j = v.size + t.size + 2 := by omega
      have hne : (((v.size + t.size + 2 : Nat) : Int) == (a : Int)) = false := by simp; omega
      have hS2 : Src wr w.heap.size g sl [] (v.size + t.size + 2) := by rw [← midSt_end (w := t) ha]; exact HS.out
      have HS2 := hide hS2
      have hgot : (readBytes v t a).take (v.size + t.size + 2) = readBytes v t a := List.take_of_length_le (by rw [readBytes_len ha]; exact Nat.le_refl _)
      rw [hgot]
      clear hS2 HS hgot
      go_wp2_with fail
      refine (peek_empty HS2.out).mono ?_
      rintro e w3 ⟨rfl, rfl⟩
      go_wp2_with fail
      have hstr := read_str v t ha
      obtain ⟨I, hI1, hI2⟩ : ∃ I : World → Prop, (∀ w', I w' → Keeps w.heap.size [45, 47] w w' ∧ Src w' w.heap.size g sl [] (v.size + t.size + 2)) ∧ (∀ w', Keeps w.heap.size [45, 47] w w' → Src w' w.heap.size g sl [] (v.size + t.size + 2) → I w') := ⟨_, fun _ h => h, fun _ h1 h2 => ⟨h1, h2⟩⟩
      have hI : I wr.drew := hI2 _ HK.out.drew ⟨HS2.out.blk, HS2.out.base, HS2.out.own⟩
      have hne : Nonempty (Wd I) := ⟨⟨_, hI⟩⟩
      have XI := hide (fun x : Wd I => hI1 _ x.ok)
      have XJ := hide hI2
      clear hI1 hI2
      have C11 := hide (fun y : Wd I => wd_call (I := I) ((left_zero (XI.out y).2).mono fun e w' hh => ⟨hh.1, by obtain ⟨m, rfl⟩ := hh.2; exact XJ.out _ ((XI.out y).1.drewN m) ⟨(XI.out y).2.blk, (XI.out y).2.base, (XI.out y).2.own⟩⟩))
      have C12 := hide (fun y : Wd I => wd_call (I := I) ((count_two v.size t.size (XI.out y).2).mono fun e w' hh => ⟨hh.1, hh.2 ▸ XJ.out _ (XI.out y).1 (XI.out y).2⟩))
      have C6 := hide (fun y : Wd I => wd_call (I := I) ((awake_any y.w).mono fun e w' hh => ⟨hh.1, XJ.out _ ((XI.out y).1.trans (Keeps.of_below hh.2)) ((XI.out y).2.keeps (Keeps.of_below hh.2 (B := 0) (T := [])) (by simp) (by simp))⟩))
      refine wp_region_wd I (by kernel_rfl) (by kernel_rfl) hI ?_
      repeat (go_big_quiet_step ((first | (go_at_call 11; exact C11.out _) | (go_at_call 12; exact C12.out _) | (go_at_call 6; exact C6.out _))))
      refine wpQuiet_nil ?_
      intro _ hw'
      obtain ⟨x, rfl⟩ := hw'
      go_wp2
      go_ret
      exact ⟨rfl, (XI.out x).1.below (Nat.le_refl _)⟩
end Go.Proofs.Ytmjgleopmnplbaa
